/- Parts of a proof: Es. No conditions. -/
import Derived.Test.YtholfdgebdlgjaaPE16
set_option linter.unusedVariables false
set_option linter.unusedSimpArgs false
namespace Go.Proofs.Ytholfdgebdlgjaa
open Go.RowKit
def endX (t:Tp) (pe:Int → Int → Int):List (List Int):=if Z0j t noX = 0 then endL t pe else []
def Z5h (t:Tp) (po:Int → Int → Int):List Int:=if Z0j t noX = 0 then Zau t po else []
def Z4e (t:Tp) (pe po:Int → Int → Int) (w:World) (e:Ending) (w':World):Prop:=
 ∃ (L:List (Value × List Int)) (P:List Int) (a pa:Option Addr) (c pc:Nat),e = .returned (.tuple #[.slice a L.length c,.slice pa P.length pc,.int .i64 (Z0j t noX)]) ∧ L.map (·.2) = endX t pe ∧ P = Z5h t po ∧
  SlAt [] w' a 1 L.length (fun i=>[(L.getD i (.bool true,[])).1]) ∧ (∀ p ∈ L,Z4T w' p.1 p.2) ∧ Z0E w' (.slice pa P.length pc) 1 (P.map Z0Q) ∧ Ext [] w w'
theorem Z0G (t:Tp):Z0j t noX = begE t true:=ZaO t
theorem Z2o {w W:World} {oa:Option Addr} {va:Nat → Option Addr} {vc:Nat → Nat} {n:Nat} {m:Nat → Nat → Int} (h:MF w oa va vc n m) (e:Ext [] w W):MF W oa va vc n m:=⟨Z1X h.o e,fun x hx=>Z1X (h.r x hx) e⟩
theorem Z0W {n:Nat} (hn:n ≤ 13) {oa:Option Addr} {oc:Nat} {va:Nat → Option Addr} {vc:Nat → Nat} {m:Nat → Nat → Int} {w:World} (h:MF w oa va vc n m) (x y:Nat) (hx:x < n) (hy:y < n) {p q:Int} (e1:-(m y x) = p) (e2:m x y = q) (l1:-100000 ≤ m y x) (l2:m y x ≤ 100000) :
  Calls Try.prog 95 #[.agg #[.slice oa n oc],.int .i64 x,.int .i64 y] w fun e w'=>e = .returned (.agg #[.int .i64 p,.int .i64 q]) ∧ Ext [] w w':=by
 subst e1 e2
 exact Z75 hn h x y hx hy l1 l2
set_option maxRecDepth 100000 in
set_option maxHeartbeats 4000000 in
theorem Z9U (t:Tp) {n:Nat} (hn:t.Ok → (n:Int) = 1 + t.S * t.A + t.T) (ga ra la:Option Addr) (gc rc lc:Nat) (w:World) (ht:IsTp w (.slice ga t.gr.length gc) (.slice ra t.rd.length rc) (.slice la t.lk.length lc) t) (l1:t.gr.length ≤ 1000) (l2:t.rd.length ≤ 1000) (l3:t.lk.length ≤ 1000) :
  Calls Try.prog 122 #[tpV t (.slice ga t.gr.length gc) (.slice ra t.rd.length rc) (.slice la t.lk.length lc),.bool false] w (Z4e t fstI sndI w):=by
 have E:Ext [] w w:=Ext.refl _ _
 have HT:=Lib.hid ht
 clear ht
 unfold tpV
 refine Z01 82 Try.func122 rfl Try.ntmps122 (Nat.le_of_ble_eq_true rfl) ?_
 intro fa F
 refine wp_seq_k fun K1 hK1=>?_
 refine wp_region_lit ?_
 refine Z00 F rfl (by decide) rfl (Z0z rfl (F.at rfl)) ?_;clear F fa;intro fa w1 F hw
 obtain ⟨n2,hn⟩:∃ n,n = w.heap.size:=⟨_,rfl⟩
 rw [← hn] at F
 have s2:w.heap.size ≤ n2:=Nat.le_of_eq hn.symm
 have l2_E:w.heap.size ≤ n2:=by rw [hn];exact E.size
 replace E:=Z2 E hw
 have q2:=Zr hw hn
 clear hw hn
 refine F.vl (Z8 rfl (ev_c fa _)) ?_;clear F fa;intro fa F
 refine F.vl (Z8 rfl (ev_c fa _)) ?_;clear F fa;intro fa F
 refine F.vl (Z8 rfl (ev_c fa _)) ?_;clear F fa;intro fa F
 refine wpList_nil ?_
 refine hK1 _ _ ?_
 clear hK1
 refine wp_seq_k fun K2 hK2=>?_
 refine wp_region_lit ?_
 refine F.vl (Zt rfl (F.at rfl) Try.underlying28 rfl (by kernel_rfl) q2) ?_;clear F fa;intro fa F
 refine ZX F rfl (by decide) rfl (ZG rfl rfl Try.call93 (mpS (F.at rfl) (mpS (ev_c fa _) mp0))) (Z3a t hn true ga ra la gc rc lc _ (HT.out.ext E (by simp)) l1 l2 l3) fun e w2 hR=>?_
 obtain ⟨oa,k,oc,va,vc,rfl,hk,ism,eX⟩:=hR
 refine ⟨_,rfl,?_⟩;clear F fa;intro fa F
 replace q2:=(eX).keep0 q2
 replace E:=Z4 E (eX)
 have HMF:=Lib.hid (Z8q ism)
 clear ism
 have EM:Ext [] w2 w2:=Ext.refl _ _
 obtain ⟨B0,hB0⟩:∃ B0,B0 = w2.heap.size:=⟨_,rfl⟩
 have hB0w:w.heap.size ≤ B0:=by rw [hB0];exact E.size
 have oo:w2.ownsRow B0 29 1 (.slice none 0 0) 0 (([]:List (Value × List Int)).map (·.1)):=World.ownsRow_nil _ _ _ _
 have fam:FamT w2 B0 []:=Z4x _ _
 refine F.mv ?_;clear F fa;intro fa F
 refine F.vl (Zm rfl (F.at rfl) (get0)) ?_;clear F fa;intro fa F
 refine F.vl (Zm rfl (F.at rfl) (getS (get0))) ?_;clear F fa;intro fa F
 refine Z00 F rfl (by decide) rfl (ZB rfl Try.zeroValue111) ?_;clear F fa;intro fa w3 F hw
 obtain ⟨n7,hn⟩:∃ n,n = w2.heap.size:=⟨_,rfl⟩
 rw [← hn] at F
 have s7:w2.heap.size ≤ n7:=Nat.le_of_eq hn.symm
 have l7_E:w.heap.size ≤ n7:=by rw [hn];exact E.size
 have l7_EM:w2.heap.size ≤ n7:=by rw [hn];exact EM.size
 have m7_2:n2 < n7:=by rw [hn];exact Z7 q2
 have o7_oo:=Lib.hid (Zo oo hn)
 replace oo:=Zc hw oo
 replace fam:=ZL fam fun _ _ _ h=>Zc hw h
 replace q2:=Z1 hw q2
 replace E:=Z2 E hw
 replace EM:=Z2 EM hw
 have q7:=Zr hw hn
 clear hw hn
 refine Z1L rfl rfl (Zg rfl (F.at rfl) (F.at rfl) (by kernel_rfl) (by first | (simp [Value.oneCell'];done) | (simp [Value.oneCell',Z0K,Z0B,Z0L];done)) q7 rfl) ?_;intro w4 hw
 replace oo:=Zu hw oo (Z6 oo q7 (by decide))
 replace fam:=ZL fam fun _ _ _ h=>Zu hw h (Z6 h q7 (by decide))
 replace q2:=Z5 hw q2 (by omega)
 replace q7:=Zz hw q7 rfl
 replace E:=Za E hw (fun h=>by first | exact absurd h (by omega) | simp)
 replace EM:=Za EM hw (fun h=>by first | exact absurd h (by omega) | simp)
 clear hw
 refine F.as ?_;clear F fa;intro fa F
 refine wpList_nil ?_
 refine hK2 _ _ ?_
 clear hK2
 refine wp_seq_k fun K3 hK3=>?_
 refine wp_seq_k fun K4 hK4=>?_
 refine wp_region_lit ?_
 refine F.mv ?_;clear F fa;intro fa F
 refine F.vl (Z3v rfl (F.at rfl) (ev_c fa _)) ?_;clear F fa;intro fa F
 refine wpList_nil ?_
 refine hK4 _ _ ?_
 clear hK4
 refine Z0J F rfl (fun hc23=>?_) (fun hc23=>?_)
 ·skip
  refine wp_seq_k fun K5 hK5=>?_
  refine wp_region_lit ?_
  refine F.mv ?_;clear F fa;intro fa F
  refine F.vl (Z8 rfl (ev_c fa _)) ?_;clear F fa;intro fa F
  refine F.vl (Z8 rfl (ev_c fa _)) ?_;clear F fa;intro fa F
  refine F.as ?_;clear F fa;intro fa F
  refine wpList_nil ?_
  refine hK5 _ _ ?_
  clear hK5
  refine wp_ret ?_
  (try simp only [Exit.inBlock,Exit.then])
  refine rt_v F (rs_3 F rfl rfl rfl rfl) ?_
  exact ⟨[],[],none,none,0,0,by rw [Z0G];rfl,by rw [endX,if_neg (by rw [Z0G];omega)];rfl,by rw [Z5h,if_neg (by rw [Z0G];omega)],(fun i hi=>absurd hi (Nat.not_lt_zero _)),(fun p hp=>by cases hp),Z0M _ _ _,E⟩
 ·skip
  refine wp_skip ?_
  refine hK3 _ _ ?_
  clear hK3
  refine wp_seq_k fun K6 hK6=>?_
  have h0:begE t true = 0:=by omega
  obtain ⟨hL,-⟩:=Z1Z h0
  have hnn:=hn hL.ok
  obtain rfl:=hk h0
  have hl0:=(Z2X hL.ok hnn).2
  have hT3:=hL.ok.T3
  have hT1:=hL.ok.T1
  have o1:=hL.ok.S1
  have o2:=hL.ok.S3
  have o3:=hL.ok.A1
  have o4:=hL.ok.A3
  refine wp_region_lit ?_
  refine F.vl (Z8 rfl (ev_c fa _)) ?_;clear F fa;intro fa F
  refine wpList_nil ?_
  refine hK6 _ _ ?_
  clear hK6
  refine wp_seq_k fun K7 hK7=>?_
  refine wp_region_lit ?_
  refine F.vl (Z8 rfl (ev_c fa _)) ?_;clear F fa;intro fa F
  refine wpList_nil ?_
  refine hK7 _ _ ?_
  clear hK7
  refine wp_seq_k fun K8 hK8=>?_
  refine wp_seq_k fun K9 hK9=>?_
  refine wp_region_lit ?_
  refine F.vl (Z8 rfl (ev_c fa _)) ?_;clear F fa;intro fa F
  refine wpList_nil ?_
  refine hK9 _ _ ?_
  clear hK9
  refine wp_block ?_
  have F0:=F.sub (.c 1 rfl (.c 2 rfl (.c 7 rfl (.c 10 rfl .n))))
  refine Z0U F0 (t.S.toNat) (fun i Lv W=>∃ va2:Option Addr,∃ vc2:Nat,∃ O:List (Value × List Int),Lv = [(9,.slice va2 O.length vc2),(11,.int .i64 ((i:Nat):Int))] ∧ Ext [] w W ∧ Ext [] w2 W ∧ W.heap[n2]? = some (.cells #[.int .i64 t.S,.int .i64 t.A,.int .i64 t.T,.int .i64 t.bl,.int .i64 t.bm,.int .i64 t.pl,.int .i64 t.pm,.int .i64 t.sl,.slice ga t.gr.length gc,.slice ra t.rd.length rc,.slice la t.lk.length lc] 28 (0,0)) ∧ W.heap[n7]? = some (.cells #[.slice oa k oc] 111 (0,0)) ∧ W.ownsRow B0 29 1 (.slice va2 O.length vc2) O.length (O.map (·.1)) ∧ FamT W B0 O ∧ O.map (·.2) = (List.range i).map (fun s=>rowL t fstI s t.A.toNat)) ⟨_,⟨none,0,[],rfl,E,EM,q2,q7,oo,fam,rfl⟩,F.sub (.c 9 rfl (.c 11 rfl (.c 1 rfl (.c 2 rfl (.c 7 rfl (.c 10 rfl .n))))))⟩ ?_
  clear F F0
  clear E EM q2 q7
  clear oo
  clear fam
  rintro i _ fa w5 hi1 ⟨va2,vc2,O,rfl,E,EM,q2,q7,oo,fam,hO⟩ F
  have hOl:O.length = i:=by have:=congrArg List.length hO;simpa using this
  refine wp_seq_k fun K10 hK10=>?_
  refine wp_seq_k fun K11 hK11=>?_
  refine wp_region_lit ?_
  refine F.mv ?_;clear F fa;intro fa F
  refine F.vl (Z9 rfl (F.at rfl) Try.underlying28 rfl (n:=0) (sz:=1) rfl (by kernel_rfl) (by decide)) ?_;clear F fa;intro fa F
  refine F.vl (Zh rfl (F.at rfl) Try.underlying3 rfl ((Z0 q2 0).trans (get0))) ?_;clear F fa;intro fa F
  refine F.vl (Z1d rfl (F.at rfl) (F.at rfl)) ?_;clear F fa;intro fa F
  refine wpList_nil ?_
  refine hK11 _ _ ?_
  clear hK11
  refine Z0J F rfl (fun hc28=>?_) (fun hc28=>?_)
  ·skip
   refine wp_skip ?_
   refine hK10 _ _ ?_
   clear hK10
   refine wp_seq_k fun K12 hK12=>?_
   refine wp_block ?_
   refine wp_seq_k fun K13 hK13=>?_
   refine wp_region_lit ?_
   refine F.vl (Z8 rfl (ev_c fa _)) ?_;clear F fa;intro fa F
   refine wpList_nil ?_
   have hflt:=Lib.hid (Z5R fam)
   obtain ⟨B1,hB1⟩:∃ B1,B1 = w5.heap.size:=⟨_,rfl⟩
   rw [← hB1] at hflt
   have hB1w:B0 ≤ B1:=by rw [hB0,hB1];exact EM.size
   have hB1i:w5.heap.size ≤ B1:=by rw [hB1];exact Nat.le_refl _
   have ro:w5.ownsRow B1 3 1 (.slice none 0 0) 0 (ivs []):=World.ownsRow_nil _ _ _ _
   have EB:Ext [] w5 w5:=Ext.refl _ _
   refine hK13 _ _ ?_
   clear hK13
   refine wp_seq_k fun K14 hK14=>?_
   refine wp_seq_k fun K15 hK15=>?_
   refine wp_region_lit ?_
   refine F.vl (Z8 rfl (ev_c fa _)) ?_;clear F fa;intro fa F
   refine wpList_nil ?_
   refine hK15 _ _ ?_
   clear hK15
   refine wp_block ?_
   have F0:=F.sub (.c 1 rfl (.c 2 rfl (.c 7 rfl (.c 9 rfl (.c 10 rfl (.c 11 rfl .n))))))
   refine Z0U F0 (t.A.toNat) (fun j Lv W=>∃ va3:Option Addr,∃ vc3:Nat,∃ R:List Int,Lv = [(12,.slice va3 R.length vc3),(13,.int .i64 ((j:Nat):Int))] ∧ Ext [] w W ∧ Ext [] w2 W ∧ Ext [] w5 W ∧ W.heap[n2]? = some (.cells #[.int .i64 t.S,.int .i64 t.A,.int .i64 t.T,.int .i64 t.bl,.int .i64 t.bm,.int .i64 t.pl,.int .i64 t.pm,.int .i64 t.sl,.slice ga t.gr.length gc,.slice ra t.rd.length rc,.slice la t.lk.length lc] 28 (0,0)) ∧ W.heap[n7]? = some (.cells #[.slice oa k oc] 111 (0,0)) ∧ W.ownsRow B0 29 1 (.slice va2 O.length vc2) O.length (O.map (·.1)) ∧ FamT W B0 O ∧ W.ownsRow B1 3 1 (.slice va3 R.length vc3) R.length (ivs R) ∧ R = rowL t fstI i j ∧ R.length = j) ⟨_,⟨none,0,[],rfl,E,EM,EB,q2,q7,oo,fam,ro,rfl,rfl⟩,F.sub (.c 12 rfl (.c 13 rfl (.c 1 rfl (.c 2 rfl (.c 7 rfl (.c 9 rfl (.c 10 rfl (.c 11 rfl .n))))))))⟩ ?_
   clear F F0
   clear E EM EB q2 q7 oo fam
   clear ro
   rintro j _ fa w6 hi2 ⟨va3,vc3,R,rfl,E,EM,EB,q2,q7,oo,fam,ro,hR,hRl⟩ F
   refine wp_seq_k fun K16 hK16=>?_
   refine wp_seq_k fun K17 hK17=>?_
   refine wp_region_lit ?_
   refine F.mv ?_;clear F fa;intro fa F
   refine F.vl (Z9 rfl (F.at rfl) Try.underlying28 rfl (n:=1) (sz:=1) rfl (by kernel_rfl) (by decide)) ?_;clear F fa;intro fa F
   refine F.vl (Zh rfl (F.at rfl) Try.underlying3 rfl ((Z0 q2 1).trans (getS (get0)))) ?_;clear F fa;intro fa F
   refine F.vl (Z1d rfl (F.at rfl) (F.at rfl)) ?_;clear F fa;intro fa F
   refine wpList_nil ?_
   refine hK17 _ _ ?_
   clear hK17
   refine Z0J F rfl (fun hc34=>?_) (fun hc34=>?_)
   ·skip
    refine wp_skip ?_
    refine hK16 _ _ ?_
    clear hK16
    refine wp_seq_k fun K18 hK18=>?_
    refine wp_block ?_
    refine wp_seq_k fun K19 hK19=>?_
    have hiS:(i:Int) < t.S:=by omega
    have hjA:(j:Int) < t.A:=by omega
    have hlt:=ZaI hL.ok hnn (s:=(i:Int)) (a:=(j:Int)) (by omega) hiS (by omega) hjA
    have k1:=Z2C hL.ok hL.bdB hnn (i:=rnI t (i:Int) (j:Int)) (j:=0) hlt hl0
    have k2:=Z2C hL.ok hL.bdB hnn (i:=0) (j:=rnI t (i:Int) (j:Int)) hl0 hlt
    rw [Z7T,Z7H hL.ok (by omega) hiS (by omega) hjA] at k1 k2
    suffices hcut:∀ (n14:Nat) (fa:Act) (w19:World),Has 82 fa [(1,.bool false),(2,.pointer (some ⟨n2,0,none⟩)),(7,.pointer (some ⟨n7,0,none⟩)),(9,.slice va2 O.length vc2),(10,.slice none 0 0),(11,.int .i64 ((i:Nat):Int)),(12,.slice va3 R.length vc3),(13,.int .i64 ((j:Nat):Int)),(14,.pointer (some ⟨n14,0,none⟩))] → w19.heap[n2]? = some (.cells #[.int .i64 t.S,.int .i64 t.A,.int .i64 t.T,.int .i64 t.bl,.int .i64 t.bm,.int .i64 t.pl,.int .i64 t.pm,.int .i64 t.sl,.slice ga t.gr.length gc,.slice ra t.rd.length rc,.slice la t.lk.length lc] 28 (0,0)) → w19.heap[n7]? = some (.cells #[.slice oa k oc] 111 (0,0)) → w19.heap[n14]? = some (.cells #[.int .i64 (mlo t i j),.int .i64 (mhi t i j)] 23 (0,0)) → Ext [] w w19 → Ext [] w2 w19 → Ext [] w5 w19 → w.heap.size ≤ n14 → w2.heap.size ≤ n14 → w5.heap.size ≤ n14 → n2 ≠ n14 → n7 ≠ n14 → w19.ownsRow B0 29 1 (.slice va2 O.length vc2) O.length (O.map (·.1)) → FamT w19 B0 O → w19.ownsRow B1 3 1 (.slice va3 R.length vc3) R.length (ivs R) → K19 fa w19 by
     refine Z0P (Ext [] w6) none follows fun w7 hh eh=>?_
     have q2_:=q2
     replace q2:=Zn hh q2
     have q7_:=q7
     replace q7:=Zn hh q7
     have E_:=E
     have zEw7:=E.size
     replace E:=Z4 E eh
     have EM_:=EM
     have zEMw7:=EM.size
     replace EM:=Z4 EM eh
     have EB_:=EB
     have zEBw7:=EB.size
     replace EB:=Z4 EB eh
     replace oo:=ZW hh oo
     replace fam:=ZL fam fun _ _ _ h=>ZW hh h
     replace ro:=ZW hh ro
     have eT:=eh
     clear hh eh
     refine F.xr (i:=0) rfl (fun w' hS=>Zt rfl (F.at rfl) Try.underlying111 rfl (by kernel_rfl) (hS.keep q7_ (by simp))) (fun _=>eT) ?_;clear F fa;intro fa F
     refine F.xr (i:=1) rfl (fun w' hS=>Zt rfl (F.at rfl) Try.underlying28 rfl (by kernel_rfl) (hS.keep q2_ (by simp))) (fun _=>eT) ?_;clear F fa;intro fa F
     refine F.x (i:=2) rfl (fun w'=>Zi rfl (F.at rfl)) (fun _=>eT) ?_;clear F fa;intro fa F
     refine F.x (i:=3) rfl (fun w'=>Zi rfl (F.at rfl)) (fun _=>eT) ?_;clear F fa;intro fa F
     refine Z19 (i:=4) (j:=6) (by kernel_rfl) ?_ ?_
     ·skip
      refine (Z07 F rfl rfl (by decide) rfl (ZG rfl rfl Try.call96 (mpS (F.at rfl) (mpS (F.at rfl) (mpS (F.at rfl) mp0)))) (Z0n hL.ok _ _ _ (i:Int) (j:Int) _ (by omega) hiS (by omega) hjA) fun e w8 hR=>?_)
      obtain ⟨rfl,e9⟩:=hR
      refine ⟨_,rfl,?_⟩;clear F fa;intro fa F
      replace oo:=Zq oo (e9) (by simp)
      replace fam:=ZL fam fun _ _ _ h=>Zq h (e9) (by simp)
      replace ro:=Zq ro (e9) (by simp)
      replace q2:=(e9).keep0 q2
      replace q7:=(e9).keep0 q7
      replace E:=Z4 E (e9)
      replace EM:=Z4 EM (e9)
      replace EB:=Z4 EB (e9)
      replace eT:=Z4 eT (e9)
      clear e9
      refine ⟨fun _=>eT,?_⟩
      refine Z19 (i:=5) (j:=6) (by kernel_rfl) ?_ ?_
      ·skip
       refine (Z07 F rfl rfl (by decide) rfl (ZG rfl rfl Try.call95 (mpS (F.at rfl) (mpS (F.at rfl) (mpS (ev_c fa _) mp0)))) (Z0W (Z2X hL.ok hnn).1 (Z2o HMF.out EM) (rnI t (i:Int) (j:Int)) 0 hlt hl0 (p:=mlo t i j) (q:=mhi t i j) (by rw [k2.1];rfl) k1.1 k2.2.1 k2.2.2) fun e w9 hR=>?_)
       obtain ⟨rfl,e9⟩:=hR
       refine ⟨_,rfl,?_⟩;clear F fa;intro fa F
       replace oo:=Zq oo (e9) (by simp)
       replace fam:=ZL fam fun _ _ _ h=>Zq h (e9) (by simp)
       replace ro:=Zq ro (e9) (by simp)
       replace q2:=(e9).keep0 q2
       replace q7:=(e9).keep0 q7
       replace E:=Z4 E (e9)
       replace EM:=Z4 EM (e9)
       replace EB:=Z4 EB (e9)
       replace eT:=Z4 eT (e9)
       clear e9
       refine ⟨fun _=>eT,?_⟩
       refine Zv (i:=6) (by kernel_rfl) (Z0w F rfl rfl (by decide) rfl (ZB rfl Try.zeroValue23) ?_);clear F fa;intro fa w10 F hw
       obtain ⟨n14,hn⟩:∃ n,n = w9.heap.size:=⟨_,rfl⟩
       rw [← hn] at F
       have s14:w9.heap.size ≤ n14:=Nat.le_of_eq hn.symm
       have l14_E:w.heap.size ≤ n14:=by rw [hn];exact E.size
       have l14_EM:w2.heap.size ≤ n14:=by rw [hn];exact EM.size
       have l14_EB:w5.heap.size ≤ n14:=by rw [hn];exact EB.size
       have lT14:w6.heap.size ≤ n14:=by rw [hn];exact eT.size
       have m14_2:n2 < n14:=by rw [hn];exact Z7 q2
       have m14_7:n7 < n14:=by rw [hn];exact Z7 q7
       have o14_oo:=Lib.hid (Zo oo hn)
       have o14_ro:=Lib.hid (Zo ro hn)
       replace oo:=Zc hw oo
       replace fam:=ZL fam fun _ _ _ h=>Zc hw h
       replace ro:=Zc hw ro
       replace q2:=Z1 hw q2
       replace q7:=Z1 hw q7
       replace E:=Z2 E hw
       replace EM:=Z2 EM hw
       replace EB:=Z2 EB hw
       replace eT:=Z2 eT hw
       have q14:=Zr hw hn
       clear hw hn
       refine ⟨fun _=>eT,?_⟩
       refine Zv (i:=7) (by kernel_rfl) (Z0u rfl rfl rfl (Zg rfl (F.at rfl) (F.at rfl) (by kernel_rfl) (by first | (simp [Value.oneCell'];done) | (simp [Value.oneCell',Z0K,Z0B,Z0L];done)) q14 rfl) ?_);intro w11 hw
       replace oo:=Zu hw oo (Z6 oo q14 (by decide))
       replace fam:=ZL fam fun _ _ _ h=>Zu hw h (Z6 h q14 (by decide))
       replace ro:=Zu hw ro (Z6 ro q14 (by decide))
       replace q2:=Z5 hw q2 (by omega)
       replace q7:=Z5 hw q7 (by omega)
       replace q14:=Zz hw q14 rfl
       replace E:=Za E hw (fun h=>by first | exact absurd h (by omega) | simp)
       replace EM:=Za EM hw (fun h=>by first | exact absurd h (by omega) | simp)
       replace EB:=Za EB hw (fun h=>by first | exact absurd h (by omega) | simp)
       replace eT:=Za eT hw (fun h=>by first | exact absurd h (by omega) | simp)
       clear hw
       refine ⟨fun _=>eT,?_⟩
       refine Z0a (by kernel_rfl) ?_ _
       exact hcut _ _ _ (F.sub (.c 1 rfl (.c 2 rfl (.c 7 rfl (.c 9 rfl (.c 10 rfl (.c 11 rfl (.c 12 rfl (.c 13 rfl (.c 14 rfl .n)))))))))) q2 q7 q14 E EM EB (by omega) (by omega) (by omega) (by omega) (by omega) oo fam ro
      ·skip
       refine (Z0w F rfl rfl (by decide) rfl (ZB rfl Try.zeroValue23) ?_);clear F fa;intro fa w12 F hw
       obtain ⟨n14,hn⟩:∃ n,n = w8.heap.size:=⟨_,rfl⟩
       rw [← hn] at F
       have s14:w8.heap.size ≤ n14:=Nat.le_of_eq hn.symm
       have l14_E:w.heap.size ≤ n14:=by rw [hn];exact E.size
       have l14_EM:w2.heap.size ≤ n14:=by rw [hn];exact EM.size
       have l14_EB:w5.heap.size ≤ n14:=by rw [hn];exact EB.size
       have lT14:w6.heap.size ≤ n14:=by rw [hn];exact eT.size
       have m14_2:n2 < n14:=by rw [hn];exact Z7 q2
       have m14_7:n7 < n14:=by rw [hn];exact Z7 q7
       have o14_oo:=Lib.hid (Zo oo hn)
       have o14_ro:=Lib.hid (Zo ro hn)
       replace oo:=Zc hw oo
       replace fam:=ZL fam fun _ _ _ h=>Zc hw h
       replace ro:=Zc hw ro
       replace q2:=Z1 hw q2
       replace q7:=Z1 hw q7
       replace E:=Z2 E hw
       replace EM:=Z2 EM hw
       replace EB:=Z2 EB hw
       replace eT:=Z2 eT hw
       have q14:=Zr hw hn
       clear hw hn
       refine ⟨fun _=>eT,?_⟩
       refine Zv (i:=5) (by kernel_rfl) (Z07 F rfl rfl (by decide) rfl (ZG rfl rfl Try.call95 (mpS (F.at rfl) (mpS (F.at rfl) (mpS (ev_c fa _) mp0)))) (Z0W (Z2X hL.ok hnn).1 (Z2o HMF.out EM) (rnI t (i:Int) (j:Int)) 0 hlt hl0 (p:=mlo t i j) (q:=mhi t i j) (by rw [k2.1];rfl) k1.1 k2.2.1 k2.2.2) fun e w13 hR=>?_)
       obtain ⟨rfl,e9⟩:=hR
       refine ⟨_,rfl,?_⟩;clear F fa;intro fa F
       replace oo:=Zq oo (e9) (by simp)
       replace fam:=ZL fam fun _ _ _ h=>Zq h (e9) (by simp)
       replace ro:=Zq ro (e9) (by simp)
       replace q2:=(e9).keep0 q2
       replace q7:=(e9).keep0 q7
       replace q14:=(e9).keep0 q14
       replace E:=Z4 E (e9)
       replace EM:=Z4 EM (e9)
       replace EB:=Z4 EB (e9)
       replace eT:=Z4 eT (e9)
       clear e9
       refine ⟨fun _=>eT,?_⟩
       refine Zv (i:=7) (by kernel_rfl) (Z0u rfl rfl rfl (Zg rfl (F.at rfl) (F.at rfl) (by kernel_rfl) (by first | (simp [Value.oneCell'];done) | (simp [Value.oneCell',Z0K,Z0B,Z0L];done)) q14 rfl) ?_);intro w14 hw
       replace oo:=Zu hw oo (Z6 oo q14 (by decide))
       replace fam:=ZL fam fun _ _ _ h=>Zu hw h (Z6 h q14 (by decide))
       replace ro:=Zu hw ro (Z6 ro q14 (by decide))
       replace q2:=Z5 hw q2 (by omega)
       replace q7:=Z5 hw q7 (by omega)
       replace q14:=Zz hw q14 rfl
       replace E:=Za E hw (fun h=>by first | exact absurd h (by omega) | simp)
       replace EM:=Za EM hw (fun h=>by first | exact absurd h (by omega) | simp)
       replace EB:=Za EB hw (fun h=>by first | exact absurd h (by omega) | simp)
       replace eT:=Za eT hw (fun h=>by first | exact absurd h (by omega) | simp)
       clear hw
       refine ⟨fun _=>eT,?_⟩
       refine Z0a (by kernel_rfl) ?_ _
       exact hcut _ _ _ (F.sub (.c 1 rfl (.c 2 rfl (.c 7 rfl (.c 9 rfl (.c 10 rfl (.c 11 rfl (.c 12 rfl (.c 13 rfl (.c 14 rfl .n)))))))))) q2 q7 q14 E EM EB (by omega) (by omega) (by omega) (by omega) (by omega) oo fam ro
     ·skip
      refine (Z0w F rfl rfl (by decide) rfl (ZB rfl Try.zeroValue23) ?_);clear F fa;intro fa w15 F hw
      obtain ⟨n14,hn⟩:∃ n,n = w7.heap.size:=⟨_,rfl⟩
      rw [← hn] at F
      have s14:w7.heap.size ≤ n14:=Nat.le_of_eq hn.symm
      have l14_E:w.heap.size ≤ n14:=by rw [hn];exact E.size
      have l14_EM:w2.heap.size ≤ n14:=by rw [hn];exact EM.size
      have l14_EB:w5.heap.size ≤ n14:=by rw [hn];exact EB.size
      have lT14:w6.heap.size ≤ n14:=by rw [hn];exact eT.size
      have m14_2:n2 < n14:=by rw [hn];exact Z7 q2
      have m14_7:n7 < n14:=by rw [hn];exact Z7 q7
      have o14_oo:=Lib.hid (Zo oo hn)
      have o14_ro:=Lib.hid (Zo ro hn)
      replace oo:=Zc hw oo
      replace fam:=ZL fam fun _ _ _ h=>Zc hw h
      replace ro:=Zc hw ro
      replace q2:=Z1 hw q2
      replace q7:=Z1 hw q7
      replace E:=Z2 E hw
      replace EM:=Z2 EM hw
      replace EB:=Z2 EB hw
      replace eT:=Z2 eT hw
      have q14:=Zr hw hn
      clear hw hn
      refine ⟨fun _=>eT,?_⟩
      refine Zv (i:=4) (by kernel_rfl) (Z07 F rfl rfl (by decide) rfl (ZG rfl rfl Try.call96 (mpS (F.at rfl) (mpS (F.at rfl) (mpS (F.at rfl) mp0)))) (Z0n hL.ok _ _ _ (i:Int) (j:Int) _ (by omega) hiS (by omega) hjA) fun e w16 hR=>?_)
      obtain ⟨rfl,e9⟩:=hR
      refine ⟨_,rfl,?_⟩;clear F fa;intro fa F
      replace oo:=Zq oo (e9) (by simp)
      replace fam:=ZL fam fun _ _ _ h=>Zq h (e9) (by simp)
      replace ro:=Zq ro (e9) (by simp)
      replace q2:=(e9).keep0 q2
      replace q7:=(e9).keep0 q7
      replace q14:=(e9).keep0 q14
      replace E:=Z4 E (e9)
      replace EM:=Z4 EM (e9)
      replace EB:=Z4 EB (e9)
      replace eT:=Z4 eT (e9)
      clear e9
      refine ⟨fun _=>eT,?_⟩
      refine Zv (i:=5) (by kernel_rfl) (Z07 F rfl rfl (by decide) rfl (ZG rfl rfl Try.call95 (mpS (F.at rfl) (mpS (F.at rfl) (mpS (ev_c fa _) mp0)))) (Z0W (Z2X hL.ok hnn).1 (Z2o HMF.out EM) (rnI t (i:Int) (j:Int)) 0 hlt hl0 (p:=mlo t i j) (q:=mhi t i j) (by rw [k2.1];rfl) k1.1 k2.2.1 k2.2.2) fun e w17 hR=>?_)
      obtain ⟨rfl,e9⟩:=hR
      refine ⟨_,rfl,?_⟩;clear F fa;intro fa F
      replace oo:=Zq oo (e9) (by simp)
      replace fam:=ZL fam fun _ _ _ h=>Zq h (e9) (by simp)
      replace ro:=Zq ro (e9) (by simp)
      replace q2:=(e9).keep0 q2
      replace q7:=(e9).keep0 q7
      replace q14:=(e9).keep0 q14
      replace E:=Z4 E (e9)
      replace EM:=Z4 EM (e9)
      replace EB:=Z4 EB (e9)
      replace eT:=Z4 eT (e9)
      clear e9
      refine ⟨fun _=>eT,?_⟩
      refine Zv (i:=7) (by kernel_rfl) (Z0u rfl rfl rfl (Zg rfl (F.at rfl) (F.at rfl) (by kernel_rfl) (by first | (simp [Value.oneCell'];done) | (simp [Value.oneCell',Z0K,Z0B,Z0L];done)) q14 rfl) ?_);intro w18 hw
      replace oo:=Zu hw oo (Z6 oo q14 (by decide))
      replace fam:=ZL fam fun _ _ _ h=>Zu hw h (Z6 h q14 (by decide))
      replace ro:=Zu hw ro (Z6 ro q14 (by decide))
      replace q2:=Z5 hw q2 (by omega)
      replace q7:=Z5 hw q7 (by omega)
      replace q14:=Zz hw q14 rfl
      replace E:=Za E hw (fun h=>by first | exact absurd h (by omega) | simp)
      replace EM:=Za EM hw (fun h=>by first | exact absurd h (by omega) | simp)
      replace EB:=Za EB hw (fun h=>by first | exact absurd h (by omega) | simp)
      replace eT:=Za eT hw (fun h=>by first | exact absurd h (by omega) | simp)
      clear hw
      refine ⟨fun _=>eT,?_⟩
      refine Z0a (by kernel_rfl) ?_ _
      exact hcut _ _ _ (F.sub (.c 1 rfl (.c 2 rfl (.c 7 rfl (.c 9 rfl (.c 10 rfl (.c 11 rfl (.c 12 rfl (.c 13 rfl (.c 14 rfl .n)))))))))) q2 q7 q14 E EM EB (by omega) (by omega) (by omega) (by omega) (by omega) oo fam ro
    clear F q2 q7 E EM EB oo fam ro fa
    intro n14  fa w19 F q2 q7 q14 E EM EB l14_E l14_EM l14_EB m14_2 m14_7 oo fam ro
    refine hK19 _ _ ?_
    clear hK19
    refine wp_seq_k fun K20 hK20=>?_
    refine wp_region_lit ?_
    refine F.mv ?_;clear F fa;intro fa F
    refine wpList_nil ?_
    refine hK20 _ _ ?_
    clear hK20
    refine cd_F F rfl ?_
    refine wp_region_lit ?_
    refine F.mv ?_;clear F fa;intro fa F
    refine F.vl (Z9 rfl (F.at rfl) Try.underlying23 rfl (n:=0) (sz:=1) rfl (by kernel_rfl) (by decide)) ?_;clear F fa;intro fa F
    refine F.vl (Zh rfl (F.at rfl) Try.underlying3 rfl ((Z0 q14 0).trans (get0))) ?_;clear F fa;intro fa F
    refine Z00 F rfl (by decide) rfl (Z09 rfl (prS (F.at rfl) pr0) Try.underlying29 (size:=1) (by kernel_rfl) (by decide) (by decide) Try.zeroValue3 (cells:=#[.int .i64 (mlo t i j)]) (by kernel_rfl)) ?_;clear F fa;intro fa w20 F hw
    obtain ⟨n52,hn⟩:∃ n,n = w19.heap.size:=⟨_,rfl⟩
    rw [← hn] at F
    have s52:w19.heap.size ≤ n52:=Nat.le_of_eq hn.symm
    have l52_E:w.heap.size ≤ n52:=by rw [hn];exact E.size
    have l52_EM:w2.heap.size ≤ n52:=by rw [hn];exact EM.size
    have l52_EB:w5.heap.size ≤ n52:=by rw [hn];exact EB.size
    have m52_2:n2 < n52:=by rw [hn];exact Z7 q2
    have m52_7:n7 < n52:=by rw [hn];exact Z7 q7
    have m52_14:n14 < n52:=by rw [hn];exact Z7 q14
    have o52_oo:=Lib.hid (Zo oo hn)
    have o52_ro:=Lib.hid (Zo ro hn)
    replace oo:=Zc hw oo
    replace fam:=ZL fam fun _ _ _ h=>Zc hw h
    replace ro:=Zc hw ro
    replace q2:=Z1 hw q2
    replace q7:=Z1 hw q7
    replace q14:=Z1 hw q14
    replace E:=Z2 E hw
    replace EM:=Z2 EM hw
    replace EB:=Z2 EB hw
    have q52:=Zw hw hn
    clear hw hn
    have hEs:=EB.size
    refine Z27 F rfl (by decide) rfl (Z0T rfl (B1) (e:=3) (size:=1) (bytes:=8) Try.underlying29 (by kernel_rfl) (by decide) (F.at rfl) ro (F.at rfl) q52 rfl (by simp [Value.oneCell']) (by omega) (by omega) (by omega)) ?_;clear F fa;rintro fa v' w21 F ⟨hown',hg⟩
    obtain ⟨va53,vc53,rfl⟩:=Zs hown'
    replace q2:=Zb ro hg q2 (by decide)
    replace q7:=Zb ro hg q7 (by decide)
    replace q14:=Zb ro hg q14 (by decide)
    replace oo:=Zx oo ro hg (by decide)
    replace fam:=Z4r fam hflt.out ro hg
    replace E:=Zd E ro hg (by omega)
    replace EM:=Zd EM ro hg (by omega)
    replace EB:=Zd EB ro hg (by omega)
    replace ro:=hown'
    clear hg
    obtain ⟨P2,hP2e⟩:∃ P2,P2 = R ++ [(fstI (mlo t i j) (mhi t i j))]:=⟨_,rfl⟩
    have hPl3:R.length + 1 = P2.length:=by rw [hP2e,List.length_append];rfl
    have hRl2:P2.length = j + 1:=by omega
    have hR2:P2 = rowL t fstI i (j + 1):=by rw [Z4s,hP2e,hR]
    rw [show [Value.int .i64 (mlo t i j)] = [Value.int .i64 (fstI (mlo t i j) (mhi t i j))] from rfl,Z21,← hP2e,hPl3] at ro
    rw [hPl3] at F
    refine F.as ?_;clear F fa;intro fa F
    refine wpList_nil ?_
    refine hK18 _ _ ?_
    clear hK18
    refine wp_region_lit ?_
    refine F.mv ?_;clear F fa;intro fa F
    refine F.vl (Z0F rfl (F.at rfl) (ev_c fa _) (by omega) (by omega)) ?_;clear F fa;intro fa F
    refine F.as ?_;clear F fa;intro fa F
    refine wpList_nil ?_
    show _ ∧ _
    exact ⟨by omega,_,⟨_,_,_,rfl,E,EM,EB,q2,q7,oo,fam,ro,hR2,hRl2⟩,F.sub (.c 12 rfl (.c 13 rfl (.c 1 rfl (.c 2 rfl (.c 7 rfl (.c 9 rfl (.c 10 rfl (.c 11 rfl .n))))))))⟩
   ·skip
    refine wp_exit ?_
    obtain rfl:j = t.A.toNat:=by omega
    refine hK14 _ _ ?_
    clear hK14
    refine wp_region_lit ?_
    refine F.mv ?_;clear F fa;intro fa F
    refine F.mv ?_;clear F fa;intro fa F
    refine Z00 F rfl (by decide) rfl (Z09 rfl (prS (F.at rfl) pr0) Try.underlying50 (size:=1) (by kernel_rfl) (by decide) (by decide) Try.zeroValue29 (cells:=#[.slice va3 R.length vc3]) (by kernel_rfl)) ?_;clear F fa;intro fa w22 F hw
    obtain ⟨n56,hn⟩:∃ n,n = w6.heap.size:=⟨_,rfl⟩
    rw [← hn] at F
    have s56:w6.heap.size ≤ n56:=Nat.le_of_eq hn.symm
    have l56_E:w.heap.size ≤ n56:=by rw [hn];exact E.size
    have l56_EM:w2.heap.size ≤ n56:=by rw [hn];exact EM.size
    have l56_EB:w5.heap.size ≤ n56:=by rw [hn];exact EB.size
    have m56_2:n2 < n56:=by rw [hn];exact Z7 q2
    have m56_7:n7 < n56:=by rw [hn];exact Z7 q7
    have o56_oo:=Lib.hid (Zo oo hn)
    have o56_ro:=Lib.hid (Zo ro hn)
    replace oo:=Zc hw oo
    replace fam:=ZL fam fun _ _ _ h=>Zc hw h
    replace ro:=Zc hw ro
    replace q2:=Z1 hw q2
    replace q7:=Z1 hw q7
    replace E:=Z2 E hw
    replace EM:=Z2 EM hw
    replace EB:=Z2 EB hw
    have q56:=Zw hw hn
    clear hw hn
    have hEs:=E.size
    have hMs:=EM.size
    have fam2:=Z3D (Z3C (b1:=B1) (L:=[(Value.slice va3 R.length vc3,R)]) ⟨fun p hp=>(by obtain rfl:p = (Value.slice va3 R.length vc3,R):=(by simpa using hp);exact ro),List.pairwise_singleton _ _⟩ fam hflt.out hB1w) (M:=O ++ [(Value.slice va3 R.length vc3,R)]) List.perm_append_comm
    clear fam ro EB
    have fam:=fam2
    clear fam2
    refine Z27 F rfl (by decide) rfl (Z0T rfl (B0) (e:=29) (size:=1) (bytes:=24) Try.underlying50 (by kernel_rfl) (by decide) (F.at rfl) oo (F.at rfl) q56 rfl (by simp [Value.oneCell']) (by omega) (by omega) (by omega)) ?_;clear F fa;rintro fa v' w23 F ⟨hown',hg⟩
    obtain ⟨va57,vc57,rfl⟩:=Zs hown'
    replace q2:=Zb oo hg q2 (by decide)
    replace q7:=Zb oo hg q7 (by decide)
    replace fam:=ZL fam fun _ _ _ h=>Zx h oo hg (by decide)
    replace E:=Zd E oo hg (by omega)
    replace EM:=Zd EM oo hg (by omega)
    replace oo:=hown'
    clear hg
    obtain ⟨P2,hP2e⟩:∃ P2,P2 = O ++ [(Value.slice va3 R.length vc3,R)]:=⟨_,rfl⟩
    have hPl3:O.length + 1 = P2.length:=by rw [hP2e,List.length_append];rfl
    have hO3:P2.map (·.2) = (List.range (i + 1)).map (fun s=>rowL t fstI s t.A.toNat):=by rw [hP2e,List.map_append,hO,List.range_succ,List.map_append,hR];rfl
    rw [show O.map (·.1) ++ [Value.slice va3 R.length vc3] = P2.map (·.1) by rw [hP2e,List.map_append];rfl,hPl3] at oo
    rw [hPl3] at F
    rw [← hP2e] at fam
    refine F.as ?_;clear F fa;intro fa F
    refine wpList_nil ?_
    refine hK12 _ _ ?_
    clear hK12
    refine wp_region_lit ?_
    refine F.mv ?_;clear F fa;intro fa F
    refine F.vl (Z0F rfl (F.at rfl) (ev_c fa _) (by omega) (by omega)) ?_;clear F fa;intro fa F
    refine F.as ?_;clear F fa;intro fa F
    refine wpList_nil ?_
    show _ ∧ _
    exact ⟨by omega,_,⟨_,_,_,rfl,E,EM,q2,q7,oo,fam,hO3⟩,F.sub (.c 9 rfl (.c 11 rfl (.c 1 rfl (.c 2 rfl (.c 7 rfl (.c 10 rfl .n))))))⟩
  ·skip
   refine wp_exit ?_
   obtain rfl:i = t.S.toNat:=by omega
   have HLs:=Lib.hid (Z1J oo rfl)
   have HLr:Hid (∀ p ∈ O,Z4T w5 p.1 p.2):=fun p hp=>Z5K fam hp
   have EL:Ext [] w5 w5:=Ext.refl _ _
   have po':w5.ownsRow w5.heap.size 3 1 (.slice none 0 0) 0 (ivs []):=World.ownsRow_nil _ _ _ _
   obtain ⟨B2,hB2⟩:∃ B2,B2 = w5.heap.size:=⟨_,rfl⟩
   have hB2w:B0 ≤ B2:=by rw [hB0,hB2];exact EM.size
   have hB2L:w5.heap.size ≤ B2:=by rw [hB2];exact Nat.le_refl _
   rw [← hB2] at po'
   clear oo fam
   refine hK8 _ _ ?_
   clear hK8
   refine wp_seq_k fun K21 hK21=>?_
   refine wp_seq_k fun K22 hK22=>?_
   refine wp_region_lit ?_
   refine F.vl (Z8 rfl (ev_c fa _)) ?_;clear F fa;intro fa F
   refine wpList_nil ?_
   refine hK22 _ _ ?_
   clear hK22
   refine wp_block ?_
   have F0:=F.sub (.c 1 rfl (.c 2 rfl (.c 7 rfl (.c 9 rfl .n))))
   refine Z0U F0 (t.T.toNat) (fun k2 Lv W=>∃ va4:Option Addr,∃ vc4:Nat,∃ R3:List Int,Lv = [(10,.slice va4 R3.length vc4),(15,.int .i64 ((k2:Nat):Int))] ∧ Ext [] w W ∧ Ext [] w2 W ∧ Ext [] w5 W ∧ W.heap[n2]? = some (.cells #[.int .i64 t.S,.int .i64 t.A,.int .i64 t.T,.int .i64 t.bl,.int .i64 t.bm,.int .i64 t.pl,.int .i64 t.pm,.int .i64 t.sl,.slice ga t.gr.length gc,.slice ra t.rd.length rc,.slice la t.lk.length lc] 28 (0,0)) ∧ W.heap[n7]? = some (.cells #[.slice oa k oc] 111 (0,0)) ∧ W.ownsRow B2 3 1 (.slice va4 R3.length vc4) R3.length (ivs R3) ∧ R3 = (List.range k2).map (fun i=>sndI (plo t (i:Nat)) (phi t (i:Nat))) ∧ R3.length = k2) ⟨_,⟨none,0,[],rfl,E,EM,EL,q2,q7,po',rfl,rfl⟩,F.sub (.c 10 rfl (.c 15 rfl (.c 1 rfl (.c 2 rfl (.c 7 rfl (.c 9 rfl .n))))))⟩ ?_
   clear F F0
   clear E EM EL q2 q7
   clear po'
   rintro k2 _ fa w24 hi3 ⟨va4,vc4,R3,rfl,E,EM,EL,q2,q7,po',hR3,hRl3⟩ F
   refine wp_seq_k fun K23 hK23=>?_
   refine wp_seq_k fun K24 hK24=>?_
   refine wp_region_lit ?_
   refine F.mv ?_;clear F fa;intro fa F
   refine F.vl (Z9 rfl (F.at rfl) Try.underlying28 rfl (n:=2) (sz:=1) rfl (by kernel_rfl) (by decide)) ?_;clear F fa;intro fa F
   refine F.vl (Zh rfl (F.at rfl) Try.underlying3 rfl ((Z0 q2 2).trans (getS (getS (get0))))) ?_;clear F fa;intro fa F
   refine F.vl (Z1d rfl (F.at rfl) (F.at rfl)) ?_;clear F fa;intro fa F
   refine wpList_nil ?_
   refine hK24 _ _ ?_
   clear hK24
   refine Z0J F rfl (fun hc61=>?_) (fun hc61=>?_)
   ·skip
    refine wp_skip ?_
    refine hK23 _ _ ?_
    clear hK23
    refine wp_seq_k fun K25 hK25=>?_
    refine wp_block ?_
    refine wp_seq_k fun K26 hK26=>?_
    have hkT:(k2:Int) < t.T:=by omega
    have hlt:=Zbe hL.ok hnn (i:=(k2:Int)) (by omega) hkT
    have k3:=Z2C hL.ok hL.bdB hnn (i:=rpI t (k2:Int)) (j:=0) hlt hl0
    have k4:=Z2C hL.ok hL.bdB hnn (i:=0) (j:=rpI t (k2:Int)) hl0 hlt
    rw [Z7T,Z8b hL.ok (by omega)] at k3 k4
    suffices hcut:∀ (n16:Nat) (fa:Act) (w37:World),Has 82 fa [(1,.bool false),(2,.pointer (some ⟨n2,0,none⟩)),(7,.pointer (some ⟨n7,0,none⟩)),(9,.slice va2 O.length vc2),(10,.slice va4 R3.length vc4),(15,.int .i64 ((k2:Nat):Int)),(16,.pointer (some ⟨n16,0,none⟩))] → w37.heap[n2]? = some (.cells #[.int .i64 t.S,.int .i64 t.A,.int .i64 t.T,.int .i64 t.bl,.int .i64 t.bm,.int .i64 t.pl,.int .i64 t.pm,.int .i64 t.sl,.slice ga t.gr.length gc,.slice ra t.rd.length rc,.slice la t.lk.length lc] 28 (0,0)) → w37.heap[n7]? = some (.cells #[.slice oa k oc] 111 (0,0)) → w37.heap[n16]? = some (.cells #[.int .i64 (plo t k2),.int .i64 (phi t k2)] 23 (0,0)) → Ext [] w w37 → Ext [] w2 w37 → Ext [] w5 w37 → w.heap.size ≤ n16 → w2.heap.size ≤ n16 → w5.heap.size ≤ n16 → n2 ≠ n16 → n7 ≠ n16 → w37.ownsRow B2 3 1 (.slice va4 R3.length vc4) R3.length (ivs R3) → K26 fa w37 by
     refine Z0P (Ext [] w24) none follows fun w25 hh eh=>?_
     have q2_:=q2
     replace q2:=Zn hh q2
     have q7_:=q7
     replace q7:=Zn hh q7
     have E_:=E
     have zEw25:=E.size
     replace E:=Z4 E eh
     have EM_:=EM
     have zEMw25:=EM.size
     replace EM:=Z4 EM eh
     have EL_:=EL
     have zELw25:=EL.size
     replace EL:=Z4 EL eh
     replace po':=ZW hh po'
     have eT:=eh
     clear hh eh
     refine F.xr (i:=0) rfl (fun w' hS=>Zt rfl (F.at rfl) Try.underlying111 rfl (by kernel_rfl) (hS.keep q7_ (by simp))) (fun _=>eT) ?_;clear F fa;intro fa F
     refine F.xr (i:=1) rfl (fun w' hS=>Zt rfl (F.at rfl) Try.underlying28 rfl (by kernel_rfl) (hS.keep q2_ (by simp))) (fun _=>eT) ?_;clear F fa;intro fa F
     refine F.x (i:=2) rfl (fun w'=>Zi rfl (F.at rfl)) (fun _=>eT) ?_;clear F fa;intro fa F
     refine Z19 (i:=3) (j:=5) (by kernel_rfl) ?_ ?_
     ·skip
      refine (Z07 F rfl rfl (by decide) rfl (ZG rfl rfl Try.call99 (mpS (F.at rfl) (mpS (F.at rfl) mp0))) (Z1t hL.ok _ _ _ (k2:Int) _ (by omega) hkT) fun e w26 hR=>?_)
      obtain ⟨rfl,e9⟩:=hR
      refine ⟨_,rfl,?_⟩;clear F fa;intro fa F
      replace po':=Zq po' (e9) (by simp)
      replace q2:=(e9).keep0 q2
      replace q7:=(e9).keep0 q7
      replace E:=Z4 E (e9)
      replace EM:=Z4 EM (e9)
      replace EL:=Z4 EL (e9)
      replace eT:=Z4 eT (e9)
      clear e9
      refine ⟨fun _=>eT,?_⟩
      refine Z19 (i:=4) (j:=5) (by kernel_rfl) ?_ ?_
      ·skip
       refine (Z07 F rfl rfl (by decide) rfl (ZG rfl rfl Try.call95 (mpS (F.at rfl) (mpS (ev_c fa _) (mpS (F.at rfl) mp0)))) (Z0W (Z2X hL.ok hnn).1 (Z2o HMF.out EM) 0 (rpI t (k2:Int)) hl0 hlt (p:=plo t k2) (q:=phi t k2) (by rw [k3.1];rfl) k4.1 k3.2.1 k3.2.2) fun e w27 hR=>?_)
       obtain ⟨rfl,e9⟩:=hR
       refine ⟨_,rfl,?_⟩;clear F fa;intro fa F
       replace po':=Zq po' (e9) (by simp)
       replace q2:=(e9).keep0 q2
       replace q7:=(e9).keep0 q7
       replace E:=Z4 E (e9)
       replace EM:=Z4 EM (e9)
       replace EL:=Z4 EL (e9)
       replace eT:=Z4 eT (e9)
       clear e9
       refine ⟨fun _=>eT,?_⟩
       refine Zv (i:=5) (by kernel_rfl) (Z0w F rfl rfl (by decide) rfl (ZB rfl Try.zeroValue23) ?_);clear F fa;intro fa w28 F hw
       obtain ⟨n16,hn⟩:∃ n,n = w27.heap.size:=⟨_,rfl⟩
       rw [← hn] at F
       have s16:w27.heap.size ≤ n16:=Nat.le_of_eq hn.symm
       have l16_E:w.heap.size ≤ n16:=by rw [hn];exact E.size
       have l16_EM:w2.heap.size ≤ n16:=by rw [hn];exact EM.size
       have l16_EL:w5.heap.size ≤ n16:=by rw [hn];exact EL.size
       have lT16:w24.heap.size ≤ n16:=by rw [hn];exact eT.size
       have m16_2:n2 < n16:=by rw [hn];exact Z7 q2
       have m16_7:n7 < n16:=by rw [hn];exact Z7 q7
       have o16_po':=Lib.hid (Zo po' hn)
       replace po':=Zc hw po'
       replace q2:=Z1 hw q2
       replace q7:=Z1 hw q7
       replace E:=Z2 E hw
       replace EM:=Z2 EM hw
       replace EL:=Z2 EL hw
       replace eT:=Z2 eT hw
       have q16:=Zr hw hn
       clear hw hn
       refine ⟨fun _=>eT,?_⟩
       refine Zv (i:=6) (by kernel_rfl) (Z0u rfl rfl rfl (Zg rfl (F.at rfl) (F.at rfl) (by kernel_rfl) (by first | (simp [Value.oneCell'];done) | (simp [Value.oneCell',Z0K,Z0B,Z0L];done)) q16 rfl) ?_);intro w29 hw
       replace po':=Zu hw po' (Z6 po' q16 (by decide))
       replace q2:=Z5 hw q2 (by omega)
       replace q7:=Z5 hw q7 (by omega)
       replace q16:=Zz hw q16 rfl
       replace E:=Za E hw (fun h=>by first | exact absurd h (by omega) | simp)
       replace EM:=Za EM hw (fun h=>by first | exact absurd h (by omega) | simp)
       replace EL:=Za EL hw (fun h=>by first | exact absurd h (by omega) | simp)
       replace eT:=Za eT hw (fun h=>by first | exact absurd h (by omega) | simp)
       clear hw
       refine ⟨fun _=>eT,?_⟩
       refine Z0a (by kernel_rfl) ?_ _
       exact hcut _ _ _ (F.sub (.c 1 rfl (.c 2 rfl (.c 7 rfl (.c 9 rfl (.c 10 rfl (.c 15 rfl (.c 16 rfl .n)))))))) q2 q7 q16 E EM EL (by omega) (by omega) (by omega) (by omega) (by omega) po'
      ·skip
       refine (Z0w F rfl rfl (by decide) rfl (ZB rfl Try.zeroValue23) ?_);clear F fa;intro fa w30 F hw
       obtain ⟨n16,hn⟩:∃ n,n = w26.heap.size:=⟨_,rfl⟩
       rw [← hn] at F
       have s16:w26.heap.size ≤ n16:=Nat.le_of_eq hn.symm
       have l16_E:w.heap.size ≤ n16:=by rw [hn];exact E.size
       have l16_EM:w2.heap.size ≤ n16:=by rw [hn];exact EM.size
       have l16_EL:w5.heap.size ≤ n16:=by rw [hn];exact EL.size
       have lT16:w24.heap.size ≤ n16:=by rw [hn];exact eT.size
       have m16_2:n2 < n16:=by rw [hn];exact Z7 q2
       have m16_7:n7 < n16:=by rw [hn];exact Z7 q7
       have o16_po':=Lib.hid (Zo po' hn)
       replace po':=Zc hw po'
       replace q2:=Z1 hw q2
       replace q7:=Z1 hw q7
       replace E:=Z2 E hw
       replace EM:=Z2 EM hw
       replace EL:=Z2 EL hw
       replace eT:=Z2 eT hw
       have q16:=Zr hw hn
       clear hw hn
       refine ⟨fun _=>eT,?_⟩
       refine Zv (i:=4) (by kernel_rfl) (Z07 F rfl rfl (by decide) rfl (ZG rfl rfl Try.call95 (mpS (F.at rfl) (mpS (ev_c fa _) (mpS (F.at rfl) mp0)))) (Z0W (Z2X hL.ok hnn).1 (Z2o HMF.out EM) 0 (rpI t (k2:Int)) hl0 hlt (p:=plo t k2) (q:=phi t k2) (by rw [k3.1];rfl) k4.1 k3.2.1 k3.2.2) fun e w31 hR=>?_)
       obtain ⟨rfl,e9⟩:=hR
       refine ⟨_,rfl,?_⟩;clear F fa;intro fa F
       replace po':=Zq po' (e9) (by simp)
       replace q2:=(e9).keep0 q2
       replace q7:=(e9).keep0 q7
       replace q16:=(e9).keep0 q16
       replace E:=Z4 E (e9)
       replace EM:=Z4 EM (e9)
       replace EL:=Z4 EL (e9)
       replace eT:=Z4 eT (e9)
       clear e9
       refine ⟨fun _=>eT,?_⟩
       refine Zv (i:=6) (by kernel_rfl) (Z0u rfl rfl rfl (Zg rfl (F.at rfl) (F.at rfl) (by kernel_rfl) (by first | (simp [Value.oneCell'];done) | (simp [Value.oneCell',Z0K,Z0B,Z0L];done)) q16 rfl) ?_);intro w32 hw
       replace po':=Zu hw po' (Z6 po' q16 (by decide))
       replace q2:=Z5 hw q2 (by omega)
       replace q7:=Z5 hw q7 (by omega)
       replace q16:=Zz hw q16 rfl
       replace E:=Za E hw (fun h=>by first | exact absurd h (by omega) | simp)
       replace EM:=Za EM hw (fun h=>by first | exact absurd h (by omega) | simp)
       replace EL:=Za EL hw (fun h=>by first | exact absurd h (by omega) | simp)
       replace eT:=Za eT hw (fun h=>by first | exact absurd h (by omega) | simp)
       clear hw
       refine ⟨fun _=>eT,?_⟩
       refine Z0a (by kernel_rfl) ?_ _
       exact hcut _ _ _ (F.sub (.c 1 rfl (.c 2 rfl (.c 7 rfl (.c 9 rfl (.c 10 rfl (.c 15 rfl (.c 16 rfl .n)))))))) q2 q7 q16 E EM EL (by omega) (by omega) (by omega) (by omega) (by omega) po'
     ·skip
      refine (Z0w F rfl rfl (by decide) rfl (ZB rfl Try.zeroValue23) ?_);clear F fa;intro fa w33 F hw
      obtain ⟨n16,hn⟩:∃ n,n = w25.heap.size:=⟨_,rfl⟩
      rw [← hn] at F
      have s16:w25.heap.size ≤ n16:=Nat.le_of_eq hn.symm
      have l16_E:w.heap.size ≤ n16:=by rw [hn];exact E.size
      have l16_EM:w2.heap.size ≤ n16:=by rw [hn];exact EM.size
      have l16_EL:w5.heap.size ≤ n16:=by rw [hn];exact EL.size
      have lT16:w24.heap.size ≤ n16:=by rw [hn];exact eT.size
      have m16_2:n2 < n16:=by rw [hn];exact Z7 q2
      have m16_7:n7 < n16:=by rw [hn];exact Z7 q7
      have o16_po':=Lib.hid (Zo po' hn)
      replace po':=Zc hw po'
      replace q2:=Z1 hw q2
      replace q7:=Z1 hw q7
      replace E:=Z2 E hw
      replace EM:=Z2 EM hw
      replace EL:=Z2 EL hw
      replace eT:=Z2 eT hw
      have q16:=Zr hw hn
      clear hw hn
      refine ⟨fun _=>eT,?_⟩
      refine Zv (i:=3) (by kernel_rfl) (Z07 F rfl rfl (by decide) rfl (ZG rfl rfl Try.call99 (mpS (F.at rfl) (mpS (F.at rfl) mp0))) (Z1t hL.ok _ _ _ (k2:Int) _ (by omega) hkT) fun e w34 hR=>?_)
      obtain ⟨rfl,e9⟩:=hR
      refine ⟨_,rfl,?_⟩;clear F fa;intro fa F
      replace po':=Zq po' (e9) (by simp)
      replace q2:=(e9).keep0 q2
      replace q7:=(e9).keep0 q7
      replace q16:=(e9).keep0 q16
      replace E:=Z4 E (e9)
      replace EM:=Z4 EM (e9)
      replace EL:=Z4 EL (e9)
      replace eT:=Z4 eT (e9)
      clear e9
      refine ⟨fun _=>eT,?_⟩
      refine Zv (i:=4) (by kernel_rfl) (Z07 F rfl rfl (by decide) rfl (ZG rfl rfl Try.call95 (mpS (F.at rfl) (mpS (ev_c fa _) (mpS (F.at rfl) mp0)))) (Z0W (Z2X hL.ok hnn).1 (Z2o HMF.out EM) 0 (rpI t (k2:Int)) hl0 hlt (p:=plo t k2) (q:=phi t k2) (by rw [k3.1];rfl) k4.1 k3.2.1 k3.2.2) fun e w35 hR=>?_)
      obtain ⟨rfl,e9⟩:=hR
      refine ⟨_,rfl,?_⟩;clear F fa;intro fa F
      replace po':=Zq po' (e9) (by simp)
      replace q2:=(e9).keep0 q2
      replace q7:=(e9).keep0 q7
      replace q16:=(e9).keep0 q16
      replace E:=Z4 E (e9)
      replace EM:=Z4 EM (e9)
      replace EL:=Z4 EL (e9)
      replace eT:=Z4 eT (e9)
      clear e9
      refine ⟨fun _=>eT,?_⟩
      refine Zv (i:=6) (by kernel_rfl) (Z0u rfl rfl rfl (Zg rfl (F.at rfl) (F.at rfl) (by kernel_rfl) (by first | (simp [Value.oneCell'];done) | (simp [Value.oneCell',Z0K,Z0B,Z0L];done)) q16 rfl) ?_);intro w36 hw
      replace po':=Zu hw po' (Z6 po' q16 (by decide))
      replace q2:=Z5 hw q2 (by omega)
      replace q7:=Z5 hw q7 (by omega)
      replace q16:=Zz hw q16 rfl
      replace E:=Za E hw (fun h=>by first | exact absurd h (by omega) | simp)
      replace EM:=Za EM hw (fun h=>by first | exact absurd h (by omega) | simp)
      replace EL:=Za EL hw (fun h=>by first | exact absurd h (by omega) | simp)
      replace eT:=Za eT hw (fun h=>by first | exact absurd h (by omega) | simp)
      clear hw
      refine ⟨fun _=>eT,?_⟩
      refine Z0a (by kernel_rfl) ?_ _
      exact hcut _ _ _ (F.sub (.c 1 rfl (.c 2 rfl (.c 7 rfl (.c 9 rfl (.c 10 rfl (.c 15 rfl (.c 16 rfl .n)))))))) q2 q7 q16 E EM EL (by omega) (by omega) (by omega) (by omega) (by omega) po'
    clear F q2 q7 E EM EL po' fa
    intro n16  fa w37 F q2 q7 q16 E EM EL l16_E l16_EM l16_EL m16_2 m16_7 po'
    refine hK26 _ _ ?_
    clear hK26
    refine wp_seq_k fun K27 hK27=>?_
    refine wp_region_lit ?_
    refine F.mv ?_;clear F fa;intro fa F
    refine wpList_nil ?_
    refine hK27 _ _ ?_
    clear hK27
    refine cd_F F rfl ?_
    refine wp_region_lit ?_
    refine F.mv ?_;clear F fa;intro fa F
    refine F.vl (Z9 rfl (F.at rfl) Try.underlying23 rfl (n:=1) (sz:=1) rfl (by kernel_rfl) (by decide)) ?_;clear F fa;intro fa F
    refine F.vl (Zh rfl (F.at rfl) Try.underlying3 rfl ((Z0 q16 1).trans (getS (get0)))) ?_;clear F fa;intro fa F
    refine Z00 F rfl (by decide) rfl (Z09 rfl (prS (F.at rfl) pr0) Try.underlying29 (size:=1) (by kernel_rfl) (by decide) (by decide) Try.zeroValue3 (cells:=#[.int .i64 (phi t k2)]) (by kernel_rfl)) ?_;clear F fa;intro fa w38 F hw
    obtain ⟨n78,hn⟩:∃ n,n = w37.heap.size:=⟨_,rfl⟩
    rw [← hn] at F
    have s78:w37.heap.size ≤ n78:=Nat.le_of_eq hn.symm
    have l78_E:w.heap.size ≤ n78:=by rw [hn];exact E.size
    have l78_EM:w2.heap.size ≤ n78:=by rw [hn];exact EM.size
    have l78_EL:w5.heap.size ≤ n78:=by rw [hn];exact EL.size
    have m78_2:n2 < n78:=by rw [hn];exact Z7 q2
    have m78_7:n7 < n78:=by rw [hn];exact Z7 q7
    have m78_16:n16 < n78:=by rw [hn];exact Z7 q16
    have o78_po':=Lib.hid (Zo po' hn)
    replace po':=Zc hw po'
    replace q2:=Z1 hw q2
    replace q7:=Z1 hw q7
    replace q16:=Z1 hw q16
    replace E:=Z2 E hw
    replace EM:=Z2 EM hw
    replace EL:=Z2 EL hw
    have q78:=Zw hw hn
    clear hw hn
    have hEs:=EL.size
    refine Z27 F rfl (by decide) rfl (Z0T rfl (B2) (e:=3) (size:=1) (bytes:=8) Try.underlying29 (by kernel_rfl) (by decide) (F.at rfl) po' (F.at rfl) q78 rfl (by simp [Value.oneCell']) (by omega) (by omega) (by omega)) ?_;clear F fa;rintro fa v' w39 F ⟨hown',hg⟩
    obtain ⟨va79,vc79,rfl⟩:=Zs hown'
    replace q2:=Zb po' hg q2 (by decide)
    replace q7:=Zb po' hg q7 (by decide)
    replace q16:=Zb po' hg q16 (by decide)
    replace E:=Zd E po' hg (by omega)
    replace EM:=Zd EM po' hg (by omega)
    replace EL:=Zd EL po' hg (by omega)
    replace po':=hown'
    clear hg
    obtain ⟨P2,hP2e⟩:∃ P2,P2 = R3 ++ [(sndI (plo t k2) (phi t k2))]:=⟨_,rfl⟩
    have hPl3:R3.length + 1 = P2.length:=by rw [hP2e,List.length_append];rfl
    have hRl4:P2.length = k2 + 1:=by omega
    have hR4:P2 = (List.range (k2 + 1)).map (fun i=>sndI (plo t (i:Nat)) (phi t (i:Nat))):=by rw [hP2e,hR3,List.range_succ,List.map_append];rfl
    rw [show [Value.int .i64 (phi t k2)] = [Value.int .i64 (sndI (plo t k2) (phi t k2))] from rfl,Z21,← hP2e,hPl3] at po'
    rw [hPl3] at F
    refine F.as ?_;clear F fa;intro fa F
    refine wpList_nil ?_
    refine hK25 _ _ ?_
    clear hK25
    refine wp_region_lit ?_
    refine F.mv ?_;clear F fa;intro fa F
    refine F.vl (Z0F rfl (F.at rfl) (ev_c fa _) (by omega) (by omega)) ?_;clear F fa;intro fa F
    refine F.as ?_;clear F fa;intro fa F
    refine wpList_nil ?_
    show _ ∧ _
    exact ⟨by omega,_,⟨_,_,_,rfl,E,EM,EL,q2,q7,po',hR4,hRl4⟩,F.sub (.c 10 rfl (.c 15 rfl (.c 1 rfl (.c 2 rfl (.c 7 rfl (.c 9 rfl .n))))))⟩
   ·skip
    refine wp_exit ?_
    obtain rfl:k2 = t.T.toNat:=by omega
    refine hK21 _ _ ?_
    clear hK21
    refine wp_seq_k fun K28 hK28=>?_
    refine wp_region_lit ?_
    refine F.mv ?_;clear F fa;intro fa F
    refine F.mv ?_;clear F fa;intro fa F
    refine F.as ?_;clear F fa;intro fa F
    refine F.as ?_;clear F fa;intro fa F
    refine F.vl (Z8 rfl (ev_c fa _)) ?_;clear F fa;intro fa F
    refine wpList_nil ?_
    refine hK28 _ _ ?_
    clear hK28
    refine wp_ret ?_
    (try simp only [Exit.inBlock,Exit.then])
    refine rt_v F (rs_3 F rfl rfl rfl rfl) ?_
    exact ⟨O,R3,va2,va4,vc2,vc4,by rw [Z0G,h0],by rw [endX,if_pos (by rw [Z0G];exact h0)];exact hO,by rw [Z5h,if_pos (by rw [Z0G];exact h0)];exact hR3,Z1X HLs.out EL,fun p hp=>(HLr.out p hp).ext EL,Z13 (row:=Z0Q) (by rw [← Z3I];exact po') (fun _=>rfl),E⟩
set_option maxRecDepth 100000 in
set_option maxHeartbeats 4000000 in
theorem Z9F (t:Tp) {n:Nat} (hn:t.Ok → (n:Int) = 1 + t.S * t.A + t.T) (ga ra la:Option Addr) (gc rc lc:Nat) (w:World) (ht:IsTp w (.slice ga t.gr.length gc) (.slice ra t.rd.length rc) (.slice la t.lk.length lc) t) (l1:t.gr.length ≤ 1000) (l2:t.rd.length ≤ 1000) (l3:t.lk.length ≤ 1000) :
  Calls Try.prog 122 #[tpV t (.slice ga t.gr.length gc) (.slice ra t.rd.length rc) (.slice la t.lk.length lc),.bool true] w (Z4e t sndI fstI w):=by
 have E:Ext [] w w:=Ext.refl _ _
 have HT:=Lib.hid ht
 clear ht
 unfold tpV
 refine Z01 82 Try.func122 rfl Try.ntmps122 (Nat.le_of_ble_eq_true rfl) ?_
 intro fa F
 refine wp_seq_k fun K1 hK1=>?_
 refine wp_region_lit ?_
 refine Z00 F rfl (by decide) rfl (Z0z rfl (F.at rfl)) ?_;clear F fa;intro fa w1 F hw
 obtain ⟨n2,hn⟩:∃ n,n = w.heap.size:=⟨_,rfl⟩
 rw [← hn] at F
 have s2:w.heap.size ≤ n2:=Nat.le_of_eq hn.symm
 have l2_E:w.heap.size ≤ n2:=by rw [hn];exact E.size
 replace E:=Z2 E hw
 have q2:=Zr hw hn
 clear hw hn
 refine F.vl (Z8 rfl (ev_c fa _)) ?_;clear F fa;intro fa F
 refine F.vl (Z8 rfl (ev_c fa _)) ?_;clear F fa;intro fa F
 refine F.vl (Z8 rfl (ev_c fa _)) ?_;clear F fa;intro fa F
 refine wpList_nil ?_
 refine hK1 _ _ ?_
 clear hK1
 refine wp_seq_k fun K2 hK2=>?_
 refine wp_region_lit ?_
 refine F.vl (Zt rfl (F.at rfl) Try.underlying28 rfl (by kernel_rfl) q2) ?_;clear F fa;intro fa F
 refine ZX F rfl (by decide) rfl (ZG rfl rfl Try.call93 (mpS (F.at rfl) (mpS (ev_c fa _) mp0))) (Z3a t hn true ga ra la gc rc lc _ (HT.out.ext E (by simp)) l1 l2 l3) fun e w2 hR=>?_
 obtain ⟨oa,k,oc,va,vc,rfl,hk,ism,eX⟩:=hR
 refine ⟨_,rfl,?_⟩;clear F fa;intro fa F
 replace q2:=(eX).keep0 q2
 replace E:=Z4 E (eX)
 have HMF:=Lib.hid (Z8q ism)
 clear ism
 have EM:Ext [] w2 w2:=Ext.refl _ _
 obtain ⟨B0,hB0⟩:∃ B0,B0 = w2.heap.size:=⟨_,rfl⟩
 have hB0w:w.heap.size ≤ B0:=by rw [hB0];exact E.size
 have oo:w2.ownsRow B0 29 1 (.slice none 0 0) 0 (([]:List (Value × List Int)).map (·.1)):=World.ownsRow_nil _ _ _ _
 have fam:FamT w2 B0 []:=Z4x _ _
 refine F.mv ?_;clear F fa;intro fa F
 refine F.vl (Zm rfl (F.at rfl) (get0)) ?_;clear F fa;intro fa F
 refine F.vl (Zm rfl (F.at rfl) (getS (get0))) ?_;clear F fa;intro fa F
 refine Z00 F rfl (by decide) rfl (ZB rfl Try.zeroValue111) ?_;clear F fa;intro fa w3 F hw
 obtain ⟨n7,hn⟩:∃ n,n = w2.heap.size:=⟨_,rfl⟩
 rw [← hn] at F
 have s7:w2.heap.size ≤ n7:=Nat.le_of_eq hn.symm
 have l7_E:w.heap.size ≤ n7:=by rw [hn];exact E.size
 have l7_EM:w2.heap.size ≤ n7:=by rw [hn];exact EM.size
 have m7_2:n2 < n7:=by rw [hn];exact Z7 q2
 have o7_oo:=Lib.hid (Zo oo hn)
 replace oo:=Zc hw oo
 replace fam:=ZL fam fun _ _ _ h=>Zc hw h
 replace q2:=Z1 hw q2
 replace E:=Z2 E hw
 replace EM:=Z2 EM hw
 have q7:=Zr hw hn
 clear hw hn
 refine Z1L rfl rfl (Zg rfl (F.at rfl) (F.at rfl) (by kernel_rfl) (by first | (simp [Value.oneCell'];done) | (simp [Value.oneCell',Z0K,Z0B,Z0L];done)) q7 rfl) ?_;intro w4 hw
 replace oo:=Zu hw oo (Z6 oo q7 (by decide))
 replace fam:=ZL fam fun _ _ _ h=>Zu hw h (Z6 h q7 (by decide))
 replace q2:=Z5 hw q2 (by omega)
 replace q7:=Zz hw q7 rfl
 replace E:=Za E hw (fun h=>by first | exact absurd h (by omega) | simp)
 replace EM:=Za EM hw (fun h=>by first | exact absurd h (by omega) | simp)
 clear hw
 refine F.as ?_;clear F fa;intro fa F
 refine wpList_nil ?_
 refine hK2 _ _ ?_
 clear hK2
 refine wp_seq_k fun K3 hK3=>?_
 refine wp_seq_k fun K4 hK4=>?_
 refine wp_region_lit ?_
 refine F.mv ?_;clear F fa;intro fa F
 refine F.vl (Z3v rfl (F.at rfl) (ev_c fa _)) ?_;clear F fa;intro fa F
 refine wpList_nil ?_
 refine hK4 _ _ ?_
 clear hK4
 refine Z0J F rfl (fun hc23=>?_) (fun hc23=>?_)
 ·skip
  refine wp_seq_k fun K5 hK5=>?_
  refine wp_region_lit ?_
  refine F.mv ?_;clear F fa;intro fa F
  refine F.vl (Z8 rfl (ev_c fa _)) ?_;clear F fa;intro fa F
  refine F.vl (Z8 rfl (ev_c fa _)) ?_;clear F fa;intro fa F
  refine F.as ?_;clear F fa;intro fa F
  refine wpList_nil ?_
  refine hK5 _ _ ?_
  clear hK5
  refine wp_ret ?_
  (try simp only [Exit.inBlock,Exit.then])
  refine rt_v F (rs_3 F rfl rfl rfl rfl) ?_
  exact ⟨[],[],none,none,0,0,by rw [Z0G];rfl,by rw [endX,if_neg (by rw [Z0G];omega)];rfl,by rw [Z5h,if_neg (by rw [Z0G];omega)],(fun i hi=>absurd hi (Nat.not_lt_zero _)),(fun p hp=>by cases hp),Z0M _ _ _,E⟩
 ·skip
  refine wp_skip ?_
  refine hK3 _ _ ?_
  clear hK3
  refine wp_seq_k fun K6 hK6=>?_
  have h0:begE t true = 0:=by omega
  obtain ⟨hL,-⟩:=Z1Z h0
  have hnn:=hn hL.ok
  obtain rfl:=hk h0
  have hl0:=(Z2X hL.ok hnn).2
  have hT3:=hL.ok.T3
  have hT1:=hL.ok.T1
  have o1:=hL.ok.S1
  have o2:=hL.ok.S3
  have o3:=hL.ok.A1
  have o4:=hL.ok.A3
  refine wp_region_lit ?_
  refine F.vl (Z8 rfl (ev_c fa _)) ?_;clear F fa;intro fa F
  refine wpList_nil ?_
  refine hK6 _ _ ?_
  clear hK6
  refine wp_seq_k fun K7 hK7=>?_
  refine wp_region_lit ?_
  refine F.vl (Z8 rfl (ev_c fa _)) ?_;clear F fa;intro fa F
  refine wpList_nil ?_
  refine hK7 _ _ ?_
  clear hK7
  refine wp_seq_k fun K8 hK8=>?_
  refine wp_seq_k fun K9 hK9=>?_
  refine wp_region_lit ?_
  refine F.vl (Z8 rfl (ev_c fa _)) ?_;clear F fa;intro fa F
  refine wpList_nil ?_
  refine hK9 _ _ ?_
  clear hK9
  refine wp_block ?_
  have F0:=F.sub (.c 1 rfl (.c 2 rfl (.c 7 rfl (.c 10 rfl .n))))
  refine Z0U F0 (t.S.toNat) (fun i Lv W=>∃ va2:Option Addr,∃ vc2:Nat,∃ O:List (Value × List Int),Lv = [(9,.slice va2 O.length vc2),(11,.int .i64 ((i:Nat):Int))] ∧ Ext [] w W ∧ Ext [] w2 W ∧ W.heap[n2]? = some (.cells #[.int .i64 t.S,.int .i64 t.A,.int .i64 t.T,.int .i64 t.bl,.int .i64 t.bm,.int .i64 t.pl,.int .i64 t.pm,.int .i64 t.sl,.slice ga t.gr.length gc,.slice ra t.rd.length rc,.slice la t.lk.length lc] 28 (0,0)) ∧ W.heap[n7]? = some (.cells #[.slice oa k oc] 111 (0,0)) ∧ W.ownsRow B0 29 1 (.slice va2 O.length vc2) O.length (O.map (·.1)) ∧ FamT W B0 O ∧ O.map (·.2) = (List.range i).map (fun s=>rowL t sndI s t.A.toNat)) ⟨_,⟨none,0,[],rfl,E,EM,q2,q7,oo,fam,rfl⟩,F.sub (.c 9 rfl (.c 11 rfl (.c 1 rfl (.c 2 rfl (.c 7 rfl (.c 10 rfl .n))))))⟩ ?_
  clear F F0
  clear E EM q2 q7
  clear oo
  clear fam
  rintro i _ fa w5 hi1 ⟨va2,vc2,O,rfl,E,EM,q2,q7,oo,fam,hO⟩ F
  have hOl:O.length = i:=by have:=congrArg List.length hO;simpa using this
  refine wp_seq_k fun K10 hK10=>?_
  refine wp_seq_k fun K11 hK11=>?_
  refine wp_region_lit ?_
  refine F.mv ?_;clear F fa;intro fa F
  refine F.vl (Z9 rfl (F.at rfl) Try.underlying28 rfl (n:=0) (sz:=1) rfl (by kernel_rfl) (by decide)) ?_;clear F fa;intro fa F
  refine F.vl (Zh rfl (F.at rfl) Try.underlying3 rfl ((Z0 q2 0).trans (get0))) ?_;clear F fa;intro fa F
  refine F.vl (Z1d rfl (F.at rfl) (F.at rfl)) ?_;clear F fa;intro fa F
  refine wpList_nil ?_
  refine hK11 _ _ ?_
  clear hK11
  refine Z0J F rfl (fun hc28=>?_) (fun hc28=>?_)
  ·skip
   refine wp_skip ?_
   refine hK10 _ _ ?_
   clear hK10
   refine wp_seq_k fun K12 hK12=>?_
   refine wp_block ?_
   refine wp_seq_k fun K13 hK13=>?_
   refine wp_region_lit ?_
   refine F.vl (Z8 rfl (ev_c fa _)) ?_;clear F fa;intro fa F
   refine wpList_nil ?_
   have hflt:=Lib.hid (Z5R fam)
   obtain ⟨B1,hB1⟩:∃ B1,B1 = w5.heap.size:=⟨_,rfl⟩
   rw [← hB1] at hflt
   have hB1w:B0 ≤ B1:=by rw [hB0,hB1];exact EM.size
   have hB1i:w5.heap.size ≤ B1:=by rw [hB1];exact Nat.le_refl _
   have ro:w5.ownsRow B1 3 1 (.slice none 0 0) 0 (ivs []):=World.ownsRow_nil _ _ _ _
   have EB:Ext [] w5 w5:=Ext.refl _ _
   refine hK13 _ _ ?_
   clear hK13
   refine wp_seq_k fun K14 hK14=>?_
   refine wp_seq_k fun K15 hK15=>?_
   refine wp_region_lit ?_
   refine F.vl (Z8 rfl (ev_c fa _)) ?_;clear F fa;intro fa F
   refine wpList_nil ?_
   refine hK15 _ _ ?_
   clear hK15
   refine wp_block ?_
   have F0:=F.sub (.c 1 rfl (.c 2 rfl (.c 7 rfl (.c 9 rfl (.c 10 rfl (.c 11 rfl .n))))))
   refine Z0U F0 (t.A.toNat) (fun j Lv W=>∃ va3:Option Addr,∃ vc3:Nat,∃ R:List Int,Lv = [(12,.slice va3 R.length vc3),(13,.int .i64 ((j:Nat):Int))] ∧ Ext [] w W ∧ Ext [] w2 W ∧ Ext [] w5 W ∧ W.heap[n2]? = some (.cells #[.int .i64 t.S,.int .i64 t.A,.int .i64 t.T,.int .i64 t.bl,.int .i64 t.bm,.int .i64 t.pl,.int .i64 t.pm,.int .i64 t.sl,.slice ga t.gr.length gc,.slice ra t.rd.length rc,.slice la t.lk.length lc] 28 (0,0)) ∧ W.heap[n7]? = some (.cells #[.slice oa k oc] 111 (0,0)) ∧ W.ownsRow B0 29 1 (.slice va2 O.length vc2) O.length (O.map (·.1)) ∧ FamT W B0 O ∧ W.ownsRow B1 3 1 (.slice va3 R.length vc3) R.length (ivs R) ∧ R = rowL t sndI i j ∧ R.length = j) ⟨_,⟨none,0,[],rfl,E,EM,EB,q2,q7,oo,fam,ro,rfl,rfl⟩,F.sub (.c 12 rfl (.c 13 rfl (.c 1 rfl (.c 2 rfl (.c 7 rfl (.c 9 rfl (.c 10 rfl (.c 11 rfl .n))))))))⟩ ?_
   clear F F0
   clear E EM EB q2 q7 oo fam
   clear ro
   rintro j _ fa w6 hi2 ⟨va3,vc3,R,rfl,E,EM,EB,q2,q7,oo,fam,ro,hR,hRl⟩ F
   refine wp_seq_k fun K16 hK16=>?_
   refine wp_seq_k fun K17 hK17=>?_
   refine wp_region_lit ?_
   refine F.mv ?_;clear F fa;intro fa F
   refine F.vl (Z9 rfl (F.at rfl) Try.underlying28 rfl (n:=1) (sz:=1) rfl (by kernel_rfl) (by decide)) ?_;clear F fa;intro fa F
   refine F.vl (Zh rfl (F.at rfl) Try.underlying3 rfl ((Z0 q2 1).trans (getS (get0)))) ?_;clear F fa;intro fa F
   refine F.vl (Z1d rfl (F.at rfl) (F.at rfl)) ?_;clear F fa;intro fa F
   refine wpList_nil ?_
   refine hK17 _ _ ?_
   clear hK17
   refine Z0J F rfl (fun hc34=>?_) (fun hc34=>?_)
   ·skip
    refine wp_skip ?_
    refine hK16 _ _ ?_
    clear hK16
    refine wp_seq_k fun K18 hK18=>?_
    refine wp_block ?_
    refine wp_seq_k fun K19 hK19=>?_
    have hiS:(i:Int) < t.S:=by omega
    have hjA:(j:Int) < t.A:=by omega
    have hlt:=ZaI hL.ok hnn (s:=(i:Int)) (a:=(j:Int)) (by omega) hiS (by omega) hjA
    have k1:=Z2C hL.ok hL.bdB hnn (i:=rnI t (i:Int) (j:Int)) (j:=0) hlt hl0
    have k2:=Z2C hL.ok hL.bdB hnn (i:=0) (j:=rnI t (i:Int) (j:Int)) hl0 hlt
    rw [Z7T,Z7H hL.ok (by omega) hiS (by omega) hjA] at k1 k2
    suffices hcut:∀ (n14:Nat) (fa:Act) (w19:World),Has 82 fa [(1,.bool true),(2,.pointer (some ⟨n2,0,none⟩)),(7,.pointer (some ⟨n7,0,none⟩)),(9,.slice va2 O.length vc2),(10,.slice none 0 0),(11,.int .i64 ((i:Nat):Int)),(12,.slice va3 R.length vc3),(13,.int .i64 ((j:Nat):Int)),(14,.pointer (some ⟨n14,0,none⟩))] → w19.heap[n2]? = some (.cells #[.int .i64 t.S,.int .i64 t.A,.int .i64 t.T,.int .i64 t.bl,.int .i64 t.bm,.int .i64 t.pl,.int .i64 t.pm,.int .i64 t.sl,.slice ga t.gr.length gc,.slice ra t.rd.length rc,.slice la t.lk.length lc] 28 (0,0)) → w19.heap[n7]? = some (.cells #[.slice oa k oc] 111 (0,0)) → w19.heap[n14]? = some (.cells #[.int .i64 (mlo t i j),.int .i64 (mhi t i j)] 23 (0,0)) → Ext [] w w19 → Ext [] w2 w19 → Ext [] w5 w19 → w.heap.size ≤ n14 → w2.heap.size ≤ n14 → w5.heap.size ≤ n14 → n2 ≠ n14 → n7 ≠ n14 → w19.ownsRow B0 29 1 (.slice va2 O.length vc2) O.length (O.map (·.1)) → FamT w19 B0 O → w19.ownsRow B1 3 1 (.slice va3 R.length vc3) R.length (ivs R) → K19 fa w19 by
     refine Z0P (Ext [] w6) none follows fun w7 hh eh=>?_
     have q2_:=q2
     replace q2:=Zn hh q2
     have q7_:=q7
     replace q7:=Zn hh q7
     have E_:=E
     have zEw7:=E.size
     replace E:=Z4 E eh
     have EM_:=EM
     have zEMw7:=EM.size
     replace EM:=Z4 EM eh
     have EB_:=EB
     have zEBw7:=EB.size
     replace EB:=Z4 EB eh
     replace oo:=ZW hh oo
     replace fam:=ZL fam fun _ _ _ h=>ZW hh h
     replace ro:=ZW hh ro
     have eT:=eh
     clear hh eh
     refine F.xr (i:=0) rfl (fun w' hS=>Zt rfl (F.at rfl) Try.underlying111 rfl (by kernel_rfl) (hS.keep q7_ (by simp))) (fun _=>eT) ?_;clear F fa;intro fa F
     refine F.xr (i:=1) rfl (fun w' hS=>Zt rfl (F.at rfl) Try.underlying28 rfl (by kernel_rfl) (hS.keep q2_ (by simp))) (fun _=>eT) ?_;clear F fa;intro fa F
     refine F.x (i:=2) rfl (fun w'=>Zi rfl (F.at rfl)) (fun _=>eT) ?_;clear F fa;intro fa F
     refine F.x (i:=3) rfl (fun w'=>Zi rfl (F.at rfl)) (fun _=>eT) ?_;clear F fa;intro fa F
     refine Z19 (i:=4) (j:=6) (by kernel_rfl) ?_ ?_
     ·skip
      refine (Z07 F rfl rfl (by decide) rfl (ZG rfl rfl Try.call96 (mpS (F.at rfl) (mpS (F.at rfl) (mpS (F.at rfl) mp0)))) (Z0n hL.ok _ _ _ (i:Int) (j:Int) _ (by omega) hiS (by omega) hjA) fun e w8 hR=>?_)
      obtain ⟨rfl,e9⟩:=hR
      refine ⟨_,rfl,?_⟩;clear F fa;intro fa F
      replace oo:=Zq oo (e9) (by simp)
      replace fam:=ZL fam fun _ _ _ h=>Zq h (e9) (by simp)
      replace ro:=Zq ro (e9) (by simp)
      replace q2:=(e9).keep0 q2
      replace q7:=(e9).keep0 q7
      replace E:=Z4 E (e9)
      replace EM:=Z4 EM (e9)
      replace EB:=Z4 EB (e9)
      replace eT:=Z4 eT (e9)
      clear e9
      refine ⟨fun _=>eT,?_⟩
      refine Z19 (i:=5) (j:=6) (by kernel_rfl) ?_ ?_
      ·skip
       refine (Z07 F rfl rfl (by decide) rfl (ZG rfl rfl Try.call95 (mpS (F.at rfl) (mpS (F.at rfl) (mpS (ev_c fa _) mp0)))) (Z0W (Z2X hL.ok hnn).1 (Z2o HMF.out EM) (rnI t (i:Int) (j:Int)) 0 hlt hl0 (p:=mlo t i j) (q:=mhi t i j) (by rw [k2.1];rfl) k1.1 k2.2.1 k2.2.2) fun e w9 hR=>?_)
       obtain ⟨rfl,e9⟩:=hR
       refine ⟨_,rfl,?_⟩;clear F fa;intro fa F
       replace oo:=Zq oo (e9) (by simp)
       replace fam:=ZL fam fun _ _ _ h=>Zq h (e9) (by simp)
       replace ro:=Zq ro (e9) (by simp)
       replace q2:=(e9).keep0 q2
       replace q7:=(e9).keep0 q7
       replace E:=Z4 E (e9)
       replace EM:=Z4 EM (e9)
       replace EB:=Z4 EB (e9)
       replace eT:=Z4 eT (e9)
       clear e9
       refine ⟨fun _=>eT,?_⟩
       refine Zv (i:=6) (by kernel_rfl) (Z0w F rfl rfl (by decide) rfl (ZB rfl Try.zeroValue23) ?_);clear F fa;intro fa w10 F hw
       obtain ⟨n14,hn⟩:∃ n,n = w9.heap.size:=⟨_,rfl⟩
       rw [← hn] at F
       have s14:w9.heap.size ≤ n14:=Nat.le_of_eq hn.symm
       have l14_E:w.heap.size ≤ n14:=by rw [hn];exact E.size
       have l14_EM:w2.heap.size ≤ n14:=by rw [hn];exact EM.size
       have l14_EB:w5.heap.size ≤ n14:=by rw [hn];exact EB.size
       have lT14:w6.heap.size ≤ n14:=by rw [hn];exact eT.size
       have m14_2:n2 < n14:=by rw [hn];exact Z7 q2
       have m14_7:n7 < n14:=by rw [hn];exact Z7 q7
       have o14_oo:=Lib.hid (Zo oo hn)
       have o14_ro:=Lib.hid (Zo ro hn)
       replace oo:=Zc hw oo
       replace fam:=ZL fam fun _ _ _ h=>Zc hw h
       replace ro:=Zc hw ro
       replace q2:=Z1 hw q2
       replace q7:=Z1 hw q7
       replace E:=Z2 E hw
       replace EM:=Z2 EM hw
       replace EB:=Z2 EB hw
       replace eT:=Z2 eT hw
       have q14:=Zr hw hn
       clear hw hn
       refine ⟨fun _=>eT,?_⟩
       refine Zv (i:=7) (by kernel_rfl) (Z0u rfl rfl rfl (Zg rfl (F.at rfl) (F.at rfl) (by kernel_rfl) (by first | (simp [Value.oneCell'];done) | (simp [Value.oneCell',Z0K,Z0B,Z0L];done)) q14 rfl) ?_);intro w11 hw
       replace oo:=Zu hw oo (Z6 oo q14 (by decide))
       replace fam:=ZL fam fun _ _ _ h=>Zu hw h (Z6 h q14 (by decide))
       replace ro:=Zu hw ro (Z6 ro q14 (by decide))
       replace q2:=Z5 hw q2 (by omega)
       replace q7:=Z5 hw q7 (by omega)
       replace q14:=Zz hw q14 rfl
       replace E:=Za E hw (fun h=>by first | exact absurd h (by omega) | simp)
       replace EM:=Za EM hw (fun h=>by first | exact absurd h (by omega) | simp)
       replace EB:=Za EB hw (fun h=>by first | exact absurd h (by omega) | simp)
       replace eT:=Za eT hw (fun h=>by first | exact absurd h (by omega) | simp)
       clear hw
       refine ⟨fun _=>eT,?_⟩
       refine Z0a (by kernel_rfl) ?_ _
       exact hcut _ _ _ (F.sub (.c 1 rfl (.c 2 rfl (.c 7 rfl (.c 9 rfl (.c 10 rfl (.c 11 rfl (.c 12 rfl (.c 13 rfl (.c 14 rfl .n)))))))))) q2 q7 q14 E EM EB (by omega) (by omega) (by omega) (by omega) (by omega) oo fam ro
      ·skip
       refine (Z0w F rfl rfl (by decide) rfl (ZB rfl Try.zeroValue23) ?_);clear F fa;intro fa w12 F hw
       obtain ⟨n14,hn⟩:∃ n,n = w8.heap.size:=⟨_,rfl⟩
       rw [← hn] at F
       have s14:w8.heap.size ≤ n14:=Nat.le_of_eq hn.symm
       have l14_E:w.heap.size ≤ n14:=by rw [hn];exact E.size
       have l14_EM:w2.heap.size ≤ n14:=by rw [hn];exact EM.size
       have l14_EB:w5.heap.size ≤ n14:=by rw [hn];exact EB.size
       have lT14:w6.heap.size ≤ n14:=by rw [hn];exact eT.size
       have m14_2:n2 < n14:=by rw [hn];exact Z7 q2
       have m14_7:n7 < n14:=by rw [hn];exact Z7 q7
       have o14_oo:=Lib.hid (Zo oo hn)
       have o14_ro:=Lib.hid (Zo ro hn)
       replace oo:=Zc hw oo
       replace fam:=ZL fam fun _ _ _ h=>Zc hw h
       replace ro:=Zc hw ro
       replace q2:=Z1 hw q2
       replace q7:=Z1 hw q7
       replace E:=Z2 E hw
       replace EM:=Z2 EM hw
       replace EB:=Z2 EB hw
       replace eT:=Z2 eT hw
       have q14:=Zr hw hn
       clear hw hn
       refine ⟨fun _=>eT,?_⟩
       refine Zv (i:=5) (by kernel_rfl) (Z07 F rfl rfl (by decide) rfl (ZG rfl rfl Try.call95 (mpS (F.at rfl) (mpS (F.at rfl) (mpS (ev_c fa _) mp0)))) (Z0W (Z2X hL.ok hnn).1 (Z2o HMF.out EM) (rnI t (i:Int) (j:Int)) 0 hlt hl0 (p:=mlo t i j) (q:=mhi t i j) (by rw [k2.1];rfl) k1.1 k2.2.1 k2.2.2) fun e w13 hR=>?_)
       obtain ⟨rfl,e9⟩:=hR
       refine ⟨_,rfl,?_⟩;clear F fa;intro fa F
       replace oo:=Zq oo (e9) (by simp)
       replace fam:=ZL fam fun _ _ _ h=>Zq h (e9) (by simp)
       replace ro:=Zq ro (e9) (by simp)
       replace q2:=(e9).keep0 q2
       replace q7:=(e9).keep0 q7
       replace q14:=(e9).keep0 q14
       replace E:=Z4 E (e9)
       replace EM:=Z4 EM (e9)
       replace EB:=Z4 EB (e9)
       replace eT:=Z4 eT (e9)
       clear e9
       refine ⟨fun _=>eT,?_⟩
       refine Zv (i:=7) (by kernel_rfl) (Z0u rfl rfl rfl (Zg rfl (F.at rfl) (F.at rfl) (by kernel_rfl) (by first | (simp [Value.oneCell'];done) | (simp [Value.oneCell',Z0K,Z0B,Z0L];done)) q14 rfl) ?_);intro w14 hw
       replace oo:=Zu hw oo (Z6 oo q14 (by decide))
       replace fam:=ZL fam fun _ _ _ h=>Zu hw h (Z6 h q14 (by decide))
       replace ro:=Zu hw ro (Z6 ro q14 (by decide))
       replace q2:=Z5 hw q2 (by omega)
       replace q7:=Z5 hw q7 (by omega)
       replace q14:=Zz hw q14 rfl
       replace E:=Za E hw (fun h=>by first | exact absurd h (by omega) | simp)
       replace EM:=Za EM hw (fun h=>by first | exact absurd h (by omega) | simp)
       replace EB:=Za EB hw (fun h=>by first | exact absurd h (by omega) | simp)
       replace eT:=Za eT hw (fun h=>by first | exact absurd h (by omega) | simp)
       clear hw
       refine ⟨fun _=>eT,?_⟩
       refine Z0a (by kernel_rfl) ?_ _
       exact hcut _ _ _ (F.sub (.c 1 rfl (.c 2 rfl (.c 7 rfl (.c 9 rfl (.c 10 rfl (.c 11 rfl (.c 12 rfl (.c 13 rfl (.c 14 rfl .n)))))))))) q2 q7 q14 E EM EB (by omega) (by omega) (by omega) (by omega) (by omega) oo fam ro
     ·skip
      refine (Z0w F rfl rfl (by decide) rfl (ZB rfl Try.zeroValue23) ?_);clear F fa;intro fa w15 F hw
      obtain ⟨n14,hn⟩:∃ n,n = w7.heap.size:=⟨_,rfl⟩
      rw [← hn] at F
      have s14:w7.heap.size ≤ n14:=Nat.le_of_eq hn.symm
      have l14_E:w.heap.size ≤ n14:=by rw [hn];exact E.size
      have l14_EM:w2.heap.size ≤ n14:=by rw [hn];exact EM.size
      have l14_EB:w5.heap.size ≤ n14:=by rw [hn];exact EB.size
      have lT14:w6.heap.size ≤ n14:=by rw [hn];exact eT.size
      have m14_2:n2 < n14:=by rw [hn];exact Z7 q2
      have m14_7:n7 < n14:=by rw [hn];exact Z7 q7
      have o14_oo:=Lib.hid (Zo oo hn)
      have o14_ro:=Lib.hid (Zo ro hn)
      replace oo:=Zc hw oo
      replace fam:=ZL fam fun _ _ _ h=>Zc hw h
      replace ro:=Zc hw ro
      replace q2:=Z1 hw q2
      replace q7:=Z1 hw q7
      replace E:=Z2 E hw
      replace EM:=Z2 EM hw
      replace EB:=Z2 EB hw
      replace eT:=Z2 eT hw
      have q14:=Zr hw hn
      clear hw hn
      refine ⟨fun _=>eT,?_⟩
      refine Zv (i:=4) (by kernel_rfl) (Z07 F rfl rfl (by decide) rfl (ZG rfl rfl Try.call96 (mpS (F.at rfl) (mpS (F.at rfl) (mpS (F.at rfl) mp0)))) (Z0n hL.ok _ _ _ (i:Int) (j:Int) _ (by omega) hiS (by omega) hjA) fun e w16 hR=>?_)
      obtain ⟨rfl,e9⟩:=hR
      refine ⟨_,rfl,?_⟩;clear F fa;intro fa F
      replace oo:=Zq oo (e9) (by simp)
      replace fam:=ZL fam fun _ _ _ h=>Zq h (e9) (by simp)
      replace ro:=Zq ro (e9) (by simp)
      replace q2:=(e9).keep0 q2
      replace q7:=(e9).keep0 q7
      replace q14:=(e9).keep0 q14
      replace E:=Z4 E (e9)
      replace EM:=Z4 EM (e9)
      replace EB:=Z4 EB (e9)
      replace eT:=Z4 eT (e9)
      clear e9
      refine ⟨fun _=>eT,?_⟩
      refine Zv (i:=5) (by kernel_rfl) (Z07 F rfl rfl (by decide) rfl (ZG rfl rfl Try.call95 (mpS (F.at rfl) (mpS (F.at rfl) (mpS (ev_c fa _) mp0)))) (Z0W (Z2X hL.ok hnn).1 (Z2o HMF.out EM) (rnI t (i:Int) (j:Int)) 0 hlt hl0 (p:=mlo t i j) (q:=mhi t i j) (by rw [k2.1];rfl) k1.1 k2.2.1 k2.2.2) fun e w17 hR=>?_)
      obtain ⟨rfl,e9⟩:=hR
      refine ⟨_,rfl,?_⟩;clear F fa;intro fa F
      replace oo:=Zq oo (e9) (by simp)
      replace fam:=ZL fam fun _ _ _ h=>Zq h (e9) (by simp)
      replace ro:=Zq ro (e9) (by simp)
      replace q2:=(e9).keep0 q2
      replace q7:=(e9).keep0 q7
      replace q14:=(e9).keep0 q14
      replace E:=Z4 E (e9)
      replace EM:=Z4 EM (e9)
      replace EB:=Z4 EB (e9)
      replace eT:=Z4 eT (e9)
      clear e9
      refine ⟨fun _=>eT,?_⟩
      refine Zv (i:=7) (by kernel_rfl) (Z0u rfl rfl rfl (Zg rfl (F.at rfl) (F.at rfl) (by kernel_rfl) (by first | (simp [Value.oneCell'];done) | (simp [Value.oneCell',Z0K,Z0B,Z0L];done)) q14 rfl) ?_);intro w18 hw
      replace oo:=Zu hw oo (Z6 oo q14 (by decide))
      replace fam:=ZL fam fun _ _ _ h=>Zu hw h (Z6 h q14 (by decide))
      replace ro:=Zu hw ro (Z6 ro q14 (by decide))
      replace q2:=Z5 hw q2 (by omega)
      replace q7:=Z5 hw q7 (by omega)
      replace q14:=Zz hw q14 rfl
      replace E:=Za E hw (fun h=>by first | exact absurd h (by omega) | simp)
      replace EM:=Za EM hw (fun h=>by first | exact absurd h (by omega) | simp)
      replace EB:=Za EB hw (fun h=>by first | exact absurd h (by omega) | simp)
      replace eT:=Za eT hw (fun h=>by first | exact absurd h (by omega) | simp)
      clear hw
      refine ⟨fun _=>eT,?_⟩
      refine Z0a (by kernel_rfl) ?_ _
      exact hcut _ _ _ (F.sub (.c 1 rfl (.c 2 rfl (.c 7 rfl (.c 9 rfl (.c 10 rfl (.c 11 rfl (.c 12 rfl (.c 13 rfl (.c 14 rfl .n)))))))))) q2 q7 q14 E EM EB (by omega) (by omega) (by omega) (by omega) (by omega) oo fam ro
    clear F q2 q7 E EM EB oo fam ro fa
    intro n14  fa w19 F q2 q7 q14 E EM EB l14_E l14_EM l14_EB m14_2 m14_7 oo fam ro
    refine hK19 _ _ ?_
    clear hK19
    refine wp_seq_k fun K20 hK20=>?_
    refine wp_region_lit ?_
    refine F.mv ?_;clear F fa;intro fa F
    refine wpList_nil ?_
    refine hK20 _ _ ?_
    clear hK20
    refine cd_T F rfl ?_
    refine wp_region_lit ?_
    refine F.mv ?_;clear F fa;intro fa F
    refine F.vl (Z9 rfl (F.at rfl) Try.underlying23 rfl (n:=1) (sz:=1) rfl (by kernel_rfl) (by decide)) ?_;clear F fa;intro fa F
    refine F.vl (Zh rfl (F.at rfl) Try.underlying3 rfl ((Z0 q14 1).trans (getS (get0)))) ?_;clear F fa;intro fa F
    refine Z00 F rfl (by decide) rfl (Z09 rfl (prS (F.at rfl) pr0) Try.underlying29 (size:=1) (by kernel_rfl) (by decide) (by decide) Try.zeroValue3 (cells:=#[.int .i64 (mhi t i j)]) (by kernel_rfl)) ?_;clear F fa;intro fa w20 F hw
    obtain ⟨n47,hn⟩:∃ n,n = w19.heap.size:=⟨_,rfl⟩
    rw [← hn] at F
    have s47:w19.heap.size ≤ n47:=Nat.le_of_eq hn.symm
    have l47_E:w.heap.size ≤ n47:=by rw [hn];exact E.size
    have l47_EM:w2.heap.size ≤ n47:=by rw [hn];exact EM.size
    have l47_EB:w5.heap.size ≤ n47:=by rw [hn];exact EB.size
    have m47_2:n2 < n47:=by rw [hn];exact Z7 q2
    have m47_7:n7 < n47:=by rw [hn];exact Z7 q7
    have m47_14:n14 < n47:=by rw [hn];exact Z7 q14
    have o47_oo:=Lib.hid (Zo oo hn)
    have o47_ro:=Lib.hid (Zo ro hn)
    replace oo:=Zc hw oo
    replace fam:=ZL fam fun _ _ _ h=>Zc hw h
    replace ro:=Zc hw ro
    replace q2:=Z1 hw q2
    replace q7:=Z1 hw q7
    replace q14:=Z1 hw q14
    replace E:=Z2 E hw
    replace EM:=Z2 EM hw
    replace EB:=Z2 EB hw
    have q47:=Zw hw hn
    clear hw hn
    have hEs:=EB.size
    refine Z27 F rfl (by decide) rfl (Z0T rfl (B1) (e:=3) (size:=1) (bytes:=8) Try.underlying29 (by kernel_rfl) (by decide) (F.at rfl) ro (F.at rfl) q47 rfl (by simp [Value.oneCell']) (by omega) (by omega) (by omega)) ?_;clear F fa;rintro fa v' w21 F ⟨hown',hg⟩
    obtain ⟨va48,vc48,rfl⟩:=Zs hown'
    replace q2:=Zb ro hg q2 (by decide)
    replace q7:=Zb ro hg q7 (by decide)
    replace q14:=Zb ro hg q14 (by decide)
    replace oo:=Zx oo ro hg (by decide)
    replace fam:=Z4r fam hflt.out ro hg
    replace E:=Zd E ro hg (by omega)
    replace EM:=Zd EM ro hg (by omega)
    replace EB:=Zd EB ro hg (by omega)
    replace ro:=hown'
    clear hg
    obtain ⟨P2,hP2e⟩:∃ P2,P2 = R ++ [(sndI (mlo t i j) (mhi t i j))]:=⟨_,rfl⟩
    have hPl3:R.length + 1 = P2.length:=by rw [hP2e,List.length_append];rfl
    have hRl2:P2.length = j + 1:=by omega
    have hR2:P2 = rowL t sndI i (j + 1):=by rw [Z4s,hP2e,hR]
    rw [show [Value.int .i64 (mhi t i j)] = [Value.int .i64 (sndI (mlo t i j) (mhi t i j))] from rfl,Z21,← hP2e,hPl3] at ro
    rw [hPl3] at F
    refine F.as ?_;clear F fa;intro fa F
    refine wpList_nil ?_
    refine hK18 _ _ ?_
    clear hK18
    refine wp_region_lit ?_
    refine F.mv ?_;clear F fa;intro fa F
    refine F.vl (Z0F rfl (F.at rfl) (ev_c fa _) (by omega) (by omega)) ?_;clear F fa;intro fa F
    refine F.as ?_;clear F fa;intro fa F
    refine wpList_nil ?_
    show _ ∧ _
    exact ⟨by omega,_,⟨_,_,_,rfl,E,EM,EB,q2,q7,oo,fam,ro,hR2,hRl2⟩,F.sub (.c 12 rfl (.c 13 rfl (.c 1 rfl (.c 2 rfl (.c 7 rfl (.c 9 rfl (.c 10 rfl (.c 11 rfl .n))))))))⟩
   ·skip
    refine wp_exit ?_
    obtain rfl:j = t.A.toNat:=by omega
    refine hK14 _ _ ?_
    clear hK14
    refine wp_region_lit ?_
    refine F.mv ?_;clear F fa;intro fa F
    refine F.mv ?_;clear F fa;intro fa F
    refine Z00 F rfl (by decide) rfl (Z09 rfl (prS (F.at rfl) pr0) Try.underlying50 (size:=1) (by kernel_rfl) (by decide) (by decide) Try.zeroValue29 (cells:=#[.slice va3 R.length vc3]) (by kernel_rfl)) ?_;clear F fa;intro fa w22 F hw
    obtain ⟨n56,hn⟩:∃ n,n = w6.heap.size:=⟨_,rfl⟩
    rw [← hn] at F
    have s56:w6.heap.size ≤ n56:=Nat.le_of_eq hn.symm
    have l56_E:w.heap.size ≤ n56:=by rw [hn];exact E.size
    have l56_EM:w2.heap.size ≤ n56:=by rw [hn];exact EM.size
    have l56_EB:w5.heap.size ≤ n56:=by rw [hn];exact EB.size
    have m56_2:n2 < n56:=by rw [hn];exact Z7 q2
    have m56_7:n7 < n56:=by rw [hn];exact Z7 q7
    have o56_oo:=Lib.hid (Zo oo hn)
    have o56_ro:=Lib.hid (Zo ro hn)
    replace oo:=Zc hw oo
    replace fam:=ZL fam fun _ _ _ h=>Zc hw h
    replace ro:=Zc hw ro
    replace q2:=Z1 hw q2
    replace q7:=Z1 hw q7
    replace E:=Z2 E hw
    replace EM:=Z2 EM hw
    replace EB:=Z2 EB hw
    have q56:=Zw hw hn
    clear hw hn
    have hEs:=E.size
    have hMs:=EM.size
    have fam2:=Z3D (Z3C (b1:=B1) (L:=[(Value.slice va3 R.length vc3,R)]) ⟨fun p hp=>(by obtain rfl:p = (Value.slice va3 R.length vc3,R):=(by simpa using hp);exact ro),List.pairwise_singleton _ _⟩ fam hflt.out hB1w) (M:=O ++ [(Value.slice va3 R.length vc3,R)]) List.perm_append_comm
    clear fam ro EB
    have fam:=fam2
    clear fam2
    refine Z27 F rfl (by decide) rfl (Z0T rfl (B0) (e:=29) (size:=1) (bytes:=24) Try.underlying50 (by kernel_rfl) (by decide) (F.at rfl) oo (F.at rfl) q56 rfl (by simp [Value.oneCell']) (by omega) (by omega) (by omega)) ?_;clear F fa;rintro fa v' w23 F ⟨hown',hg⟩
    obtain ⟨va57,vc57,rfl⟩:=Zs hown'
    replace q2:=Zb oo hg q2 (by decide)
    replace q7:=Zb oo hg q7 (by decide)
    replace fam:=ZL fam fun _ _ _ h=>Zx h oo hg (by decide)
    replace E:=Zd E oo hg (by omega)
    replace EM:=Zd EM oo hg (by omega)
    replace oo:=hown'
    clear hg
    obtain ⟨P2,hP2e⟩:∃ P2,P2 = O ++ [(Value.slice va3 R.length vc3,R)]:=⟨_,rfl⟩
    have hPl3:O.length + 1 = P2.length:=by rw [hP2e,List.length_append];rfl
    have hO3:P2.map (·.2) = (List.range (i + 1)).map (fun s=>rowL t sndI s t.A.toNat):=by rw [hP2e,List.map_append,hO,List.range_succ,List.map_append,hR];rfl
    rw [show O.map (·.1) ++ [Value.slice va3 R.length vc3] = P2.map (·.1) by rw [hP2e,List.map_append];rfl,hPl3] at oo
    rw [hPl3] at F
    rw [← hP2e] at fam
    refine F.as ?_;clear F fa;intro fa F
    refine wpList_nil ?_
    refine hK12 _ _ ?_
    clear hK12
    refine wp_region_lit ?_
    refine F.mv ?_;clear F fa;intro fa F
    refine F.vl (Z0F rfl (F.at rfl) (ev_c fa _) (by omega) (by omega)) ?_;clear F fa;intro fa F
    refine F.as ?_;clear F fa;intro fa F
    refine wpList_nil ?_
    show _ ∧ _
    exact ⟨by omega,_,⟨_,_,_,rfl,E,EM,q2,q7,oo,fam,hO3⟩,F.sub (.c 9 rfl (.c 11 rfl (.c 1 rfl (.c 2 rfl (.c 7 rfl (.c 10 rfl .n))))))⟩
  ·skip
   refine wp_exit ?_
   obtain rfl:i = t.S.toNat:=by omega
   have HLs:=Lib.hid (Z1J oo rfl)
   have HLr:Hid (∀ p ∈ O,Z4T w5 p.1 p.2):=fun p hp=>Z5K fam hp
   have EL:Ext [] w5 w5:=Ext.refl _ _
   have po':w5.ownsRow w5.heap.size 3 1 (.slice none 0 0) 0 (ivs []):=World.ownsRow_nil _ _ _ _
   obtain ⟨B2,hB2⟩:∃ B2,B2 = w5.heap.size:=⟨_,rfl⟩
   have hB2w:B0 ≤ B2:=by rw [hB0,hB2];exact EM.size
   have hB2L:w5.heap.size ≤ B2:=by rw [hB2];exact Nat.le_refl _
   rw [← hB2] at po'
   clear oo fam
   refine hK8 _ _ ?_
   clear hK8
   refine wp_seq_k fun K21 hK21=>?_
   refine wp_seq_k fun K22 hK22=>?_
   refine wp_region_lit ?_
   refine F.vl (Z8 rfl (ev_c fa _)) ?_;clear F fa;intro fa F
   refine wpList_nil ?_
   refine hK22 _ _ ?_
   clear hK22
   refine wp_block ?_
   have F0:=F.sub (.c 1 rfl (.c 2 rfl (.c 7 rfl (.c 9 rfl .n))))
   refine Z0U F0 (t.T.toNat) (fun k2 Lv W=>∃ va4:Option Addr,∃ vc4:Nat,∃ R3:List Int,Lv = [(10,.slice va4 R3.length vc4),(15,.int .i64 ((k2:Nat):Int))] ∧ Ext [] w W ∧ Ext [] w2 W ∧ Ext [] w5 W ∧ W.heap[n2]? = some (.cells #[.int .i64 t.S,.int .i64 t.A,.int .i64 t.T,.int .i64 t.bl,.int .i64 t.bm,.int .i64 t.pl,.int .i64 t.pm,.int .i64 t.sl,.slice ga t.gr.length gc,.slice ra t.rd.length rc,.slice la t.lk.length lc] 28 (0,0)) ∧ W.heap[n7]? = some (.cells #[.slice oa k oc] 111 (0,0)) ∧ W.ownsRow B2 3 1 (.slice va4 R3.length vc4) R3.length (ivs R3) ∧ R3 = (List.range k2).map (fun i=>fstI (plo t (i:Nat)) (phi t (i:Nat))) ∧ R3.length = k2) ⟨_,⟨none,0,[],rfl,E,EM,EL,q2,q7,po',rfl,rfl⟩,F.sub (.c 10 rfl (.c 15 rfl (.c 1 rfl (.c 2 rfl (.c 7 rfl (.c 9 rfl .n))))))⟩ ?_
   clear F F0
   clear E EM EL q2 q7
   clear po'
   rintro k2 _ fa w24 hi3 ⟨va4,vc4,R3,rfl,E,EM,EL,q2,q7,po',hR3,hRl3⟩ F
   refine wp_seq_k fun K23 hK23=>?_
   refine wp_seq_k fun K24 hK24=>?_
   refine wp_region_lit ?_
   refine F.mv ?_;clear F fa;intro fa F
   refine F.vl (Z9 rfl (F.at rfl) Try.underlying28 rfl (n:=2) (sz:=1) rfl (by kernel_rfl) (by decide)) ?_;clear F fa;intro fa F
   refine F.vl (Zh rfl (F.at rfl) Try.underlying3 rfl ((Z0 q2 2).trans (getS (getS (get0))))) ?_;clear F fa;intro fa F
   refine F.vl (Z1d rfl (F.at rfl) (F.at rfl)) ?_;clear F fa;intro fa F
   refine wpList_nil ?_
   refine hK24 _ _ ?_
   clear hK24
   refine Z0J F rfl (fun hc61=>?_) (fun hc61=>?_)
   ·skip
    refine wp_skip ?_
    refine hK23 _ _ ?_
    clear hK23
    refine wp_seq_k fun K25 hK25=>?_
    refine wp_block ?_
    refine wp_seq_k fun K26 hK26=>?_
    have hkT:(k2:Int) < t.T:=by omega
    have hlt:=Zbe hL.ok hnn (i:=(k2:Int)) (by omega) hkT
    have k3:=Z2C hL.ok hL.bdB hnn (i:=rpI t (k2:Int)) (j:=0) hlt hl0
    have k4:=Z2C hL.ok hL.bdB hnn (i:=0) (j:=rpI t (k2:Int)) hl0 hlt
    rw [Z7T,Z8b hL.ok (by omega)] at k3 k4
    suffices hcut:∀ (n16:Nat) (fa:Act) (w37:World),Has 82 fa [(1,.bool true),(2,.pointer (some ⟨n2,0,none⟩)),(7,.pointer (some ⟨n7,0,none⟩)),(9,.slice va2 O.length vc2),(10,.slice va4 R3.length vc4),(15,.int .i64 ((k2:Nat):Int)),(16,.pointer (some ⟨n16,0,none⟩))] → w37.heap[n2]? = some (.cells #[.int .i64 t.S,.int .i64 t.A,.int .i64 t.T,.int .i64 t.bl,.int .i64 t.bm,.int .i64 t.pl,.int .i64 t.pm,.int .i64 t.sl,.slice ga t.gr.length gc,.slice ra t.rd.length rc,.slice la t.lk.length lc] 28 (0,0)) → w37.heap[n7]? = some (.cells #[.slice oa k oc] 111 (0,0)) → w37.heap[n16]? = some (.cells #[.int .i64 (plo t k2),.int .i64 (phi t k2)] 23 (0,0)) → Ext [] w w37 → Ext [] w2 w37 → Ext [] w5 w37 → w.heap.size ≤ n16 → w2.heap.size ≤ n16 → w5.heap.size ≤ n16 → n2 ≠ n16 → n7 ≠ n16 → w37.ownsRow B2 3 1 (.slice va4 R3.length vc4) R3.length (ivs R3) → K26 fa w37 by
     refine Z0P (Ext [] w24) none follows fun w25 hh eh=>?_
     have q2_:=q2
     replace q2:=Zn hh q2
     have q7_:=q7
     replace q7:=Zn hh q7
     have E_:=E
     have zEw25:=E.size
     replace E:=Z4 E eh
     have EM_:=EM
     have zEMw25:=EM.size
     replace EM:=Z4 EM eh
     have EL_:=EL
     have zELw25:=EL.size
     replace EL:=Z4 EL eh
     replace po':=ZW hh po'
     have eT:=eh
     clear hh eh
     refine F.xr (i:=0) rfl (fun w' hS=>Zt rfl (F.at rfl) Try.underlying111 rfl (by kernel_rfl) (hS.keep q7_ (by simp))) (fun _=>eT) ?_;clear F fa;intro fa F
     refine F.xr (i:=1) rfl (fun w' hS=>Zt rfl (F.at rfl) Try.underlying28 rfl (by kernel_rfl) (hS.keep q2_ (by simp))) (fun _=>eT) ?_;clear F fa;intro fa F
     refine F.x (i:=2) rfl (fun w'=>Zi rfl (F.at rfl)) (fun _=>eT) ?_;clear F fa;intro fa F
     refine Z19 (i:=3) (j:=5) (by kernel_rfl) ?_ ?_
     ·skip
      refine (Z07 F rfl rfl (by decide) rfl (ZG rfl rfl Try.call99 (mpS (F.at rfl) (mpS (F.at rfl) mp0))) (Z1t hL.ok _ _ _ (k2:Int) _ (by omega) hkT) fun e w26 hR=>?_)
      obtain ⟨rfl,e9⟩:=hR
      refine ⟨_,rfl,?_⟩;clear F fa;intro fa F
      replace po':=Zq po' (e9) (by simp)
      replace q2:=(e9).keep0 q2
      replace q7:=(e9).keep0 q7
      replace E:=Z4 E (e9)
      replace EM:=Z4 EM (e9)
      replace EL:=Z4 EL (e9)
      replace eT:=Z4 eT (e9)
      clear e9
      refine ⟨fun _=>eT,?_⟩
      refine Z19 (i:=4) (j:=5) (by kernel_rfl) ?_ ?_
      ·skip
       refine (Z07 F rfl rfl (by decide) rfl (ZG rfl rfl Try.call95 (mpS (F.at rfl) (mpS (ev_c fa _) (mpS (F.at rfl) mp0)))) (Z0W (Z2X hL.ok hnn).1 (Z2o HMF.out EM) 0 (rpI t (k2:Int)) hl0 hlt (p:=plo t k2) (q:=phi t k2) (by rw [k3.1];rfl) k4.1 k3.2.1 k3.2.2) fun e w27 hR=>?_)
       obtain ⟨rfl,e9⟩:=hR
       refine ⟨_,rfl,?_⟩;clear F fa;intro fa F
       replace po':=Zq po' (e9) (by simp)
       replace q2:=(e9).keep0 q2
       replace q7:=(e9).keep0 q7
       replace E:=Z4 E (e9)
       replace EM:=Z4 EM (e9)
       replace EL:=Z4 EL (e9)
       replace eT:=Z4 eT (e9)
       clear e9
       refine ⟨fun _=>eT,?_⟩
       refine Zv (i:=5) (by kernel_rfl) (Z0w F rfl rfl (by decide) rfl (ZB rfl Try.zeroValue23) ?_);clear F fa;intro fa w28 F hw
       obtain ⟨n16,hn⟩:∃ n,n = w27.heap.size:=⟨_,rfl⟩
       rw [← hn] at F
       have s16:w27.heap.size ≤ n16:=Nat.le_of_eq hn.symm
       have l16_E:w.heap.size ≤ n16:=by rw [hn];exact E.size
       have l16_EM:w2.heap.size ≤ n16:=by rw [hn];exact EM.size
       have l16_EL:w5.heap.size ≤ n16:=by rw [hn];exact EL.size
       have lT16:w24.heap.size ≤ n16:=by rw [hn];exact eT.size
       have m16_2:n2 < n16:=by rw [hn];exact Z7 q2
       have m16_7:n7 < n16:=by rw [hn];exact Z7 q7
       have o16_po':=Lib.hid (Zo po' hn)
       replace po':=Zc hw po'
       replace q2:=Z1 hw q2
       replace q7:=Z1 hw q7
       replace E:=Z2 E hw
       replace EM:=Z2 EM hw
       replace EL:=Z2 EL hw
       replace eT:=Z2 eT hw
       have q16:=Zr hw hn
       clear hw hn
       refine ⟨fun _=>eT,?_⟩
       refine Zv (i:=6) (by kernel_rfl) (Z0u rfl rfl rfl (Zg rfl (F.at rfl) (F.at rfl) (by kernel_rfl) (by first | (simp [Value.oneCell'];done) | (simp [Value.oneCell',Z0K,Z0B,Z0L];done)) q16 rfl) ?_);intro w29 hw
       replace po':=Zu hw po' (Z6 po' q16 (by decide))
       replace q2:=Z5 hw q2 (by omega)
       replace q7:=Z5 hw q7 (by omega)
       replace q16:=Zz hw q16 rfl
       replace E:=Za E hw (fun h=>by first | exact absurd h (by omega) | simp)
       replace EM:=Za EM hw (fun h=>by first | exact absurd h (by omega) | simp)
       replace EL:=Za EL hw (fun h=>by first | exact absurd h (by omega) | simp)
       replace eT:=Za eT hw (fun h=>by first | exact absurd h (by omega) | simp)
       clear hw
       refine ⟨fun _=>eT,?_⟩
       refine Z0a (by kernel_rfl) ?_ _
       exact hcut _ _ _ (F.sub (.c 1 rfl (.c 2 rfl (.c 7 rfl (.c 9 rfl (.c 10 rfl (.c 15 rfl (.c 16 rfl .n)))))))) q2 q7 q16 E EM EL (by omega) (by omega) (by omega) (by omega) (by omega) po'
      ·skip
       refine (Z0w F rfl rfl (by decide) rfl (ZB rfl Try.zeroValue23) ?_);clear F fa;intro fa w30 F hw
       obtain ⟨n16,hn⟩:∃ n,n = w26.heap.size:=⟨_,rfl⟩
       rw [← hn] at F
       have s16:w26.heap.size ≤ n16:=Nat.le_of_eq hn.symm
       have l16_E:w.heap.size ≤ n16:=by rw [hn];exact E.size
       have l16_EM:w2.heap.size ≤ n16:=by rw [hn];exact EM.size
       have l16_EL:w5.heap.size ≤ n16:=by rw [hn];exact EL.size
       have lT16:w24.heap.size ≤ n16:=by rw [hn];exact eT.size
       have m16_2:n2 < n16:=by rw [hn];exact Z7 q2
       have m16_7:n7 < n16:=by rw [hn];exact Z7 q7
       have o16_po':=Lib.hid (Zo po' hn)
       replace po':=Zc hw po'
       replace q2:=Z1 hw q2
       replace q7:=Z1 hw q7
       replace E:=Z2 E hw
       replace EM:=Z2 EM hw
       replace EL:=Z2 EL hw
       replace eT:=Z2 eT hw
       have q16:=Zr hw hn
       clear hw hn
       refine ⟨fun _=>eT,?_⟩
       refine Zv (i:=4) (by kernel_rfl) (Z07 F rfl rfl (by decide) rfl (ZG rfl rfl Try.call95 (mpS (F.at rfl) (mpS (ev_c fa _) (mpS (F.at rfl) mp0)))) (Z0W (Z2X hL.ok hnn).1 (Z2o HMF.out EM) 0 (rpI t (k2:Int)) hl0 hlt (p:=plo t k2) (q:=phi t k2) (by rw [k3.1];rfl) k4.1 k3.2.1 k3.2.2) fun e w31 hR=>?_)
       obtain ⟨rfl,e9⟩:=hR
       refine ⟨_,rfl,?_⟩;clear F fa;intro fa F
       replace po':=Zq po' (e9) (by simp)
       replace q2:=(e9).keep0 q2
       replace q7:=(e9).keep0 q7
       replace q16:=(e9).keep0 q16
       replace E:=Z4 E (e9)
       replace EM:=Z4 EM (e9)
       replace EL:=Z4 EL (e9)
       replace eT:=Z4 eT (e9)
       clear e9
       refine ⟨fun _=>eT,?_⟩
       refine Zv (i:=6) (by kernel_rfl) (Z0u rfl rfl rfl (Zg rfl (F.at rfl) (F.at rfl) (by kernel_rfl) (by first | (simp [Value.oneCell'];done) | (simp [Value.oneCell',Z0K,Z0B,Z0L];done)) q16 rfl) ?_);intro w32 hw
       replace po':=Zu hw po' (Z6 po' q16 (by decide))
       replace q2:=Z5 hw q2 (by omega)
       replace q7:=Z5 hw q7 (by omega)
       replace q16:=Zz hw q16 rfl
       replace E:=Za E hw (fun h=>by first | exact absurd h (by omega) | simp)
       replace EM:=Za EM hw (fun h=>by first | exact absurd h (by omega) | simp)
       replace EL:=Za EL hw (fun h=>by first | exact absurd h (by omega) | simp)
       replace eT:=Za eT hw (fun h=>by first | exact absurd h (by omega) | simp)
       clear hw
       refine ⟨fun _=>eT,?_⟩
       refine Z0a (by kernel_rfl) ?_ _
       exact hcut _ _ _ (F.sub (.c 1 rfl (.c 2 rfl (.c 7 rfl (.c 9 rfl (.c 10 rfl (.c 15 rfl (.c 16 rfl .n)))))))) q2 q7 q16 E EM EL (by omega) (by omega) (by omega) (by omega) (by omega) po'
     ·skip
      refine (Z0w F rfl rfl (by decide) rfl (ZB rfl Try.zeroValue23) ?_);clear F fa;intro fa w33 F hw
      obtain ⟨n16,hn⟩:∃ n,n = w25.heap.size:=⟨_,rfl⟩
      rw [← hn] at F
      have s16:w25.heap.size ≤ n16:=Nat.le_of_eq hn.symm
      have l16_E:w.heap.size ≤ n16:=by rw [hn];exact E.size
      have l16_EM:w2.heap.size ≤ n16:=by rw [hn];exact EM.size
      have l16_EL:w5.heap.size ≤ n16:=by rw [hn];exact EL.size
      have lT16:w24.heap.size ≤ n16:=by rw [hn];exact eT.size
      have m16_2:n2 < n16:=by rw [hn];exact Z7 q2
      have m16_7:n7 < n16:=by rw [hn];exact Z7 q7
      have o16_po':=Lib.hid (Zo po' hn)
      replace po':=Zc hw po'
      replace q2:=Z1 hw q2
      replace q7:=Z1 hw q7
      replace E:=Z2 E hw
      replace EM:=Z2 EM hw
      replace EL:=Z2 EL hw
      replace eT:=Z2 eT hw
      have q16:=Zr hw hn
      clear hw hn
      refine ⟨fun _=>eT,?_⟩
      refine Zv (i:=3) (by kernel_rfl) (Z07 F rfl rfl (by decide) rfl (ZG rfl rfl Try.call99 (mpS (F.at rfl) (mpS (F.at rfl) mp0))) (Z1t hL.ok _ _ _ (k2:Int) _ (by omega) hkT) fun e w34 hR=>?_)
      obtain ⟨rfl,e9⟩:=hR
      refine ⟨_,rfl,?_⟩;clear F fa;intro fa F
      replace po':=Zq po' (e9) (by simp)
      replace q2:=(e9).keep0 q2
      replace q7:=(e9).keep0 q7
      replace q16:=(e9).keep0 q16
      replace E:=Z4 E (e9)
      replace EM:=Z4 EM (e9)
      replace EL:=Z4 EL (e9)
      replace eT:=Z4 eT (e9)
      clear e9
      refine ⟨fun _=>eT,?_⟩
      refine Zv (i:=4) (by kernel_rfl) (Z07 F rfl rfl (by decide) rfl (ZG rfl rfl Try.call95 (mpS (F.at rfl) (mpS (ev_c fa _) (mpS (F.at rfl) mp0)))) (Z0W (Z2X hL.ok hnn).1 (Z2o HMF.out EM) 0 (rpI t (k2:Int)) hl0 hlt (p:=plo t k2) (q:=phi t k2) (by rw [k3.1];rfl) k4.1 k3.2.1 k3.2.2) fun e w35 hR=>?_)
      obtain ⟨rfl,e9⟩:=hR
      refine ⟨_,rfl,?_⟩;clear F fa;intro fa F
      replace po':=Zq po' (e9) (by simp)
      replace q2:=(e9).keep0 q2
      replace q7:=(e9).keep0 q7
      replace q16:=(e9).keep0 q16
      replace E:=Z4 E (e9)
      replace EM:=Z4 EM (e9)
      replace EL:=Z4 EL (e9)
      replace eT:=Z4 eT (e9)
      clear e9
      refine ⟨fun _=>eT,?_⟩
      refine Zv (i:=6) (by kernel_rfl) (Z0u rfl rfl rfl (Zg rfl (F.at rfl) (F.at rfl) (by kernel_rfl) (by first | (simp [Value.oneCell'];done) | (simp [Value.oneCell',Z0K,Z0B,Z0L];done)) q16 rfl) ?_);intro w36 hw
      replace po':=Zu hw po' (Z6 po' q16 (by decide))
      replace q2:=Z5 hw q2 (by omega)
      replace q7:=Z5 hw q7 (by omega)
      replace q16:=Zz hw q16 rfl
      replace E:=Za E hw (fun h=>by first | exact absurd h (by omega) | simp)
      replace EM:=Za EM hw (fun h=>by first | exact absurd h (by omega) | simp)
      replace EL:=Za EL hw (fun h=>by first | exact absurd h (by omega) | simp)
      replace eT:=Za eT hw (fun h=>by first | exact absurd h (by omega) | simp)
      clear hw
      refine ⟨fun _=>eT,?_⟩
      refine Z0a (by kernel_rfl) ?_ _
      exact hcut _ _ _ (F.sub (.c 1 rfl (.c 2 rfl (.c 7 rfl (.c 9 rfl (.c 10 rfl (.c 15 rfl (.c 16 rfl .n)))))))) q2 q7 q16 E EM EL (by omega) (by omega) (by omega) (by omega) (by omega) po'
    clear F q2 q7 E EM EL po' fa
    intro n16  fa w37 F q2 q7 q16 E EM EL l16_E l16_EM l16_EL m16_2 m16_7 po'
    refine hK26 _ _ ?_
    clear hK26
    refine wp_seq_k fun K27 hK27=>?_
    refine wp_region_lit ?_
    refine F.mv ?_;clear F fa;intro fa F
    refine wpList_nil ?_
    refine hK27 _ _ ?_
    clear hK27
    refine cd_T F rfl ?_
    refine wp_region_lit ?_
    refine F.mv ?_;clear F fa;intro fa F
    refine F.vl (Z9 rfl (F.at rfl) Try.underlying23 rfl (n:=0) (sz:=1) rfl (by kernel_rfl) (by decide)) ?_;clear F fa;intro fa F
    refine F.vl (Zh rfl (F.at rfl) Try.underlying3 rfl ((Z0 q16 0).trans (get0))) ?_;clear F fa;intro fa F
    refine Z00 F rfl (by decide) rfl (Z09 rfl (prS (F.at rfl) pr0) Try.underlying29 (size:=1) (by kernel_rfl) (by decide) (by decide) Try.zeroValue3 (cells:=#[.int .i64 (plo t k2)]) (by kernel_rfl)) ?_;clear F fa;intro fa w38 F hw
    obtain ⟨n73,hn⟩:∃ n,n = w37.heap.size:=⟨_,rfl⟩
    rw [← hn] at F
    have s73:w37.heap.size ≤ n73:=Nat.le_of_eq hn.symm
    have l73_E:w.heap.size ≤ n73:=by rw [hn];exact E.size
    have l73_EM:w2.heap.size ≤ n73:=by rw [hn];exact EM.size
    have l73_EL:w5.heap.size ≤ n73:=by rw [hn];exact EL.size
    have m73_2:n2 < n73:=by rw [hn];exact Z7 q2
    have m73_7:n7 < n73:=by rw [hn];exact Z7 q7
    have m73_16:n16 < n73:=by rw [hn];exact Z7 q16
    have o73_po':=Lib.hid (Zo po' hn)
    replace po':=Zc hw po'
    replace q2:=Z1 hw q2
    replace q7:=Z1 hw q7
    replace q16:=Z1 hw q16
    replace E:=Z2 E hw
    replace EM:=Z2 EM hw
    replace EL:=Z2 EL hw
    have q73:=Zw hw hn
    clear hw hn
    have hEs:=EL.size
    refine Z27 F rfl (by decide) rfl (Z0T rfl (B2) (e:=3) (size:=1) (bytes:=8) Try.underlying29 (by kernel_rfl) (by decide) (F.at rfl) po' (F.at rfl) q73 rfl (by simp [Value.oneCell']) (by omega) (by omega) (by omega)) ?_;clear F fa;rintro fa v' w39 F ⟨hown',hg⟩
    obtain ⟨va74,vc74,rfl⟩:=Zs hown'
    replace q2:=Zb po' hg q2 (by decide)
    replace q7:=Zb po' hg q7 (by decide)
    replace q16:=Zb po' hg q16 (by decide)
    replace E:=Zd E po' hg (by omega)
    replace EM:=Zd EM po' hg (by omega)
    replace EL:=Zd EL po' hg (by omega)
    replace po':=hown'
    clear hg
    obtain ⟨P2,hP2e⟩:∃ P2,P2 = R3 ++ [(fstI (plo t k2) (phi t k2))]:=⟨_,rfl⟩
    have hPl3:R3.length + 1 = P2.length:=by rw [hP2e,List.length_append];rfl
    have hRl4:P2.length = k2 + 1:=by omega
    have hR4:P2 = (List.range (k2 + 1)).map (fun i=>fstI (plo t (i:Nat)) (phi t (i:Nat))):=by rw [hP2e,hR3,List.range_succ,List.map_append];rfl
    rw [show [Value.int .i64 (plo t k2)] = [Value.int .i64 (fstI (plo t k2) (phi t k2))] from rfl,Z21,← hP2e,hPl3] at po'
    rw [hPl3] at F
    refine F.as ?_;clear F fa;intro fa F
    refine wpList_nil ?_
    refine hK25 _ _ ?_
    clear hK25
    refine wp_region_lit ?_
    refine F.mv ?_;clear F fa;intro fa F
    refine F.vl (Z0F rfl (F.at rfl) (ev_c fa _) (by omega) (by omega)) ?_;clear F fa;intro fa F
    refine F.as ?_;clear F fa;intro fa F
    refine wpList_nil ?_
    show _ ∧ _
    exact ⟨by omega,_,⟨_,_,_,rfl,E,EM,EL,q2,q7,po',hR4,hRl4⟩,F.sub (.c 10 rfl (.c 15 rfl (.c 1 rfl (.c 2 rfl (.c 7 rfl (.c 9 rfl .n))))))⟩
   ·skip
    refine wp_exit ?_
    obtain rfl:k2 = t.T.toNat:=by omega
    refine hK21 _ _ ?_
    clear hK21
    refine wp_seq_k fun K28 hK28=>?_
    refine wp_region_lit ?_
    refine F.mv ?_;clear F fa;intro fa F
    refine F.mv ?_;clear F fa;intro fa F
    refine F.as ?_;clear F fa;intro fa F
    refine F.as ?_;clear F fa;intro fa F
    refine F.vl (Z8 rfl (ev_c fa _)) ?_;clear F fa;intro fa F
    refine wpList_nil ?_
    refine hK28 _ _ ?_
    clear hK28
    refine wp_ret ?_
    (try simp only [Exit.inBlock,Exit.then])
    refine rt_v F (rs_3 F rfl rfl rfl rfl) ?_
    exact ⟨O,R3,va2,va4,vc2,vc4,by rw [Z0G,h0],by rw [endX,if_pos (by rw [Z0G];exact h0)];exact hO,by rw [Z5h,if_pos (by rw [Z0G];exact h0)];exact hR3,Z1X HLs.out EL,fun p hp=>(HLr.out p hp).ext EL,Z13 (row:=Z0Q) (by rw [← Z3I];exact po') (fun _=>rfl),E⟩
end Go.Proofs.Ytholfdgebdlgjaa
