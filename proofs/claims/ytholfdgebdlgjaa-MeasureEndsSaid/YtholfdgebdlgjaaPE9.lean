/- Parts of a proof: Mof. No conditions. -/
import Derived.Deep.CutRange
import Derived.Test.YtholfdgebdlgjaaPE8
set_option linter.unusedVariables false
set_option linter.unusedSimpArgs false
namespace Go.Proofs.Ytholfdgebdlgjaa
open Go.RowKit
set_option maxRecDepth 100000 in
set_option maxHeartbeats 4000000 in
theorem Z4R (w0 w:World) (b k:Nat) (nv:Value) (S0 A0 wd:Int) (HL:Z0v w0 w b k nv) (hk:k ≤ 100000) (hS:1 ≤ S0) (hS3:S0 ≤ 3) (hA:1 ≤ A0) (hA3:A0 ≤ 3) (hw0:0 ≤ wd) (hw1:wd ≤ 60) :
  Calls Try.prog 44 #[.pointer (some ⟨b,0,none⟩),.int .i64 S0,.int .i64 A0,.int .i64 wd] w (Z8G w0 w b k nv S0 A0 wd):=by
 have hb:=HL.1
 have hws:w0.heap.size ≤ w.heap.size:=HL.2.2.1.size
 have E:Ext [b] w w:=Ext.refl _ _
 have hbw:b < w.heap.size:=by obtain ⟨-,-,-,d,st,h,-⟩:=HL;exact Z7 h
 go_enter Try.func44,Try.ntmps44
 go_upto_region 0 with (fail)
 refine wp_region_lit ?_
 refine Zy rfl rfl (ZB rfl Try.zeroValue28) (by simp only [ls,lz];exact rfl) fun w1 hw=>?_
 obtain ⟨n8,hn⟩:∃ n,n = w.heap.size:=⟨_,rfl⟩
 rw [← hn]
 have l8:w.heap.size ≤ n8:=by rw [hn];exact E.size
 have b8_HL:=Nat.lt_of_lt_of_eq (Z0c HL) hn.symm
 replace HL:=ZV hw HL
 have q8:=Zr hw hn
 replace E:=Z2 E hw
 clear hw hn
 refine Z3 rfl rfl (Z8 (v:=.slice _ _ _) rfl rfl) (by simp only [ls,lz];exact rfl) ?_
 refine Z3 rfl rfl (Z8 (v:=.slice _ _ _) rfl rfl) (by simp only [ls,lz];exact rfl) ?_
 refine wpList_nil ?_
 go_upto_region 1 with (fail)
 refine wp_region_lit ?_
 refine Z3 rfl rfl (Zi (v:=.pointer (some ⟨_,_,none⟩)) rfl rfl) (by simp only [ls,lz];exact rfl) ?_
 refine Z3 rfl rfl (Zi (v:=.int .i64 _) rfl rfl) (by simp only [ls,lz];exact rfl) ?_
 refine ZC rfl rfl (by kernel_rfl) (Z4a w0 _ b _ nv 1 S0 HL (by omega) (by omega) (by omega) (by omega) (by omega)) fun e w2 hR=>?_
 obtain ⟨S,rfl,hS1,hS2,HL,e1⟩:=hR
 refine ⟨_,_,rfl,(by simp only [ls,lz];exact rfl),?_⟩
 replace q8:=(e1).keep q8 (by simp;omega)
 replace E:=E.trans' e1 (fun i hi hl=>by simp only [List.mem_cons,List.not_mem_nil,or_false] at hi ⊢;omega)
 refine Z3 rfl rfl (Zi (v:=.pointer (some ⟨_,_,none⟩)) rfl rfl) (by simp only [ls,lz];exact rfl) ?_
 refine Z3 rfl rfl (Zi (v:=.int .i64 _) rfl rfl) (by simp only [ls,lz];exact rfl) ?_
 refine ZC rfl rfl (by kernel_rfl) (Z4a w0 _ b _ nv 1 A0 HL (by omega) (by omega) (by omega) (by omega) (by omega)) fun e w3 hR=>?_
 obtain ⟨A,rfl,hA1,hA2,HL,e2⟩:=hR
 refine ⟨_,_,rfl,(by simp only [ls,lz];exact rfl),?_⟩
 replace q8:=(e2).keep q8 (by simp;omega)
 replace E:=E.trans' e2 (fun i hi hl=>by simp only [List.mem_cons,List.not_mem_nil,or_false] at hi ⊢;omega)
 refine Z3 rfl rfl (Zi (v:=.pointer (some ⟨_,_,none⟩)) rfl rfl) (by simp only [ls,lz];exact rfl) ?_
 refine ZC rfl rfl (by kernel_rfl) (Z4a w0 _ b _ nv 1 3 HL (by omega) (by omega) (by omega) (by omega) (by omega)) fun e w4 hR=>?_
 obtain ⟨T,rfl,hT1,hT2,HL,e3⟩:=hR
 refine ⟨_,_,rfl,(by simp only [ls,lz];exact rfl),?_⟩
 replace q8:=(e3).keep q8 (by simp;omega)
 replace E:=E.trans' e3 (fun i hi hl=>by simp only [List.mem_cons,List.not_mem_nil,or_false] at hi ⊢;omega)
 refine Z3 rfl rfl (Zi (v:=.pointer (some ⟨_,_,none⟩)) rfl rfl) (by simp only [ls,lz];exact rfl) ?_
 refine Zy rfl rfl (ZE rfl Try.underlying29 (size:=1) (by kernel_rfl) (by decide) (by decide) Try.zeroValue3 (cells:=#[.int .i64 0,.int .i64 1,.int .i64 1,.int .i64 2]) (by kernel_rfl)) (by simp only [ls,lz];exact rfl) fun w5 hw=>?_
 obtain ⟨n36,hn⟩:∃ n,n = w4.heap.size:=⟨_,rfl⟩
 rw [← hn]
 have l36:w.heap.size ≤ n36:=by rw [hn];exact E.size
 have b36_HL:=Nat.lt_of_lt_of_eq (Z0c HL) hn.symm
 have m36_8:n8 < n36:=by rw [hn];exact Z7 q8
 replace q8:=Z1 hw q8
 replace HL:=ZV hw HL
 have q36:=Zw hw hn
 replace E:=Z2 E hw
 clear hw hn
 refine ZC rfl rfl (by kernel_rfl) (Z3r w0 _ b _ nv n36 _ [0,1,1,2] HL (by omega) q36 (by omega) (by decide) (by decide)) fun e w6 hR=>?_
 obtain ⟨sl,rfl,hsl,HL,e4⟩:=hR
 refine ⟨_,_,rfl,(by simp only [ls,lz];exact rfl),?_⟩
 replace q8:=(e4).keep q8 (by simp;omega)
 replace q36:=(e4).keep q36 (by simp;omega)
 replace E:=E.trans' e4 (fun i hi hl=>by simp only [List.mem_cons,List.not_mem_nil,or_false] at hi ⊢;omega)
 refine Z3 rfl rfl (ZZ rfl (cells:=#[.int .i64 S,.int .i64 A,.int .i64 T,.int .i64 0,.int .i64 0,.int .i64 0,.int .i64 0,.int .i64 sl,.slice none 0 0,.slice none 0 0,.slice none 0 0]) (by kernel_rfl)) (by simp only [ls,lz];exact rfl) ?_
 refine Zy rfl rfl (ZB rfl Try.zeroValue28) (by simp only [ls,lz];exact rfl) fun w7 hw=>?_
 obtain ⟨n11,hn⟩:∃ n,n = w6.heap.size:=⟨_,rfl⟩
 rw [← hn]
 have l11:w.heap.size ≤ n11:=by rw [hn];exact E.size
 have b11_HL:=Nat.lt_of_lt_of_eq (Z0c HL) hn.symm
 have m11_8:n8 < n11:=by rw [hn];exact Z7 q8
 have m11_36:n36 < n11:=by rw [hn];exact Z7 q36
 replace q8:=Z1 hw q8
 replace q36:=Z1 hw q36
 replace HL:=ZV hw HL
 have q11:=Zr hw hn
 replace E:=Z2 E hw
 clear hw hn
 refine ZY rfl rfl (Zg rfl rfl rfl (by kernel_rfl) (by simp [Value.oneCell']) q11 rfl) fun w8 hw=>?_
 replace q8:=Z5 hw q8 (by omega)
 replace q36:=Z5 hw q36 (by omega)
 replace q11:=Zz hw q11 rfl
 replace HL:=Z0d hw HL (by omega) (by omega)
 replace E:=Za E hw (fun h=>by first | exact absurd h (by omega) | simp)
 clear hw
 refine wpList_nil ?_
 go_upto_region 2 with (fail)
 refine wp_region_lit ?_
 refine Z3 rfl rfl (Zi (v:=.pointer (some ⟨_,_,none⟩)) rfl rfl) (by simp only [ls,lz];exact rfl) ?_
 refine ZC rfl rfl (by kernel_rfl) (Z4a w0 _ b _ nv 60 100 HL (by omega) (by omega) (by omega) (by omega) (by omega)) fun e w9 hR=>?_
 obtain ⟨bl,rfl,hbl1,hbl2,HL,e5⟩:=hR
 refine ⟨_,_,rfl,(by simp only [ls,lz];exact rfl),?_⟩
 replace q8:=(e5).keep q8 (by simp;omega)
 replace q36:=(e5).keep q36 (by simp;omega)
 replace q11:=(e5).keep q11 (by simp;omega)
 replace E:=E.trans' e5 (fun i hi hl=>by simp only [List.mem_cons,List.not_mem_nil,or_false] at hi ⊢;omega)
 refine Z3 rfl rfl (Z8 (v:=.int .i64 _) rfl rfl) (by simp only [ls,lz];exact rfl) ?_
 refine wpList_nil ?_
 go_upto_region 3 with (fail)
 refine wp_region_lit ?_
 refine Z3 rfl rfl (Zi (v:=.int .i64 _) rfl rfl) (by simp only [ls,lz];exact rfl) ?_
 refine Z3 rfl rfl (Zi (v:=.int .i64 _) rfl rfl) (by simp only [ls,lz];exact rfl) ?_
 refine Z3 rfl rfl (Zi (v:=.int .i64 _) rfl rfl) (by simp only [ls,lz];exact rfl) ?_
 refine Z3 rfl rfl (Z0F rfl rfl rfl (by omega) (by omega)) (by simp only [ls,lz];exact rfl) ?_
 refine Z3 rfl rfl (ZZ rfl (cells:=#[.int .i64 bl,.int .i64 (bl + wd)]) (by kernel_rfl)) (by simp only [ls,lz];exact rfl) ?_
 refine Z3 rfl rfl (Z9 rfl rfl Try.underlying28 rfl (n:=3) (sz:=2) rfl (by kernel_rfl) (by decide)) (by simp only [ls,lz];exact rfl) ?_
 refine ZY rfl rfl (Z3Z rfl rfl rfl (by kernel_rfl) (by simp [Value.oneCell']) q11 (by simp)) fun w10 hw=>?_
 replace q8:=Z5 hw q8 (by omega)
 replace q36:=Z5 hw q36 (by omega)
 replace q11:=Z5F hw q11 (by simp only [List.setIfInBounds_toArray,ls,lz];exact rfl)
 replace HL:=Z0d hw HL (by omega) (by omega)
 replace E:=Za E hw (fun h=>by first | exact absurd h (by omega) | simp)
 clear hw
 refine wpList_nil ?_
 go_upto_region 4 with (fail)
 refine wp_region_lit ?_
 refine Z3 rfl rfl (Zi (v:=.pointer (some ⟨_,_,none⟩)) rfl rfl) (by simp only [ls,lz];exact rfl) ?_
 refine ZC rfl rfl (by kernel_rfl) (Z0l w0 _ b _ nv 3 HL (by omega) (by omega) (by omega)) fun e w11 hR=>?_
 obtain ⟨p1,rfl,hp1,hp1',HL,e6⟩:=hR
 refine ⟨_,_,rfl,(by simp only [ls,lz];exact rfl),?_⟩
 replace q8:=(e6).keep q8 (by simp;omega)
 replace q36:=(e6).keep q36 (by simp;omega)
 replace q11:=(e6).keep q11 (by simp;omega)
 replace E:=E.trans' e6 (fun i hi hl=>by simp only [List.mem_cons,List.not_mem_nil,or_false] at hi ⊢;omega)
 refine Z3 rfl rfl (Z6D rfl rfl (by omega) (by omega)) (by simp only [ls,lz];exact rfl) ?_
 refine Z3 rfl rfl (Zi (v:=.pointer (some ⟨_,_,none⟩)) rfl rfl) (by simp only [ls,lz];exact rfl) ?_
 refine ZC rfl rfl (by kernel_rfl) (Z0l w0 _ b _ nv 3 HL (by omega) (by omega) (by omega)) fun e w12 hR=>?_
 obtain ⟨p2,rfl,hp2,hp2',HL,e7⟩:=hR
 refine ⟨_,_,rfl,(by simp only [ls,lz];exact rfl),?_⟩
 replace q8:=(e7).keep q8 (by simp;omega)
 replace q36:=(e7).keep q36 (by simp;omega)
 replace q11:=(e7).keep q11 (by simp;omega)
 replace E:=E.trans' e7 (fun i hi hl=>by simp only [List.mem_cons,List.not_mem_nil,or_false] at hi ⊢;omega)
 refine Z3 rfl rfl (ZZ rfl (cells:=#[.int .i64 (-p1),.int .i64 p2]) (by kernel_rfl)) (by simp only [ls,lz];exact rfl) ?_
 refine Z3 rfl rfl (Z9 rfl rfl Try.underlying28 rfl (n:=5) (sz:=2) rfl (by kernel_rfl) (by decide)) (by simp only [ls,lz];exact rfl) ?_
 refine ZY rfl rfl (Z3Z rfl rfl rfl (by kernel_rfl) (by simp [Value.oneCell']) q11 (by simp)) fun w13 hw=>?_
 replace q8:=Z5 hw q8 (by omega)
 replace q36:=Z5 hw q36 (by omega)
 replace q11:=Z5F hw q11 (by simp only [List.setIfInBounds_toArray,ls,lz];exact rfl)
 replace HL:=Z0d hw HL (by omega) (by omega)
 replace E:=Za E hw (fun h=>by first | exact absurd h (by omega) | simp)
 clear hw
 refine wpList_nil ?_
 clear e1 e2 e3 e4 e5 e6 e7 q36
 replace HL:=Z0t HL (show _ ≤ k + 10 by omega)
 have hSS:S ≤ S0:=by omega
 have hAA:A ≤ A0:=by omega
 have hS':S ≤ 3:=by omega
 have hA':A ≤ 3:=by omega
 have hT':T ≤ 3:=by omega
 have hbl':bl ≤ 100:=by omega
 replace hp1':p1 ≤ 3:=by omega
 replace hp2':p2 ≤ 3:=by omega
 have hsl1:0 ≤ sl ∧ sl ≤ 2:=by simp at hsl;omega
 clear hS2 hA2 hT2 hbl2 hsl hS hS3 hA hA3
 obtain ⟨z8,hz8,q8⟩:∃ z:Array Value,z.size = 11 ∧ w13.heap[n8]? = some (.cells z 28 (0,0)):=⟨_,rfl,q8⟩
 go_wp2_with fail
 go_loopw [14,13] (fun iv v wr=>∃ (gs:List (Int × Int)) (ms:List (List Int)) (vs:List Value) (ga:Option Addr) (gc:Nat),(gs.length:Int) ≤ S ∧ iv = .int .i64 gs.length ∧ RowsOk bl (bl + wd) A ms gs ∧
  wr.heap[n8]? = some (.cells z8 28 (0,0)) ∧ wr.heap[n11]? = some (.cells #[.int .i64 S,.int .i64 A,.int .i64 T,.int .i64 bl,.int .i64 (bl + wd),.int .i64 (-p1),.int .i64 p2,.int .i64 sl,.slice ga gs.length gc,.slice none 0 0,.slice none 0 0] 28 (0,0)) ∧
  wr.ownsRow (n11 + 1) 23 2 (.slice ga gs.length gc) gs.length (Z4U gs) ∧ wr.ownsRow (n11 + 1) 29 1 v ms.length vs ∧ Z2D wr (n11 + 1) vs ms ∧ Z0v w0 wr b (k + 10 + 10 * gs.length) nv ∧ Ext [b] w wr) (fun iv _ _=>S.toNat - (intOf iv).toNat)
 case atStart=>exact ⟨[],[],[],none,0,by simp;omega,rfl,RowsOk.nil,q8,q11,World.ownsRow_nil _ _ _ _,World.ownsRow_nil _ _ _ _,Z9q _ _,HL,E⟩
 case round =>
  clear q8 q11 HL E
  obtain ⟨gs,ms,vs,ga,gc,hgS,rfl,hOk,q8,q11,og,om,hms,HL,E⟩:=hrel
  obtain ⟨va,vc,rfl⟩:=Zs om
  obtain ⟨wo,hwo⟩:∃ wo,wo = wr:=⟨_,rfl⟩
  subst hwo
  by_cases hlt:(gs.length:Int) < S
  ·have hml:=hOk.len
   have hglen:gs.length ≤ 2:=by omega
   have hmlen:ms.length ≤ 2:=by omega
   have hsz11:=Z7 q11
   have hbwr:b < wo.heap.size:=Nat.lt_of_lt_of_le hbw E.size
   have hwwr:=E.size
   have Eo:=E
   have q8o:=q8
   have q11o:=q11
   have F:Ext [b] wo wo:=Ext.refl _ _
   go_upto_region 7 with (fail)
   refine wp_region_lit ?_
   refine Z3 rfl rfl (Zi (v:=.int .i64 _) rfl rfl) (by simp only [ls,lz];exact rfl) ?_
   refine Z3 rfl rfl (Z9 rfl rfl Try.underlying28 rfl (n:=0) (sz:=1) rfl (by kernel_rfl) (by decide)) (by simp only [ls,lz];exact rfl) ?_
   refine Z3 rfl rfl (Zh rfl rfl Try.underlying3 rfl ((Z0 q11 0).trans (get0))) (by simp only [ls,lz];exact rfl) ?_
   refine Z3 rfl rfl (Z1d rfl rfl rfl) (by simp only [ls,lz];exact rfl) ?_
   refine wpList_nil ?_
   go_upto_region 9 with (fail)
   refine wp_region_lit ?_
   refine Z3 rfl rfl (Z8 (v:=.slice _ _ _) rfl rfl) (by simp only [ls,lz];exact rfl) ?_
   refine wpList_nil ?_
   go_upto_region 10 with (fail)
   refine wp_region_lit ?_
   refine Z3 rfl rfl (ZZ rfl (cells:=#[.int .i64 20,.int .i64 (-20)]) (by kernel_rfl)) (by simp only [ls,lz];exact rfl) ?_
   refine Zy rfl rfl (ZB rfl Try.zeroValue23) (by simp only [ls,lz];exact rfl) fun w1 hw=>?_
   obtain ⟨n16,hn⟩:∃ n,n = wo.heap.size:=⟨_,rfl⟩
   rw [← hn]
   have l16:w.heap.size ≤ n16:=by rw [hn];exact E.size
   have l16_F:wo.heap.size ≤ n16:=by rw [hn];exact F.size
   have b16_HL:=Nat.lt_of_lt_of_eq (Z0c HL) hn.symm
   have m16_8:n8 < n16:=by rw [hn];exact Z7 q8
   have m16_11:n11 < n16:=by rw [hn];exact Z7 q11
   replace q8:=Z1 hw q8
   replace q11:=Z1 hw q11
   replace F:=Z2 F hw
   replace HL:=ZV hw HL
   have q16:=Zr hw hn
   replace E:=Z2 E hw
   clear hw hn
   refine ZY rfl rfl (Zg rfl rfl rfl (by kernel_rfl) (by simp [Value.oneCell']) q16 rfl) fun w2 hw=>?_
   replace q8:=Z5 hw q8 (by omega)
   replace q11:=Z5 hw q11 (by omega)
   replace q16:=Zz hw q16 rfl
   replace F:=Za F hw (fun h=>by first | exact absurd h (by omega) | simp)
   replace HL:=Z0d hw HL (by omega) (by omega)
   replace E:=Za E hw (fun h=>by first | exact absurd h (by omega) | simp)
   clear hw
   refine wpList_nil ?_
   go_upto_region 11 with (fail)
   refine wp_region_lit ?_
   refine Z3 rfl rfl (Zi (v:=.pointer (some ⟨_,_,none⟩)) rfl rfl) (by simp only [ls,lz];exact rfl) ?_
   refine Z3 rfl rfl (Z9 rfl rfl Try.underlying28 rfl (n:=3) (sz:=2) rfl (by kernel_rfl) (by decide)) (by simp only [ls,lz];exact rfl) ?_
   refine Z3 rfl rfl (Z9 rfl rfl Try.underlying23 rfl (n:=3) (sz:=1) rfl (by kernel_rfl) (by decide)) (by simp only [ls,lz];exact rfl) ?_
   refine Z3 rfl rfl (Zh rfl rfl Try.underlying3 rfl ((Z0 q11 3).trans (getS (getS (getS (get0)))))) (by simp only [ls,lz];exact rfl) ?_
   refine Z3 rfl rfl (Z9 rfl rfl Try.underlying28 rfl (n:=3) (sz:=2) rfl (by kernel_rfl) (by decide)) (by simp only [ls,lz];exact rfl) ?_
   refine Z3 rfl rfl (Z9 rfl rfl Try.underlying23 rfl (n:=4) (sz:=1) rfl (by kernel_rfl) (by decide)) (by simp only [ls,lz];exact rfl) ?_
   refine Z3 rfl rfl (Zh rfl rfl Try.underlying3 rfl ((Z0 q11 4).trans (getS (getS (getS (getS (get0))))))) (by simp only [ls,lz];exact rfl) ?_
   refine ZC rfl rfl (by kernel_rfl) (Z4a w0 _ b _ nv bl (bl + wd) HL (by omega) (by omega) (by omega) (by omega) (by omega)) fun e w3 hR=>?_
   obtain ⟨cur,rfl,hc1,hc2,HL,e1⟩:=hR
   refine ⟨_,_,rfl,(by simp only [ls,lz];exact rfl),?_⟩
   replace q8:=(e1).keep q8 (by simp;omega)
   replace q11:=(e1).keep q11 (by simp;omega)
   replace q16:=(e1).keep q16 (by simp;omega)
   replace F:=F.trans e1
   replace E:=E.trans' e1 (fun i hi hl=>by simp only [List.mem_cons,List.not_mem_nil,or_false] at hi ⊢;omega)
   refine Z3 rfl rfl (Z8 (v:=.int .i64 _) rfl rfl) (by simp only [ls,lz];exact rfl) ?_
   refine wpList_nil ?_
   clear e1
   have hso:=RowSo.nil hc1 (show cur ≤ bl + wd by omega)
   go_upto_region 12 with (fail)
   refine wp_region_lit ?_
   refine Z3 rfl rfl (Z8 (v:=.int .i64 _) rfl rfl) (by simp only [ls,lz];exact rfl) ?_
   refine wpList_nil ?_
   go_wp2_with fail
   go_loopw [18,15,17] (fun iv v cv wr2=>∃ (r:List Int) (lo hi cur:Int),(r.length:Int) ≤ A ∧ iv = .int .i64 r.length ∧ cv = .int .i64 cur ∧ RowSo bl (bl + wd) r lo hi cur ∧
    wr2.heap[n16]? = some (.cells #[.int .i64 lo,.int .i64 hi] 23 (0,0)) ∧ wr2.ownsRow (n16 + 1) 3 1 v r.length (ivs r) ∧ Z0v w0 wr2 b (k + 11 + 10 * gs.length + r.length) nv ∧ Ext [b] wo wr2) (fun iv _ _ _=>A.toNat - (intOf iv).toNat)
   case atStart=>exact ⟨[],_,_,cur,by simp;omega,rfl,rfl,hso,q16,World.ownsRow_nil _ _ _ _,Z0t HL (by simp;omega),F⟩
   case round =>
    clear q8 q11 q16 HL E F hso hc1 hc2
    obtain ⟨r,lo,hi,cur,hrA,rfl,rfl,hso,q16,ho,HL,F⟩:=hrel
    obtain ⟨va2,vc2,rfl⟩:=Zs ho
    have q11:=F.keep q11o (by simp;omega)
    have hnear:=hso.near
    have hcur1:=hso.c1
    have hcur2:=hso.c2
    clear hml
    by_cases hla:(r.length:Int) < A
    ·have hrg:=hrA
     go_upto_region 13 with (fail)
     refine wp_region_lit ?_
     refine Z3 rfl rfl (Zi (v:=.int .i64 _) rfl rfl) (by simp only [ls,lz];exact rfl) ?_
     refine Z3 rfl rfl (Z9 rfl rfl Try.underlying28 rfl (n:=1) (sz:=1) rfl (by kernel_rfl) (by decide)) (by simp only [ls,lz];exact rfl) ?_
     refine Z3 rfl rfl (Zh rfl rfl Try.underlying3 rfl ((Z0 q11 1).trans (getS (get0)))) (by simp only [ls,lz];exact rfl) ?_
     refine Z3 rfl rfl (Z1d rfl rfl rfl) (by simp only [ls,lz];exact rfl) ?_
     refine wpList_nil ?_
     go_upto_region 15 with (fail)
     refine wp_region_lit ?_
     refine Z3 rfl rfl (Zi (v:=.int .i64 _) rfl rfl) (by simp only [ls,lz];exact rfl) ?_
     refine Z3 rfl rfl (Z4J rfl rfl rfl) (by simp only [ls,lz];exact rfl) ?_
     refine wpList_nil ?_
     by_cases h0:(0:Int) < (r.length:Int)
     ·have h0':0 < r.length:=by omega
      go_upto_region 16 with (fail)
      refine Z11 (Ext [b] wr) follows fun w1 hh eS=>?_
      have q11_:=q11
      have q16_:=q16
      replace q11:=Zn hh q11
      replace q16:=Zn hh q16
      replace ho:=ZW hh ho
      replace F:=Z4 F eS
      replace HL:=Z1V eS HL
      replace eS:=eS.mono (Y:=[b]) (by simp)
      refine Zf (i:=0) rfl (by kernel_rfl) (by kernel_rfl) (by kernel_rfl) (fun _ _ _ h=>h) rfl rfl (fun w' hS=>Z9 rfl rfl Try.underlying28 rfl (n:=3) (sz:=2) rfl (by kernel_rfl) (by decide)) eS (by simp only [ls,lz];exact rfl) ?_
      refine Zf (i:=1) rfl (by kernel_rfl) (by kernel_rfl) (by kernel_rfl) (fun _ _ _ h=>h) rfl rfl (fun w' hS=>Z9 rfl rfl Try.underlying23 rfl (n:=3) (sz:=1) rfl (by kernel_rfl) (by decide)) eS (by simp only [ls,lz];exact rfl) ?_
      refine Zf (i:=2) rfl (by kernel_rfl) (by kernel_rfl) (by kernel_rfl) (fun _ _ _ h=>h) rfl rfl (fun w' hS=>Zh rfl rfl Try.underlying3 rfl ((Z0 (hS.keep q11_ (by simp;omega)) 3).trans (getS (getS (getS (get0)))))) eS (by simp only [ls,lz];exact rfl) ?_
      refine Zf (i:=3) rfl (by kernel_rfl) (by kernel_rfl) (by kernel_rfl) (fun _ _ _ h=>h) rfl rfl (fun w' hS=>Z9 rfl rfl Try.underlying28 rfl (n:=3) (sz:=2) rfl (by kernel_rfl) (by decide)) eS (by simp only [ls,lz];exact rfl) ?_
      refine Zf (i:=4) rfl (by kernel_rfl) (by kernel_rfl) (by kernel_rfl) (fun _ _ _ h=>h) rfl rfl (fun w' hS=>Z9 rfl rfl Try.underlying23 rfl (n:=4) (sz:=1) rfl (by kernel_rfl) (by decide)) eS (by simp only [ls,lz];exact rfl) ?_
      refine Zf (i:=5) rfl (by kernel_rfl) (by kernel_rfl) (by kernel_rfl) (fun _ _ _ h=>h) rfl rfl (fun w' hS=>Zh rfl rfl Try.underlying3 rfl ((Z0 (hS.keep q11_ (by simp;omega)) 4).trans (getS (getS (getS (getS (get0))))))) eS (by simp only [ls,lz];exact rfl) ?_
      refine Zf (i:=6) rfl (by kernel_rfl) (by kernel_rfl) (by kernel_rfl) (fun _ _ _ h=>h) rfl rfl (fun w' hS=>Zi (v:=.int .i64 _) rfl rfl) eS (by simp only [ls,lz];exact rfl) ?_
      refine Zf (i:=7) rfl (by kernel_rfl) (by kernel_rfl) (by kernel_rfl) (fun _ _ _ h=>h) rfl rfl (fun w' hS=>Zi (v:=.pointer (some ⟨_,_,none⟩)) rfl rfl) eS (by simp only [ls,lz];exact rfl) ?_
      refine Z0k (i:=8) rfl (by kernel_rfl) rfl rfl (by kernel_rfl) (Z4a w0 _ b _ nv (-4) 4 HL (by omega) (by omega) (by omega) (by omega) (by omega)) fun e w2 hR=>?_
      obtain ⟨d,rfl,hd1,hd2,HL,e1⟩:=hR
      replace eS:=eS.trans e1
      replace q11:=(e1).keep q11 (by simp;omega)
      replace q16:=(e1).keep q16 (by simp;omega)
      replace ho:=Zq ho e1 (by simp;omega)
      replace F:=F.trans' e1 (fun i hi hl=>by simp only [List.mem_cons,List.not_mem_nil,or_false] at hi ⊢;omega)
      refine ⟨_,_,rfl,(by simp only [ls,lz];exact rfl),eS,?_⟩
      refine Zf (i:=9) rfl (by kernel_rfl) (by kernel_rfl) (by kernel_rfl) (fun _ _ _ h=>h) rfl rfl (fun w' hS=>Z0F rfl rfl rfl (by omega) (by omega)) eS (by simp only [ls,lz];exact rfl) ?_
      refine Zf (i:=10) rfl (by kernel_rfl) (by kernel_rfl) (by kernel_rfl) (fun _ _ _ h=>h) rfl rfl (fun w' hS=>Z4O rfl rfl rfl rfl) eS (by simp only [ls,lz];exact rfl) ?_
      refine Zf (i:=11) rfl (by kernel_rfl) (by kernel_rfl) (by kernel_rfl) (fun _ _ _ h=>h) rfl rfl (fun w' hS=>Z7Q rfl rfl rfl rfl) eS (by simp only [ls,lz];exact rfl) ?_
      refine Zf (i:=12) rfl (by kernel_rfl) (by kernel_rfl) (by kernel_rfl) (fun _ _ _ h=>h) rfl rfl (fun w' hS=>Z8 (v:=.int .i64 _) rfl rfl) eS (by simp only [ls,lz];exact rfl) ?_
      refine wpAnyH_done (by kernel_rfl) ?_ _
      clear q11_ q16_ hh eS
      clear e1
      obtain ⟨nx,hnx⟩:∃ nx,nx = max bl (min (bl + wd) (cur + d)):=⟨_,rfl⟩
      rw [← hnx]
      have hn1:bl ≤ nx:=by omega
      have hn2:nx ≤ bl + wd:=by omega
      have hn3:-4 ≤ nx - cur:=by omega
      have hn4:nx - cur ≤ 4:=by omega
      clear hnx hd1 hd2
      go_upto_region 17 with (fail)
      refine wp_region_lit ?_
      refine Z3 rfl rfl (Z9 rfl rfl Try.underlying23 rfl (n:=0) (sz:=1) rfl (by kernel_rfl) (by decide)) (by simp only [ls,lz];exact rfl) ?_
      refine Z3 rfl rfl (Zh rfl rfl Try.underlying3 rfl ((Z0 q16 0).trans (get0))) (by simp only [ls,lz];exact rfl) ?_
      refine Z3 rfl rfl (Zi (v:=.int .i64 _) rfl rfl) (by simp only [ls,lz];exact rfl) ?_
      refine Z3 rfl rfl (Zi (v:=.int .i64 _) rfl rfl) (by simp only [ls,lz];exact rfl) ?_
      refine Z3 rfl rfl (Z1I rfl rfl rfl (by omega) (by omega)) (by simp only [ls,lz];exact rfl) ?_
      refine Z3 rfl rfl (Z4O rfl rfl rfl rfl) (by simp only [ls,lz];exact rfl) ?_
      refine Z3 rfl rfl (Z9 rfl rfl Try.underlying23 rfl (n:=1) (sz:=1) rfl (by kernel_rfl) (by decide)) (by simp only [ls,lz];exact rfl) ?_
      refine Z3 rfl rfl (Zh rfl rfl Try.underlying3 rfl ((Z0 q16 1).trans (getS (get0)))) (by simp only [ls,lz];exact rfl) ?_
      refine Z3 rfl rfl (Zi (v:=.int .i64 _) rfl rfl) (by simp only [ls,lz];exact rfl) ?_
      refine Z3 rfl rfl (Zi (v:=.int .i64 _) rfl rfl) (by simp only [ls,lz];exact rfl) ?_
      refine Z3 rfl rfl (Z1I rfl rfl rfl (by omega) (by omega)) (by simp only [ls,lz];exact rfl) ?_
      refine Z3 rfl rfl (Z7Q rfl rfl rfl rfl) (by simp only [ls,lz];exact rfl) ?_
      refine Z3 rfl rfl (ZZ rfl (cells:=#[.int .i64 (min lo (nx - cur)),.int .i64 (max hi (nx - cur))]) (by kernel_rfl)) (by simp only [ls,lz];exact rfl) ?_
      refine ZY rfl rfl (Zg rfl rfl rfl (by kernel_rfl) (by simp [Value.oneCell']) q16 rfl) fun w3 hw=>?_
      replace q11:=Z5 hw q11 (by omega)
      replace q16:=Zz hw q16 rfl
      replace HL:=Z0d hw HL (by omega) (by omega)
      replace ho:=Z10 hw ho (by omega)
      replace F:=Za F hw (fun h=>by first | exact absurd h (by omega) | simp)
      clear hw
      refine wpList_nil ?_
      go_upto_region 18 with (fail)
      refine wp_region_lit ?_
      refine Z3 rfl rfl (Zi (v:=.int .i64 _) rfl rfl) (by simp only [ls,lz];exact rfl) ?_
      refine Z3 rfl rfl (Z8 (v:=.int .i64 _) rfl rfl) (by simp only [ls,lz];exact rfl) ?_
      refine wpList_nil ?_
      go_upto_region 19 with (fail)
      refine wp_region_lit ?_
      refine Z3 rfl rfl (Zi (v:=.slice _ _ _) rfl rfl) (by simp only [ls,lz];exact rfl) ?_
      refine Z3 rfl rfl (Zi (v:=.int .i64 _) rfl rfl) (by simp only [ls,lz];exact rfl) ?_
      refine Zy rfl rfl (ZE rfl Try.underlying29 (size:=1) (by kernel_rfl) (by decide) (by decide) Try.zeroValue3 (cells:=#[.int .i64 (nx)]) (by kernel_rfl)) (by simp only [ls,lz];exact rfl) fun w4 hw=>?_
      obtain ⟨n105,hn⟩:∃ n,n = w3.heap.size:=⟨_,rfl⟩
      rw [← hn]
      have l105:wo.heap.size ≤ n105:=by rw [hn];exact F.size
      have b105_HL:=Nat.lt_of_lt_of_eq (Z0c HL) hn.symm
      have m105_11:n11 < n105:=by rw [hn];exact Z7 q11
      have m105_16:n16 < n105:=by rw [hn];exact Z7 q16
      have o105_ho:=Lib.hid (Zo ho hn)
      replace q11:=Z1 hw q11
      replace q16:=Z1 hw q16
      replace HL:=ZV hw HL
      replace ho:=Zc hw ho
      have q105:=Zw hw hn
      replace F:=Z2 F hw
      clear hw hn
      have hsz16:=Z7 q16
      refine Z1G rfl rfl rfl (n16 + 1) (e:=3) (size:=1) (bytes:=8) Try.underlying29 (by kernel_rfl) (by decide) rfl ho rfl q105 rfl (by simp [Value.oneCell']) (by omega) (by omega) (by omega) fun v' w5 hown' hg=>?_
      obtain ⟨va106,vc106,rfl⟩:=Zs hown'
      replace q11:=Zb ho hg q11 (by decide)
      replace q16:=Zb ho hg q16 (by decide)
      replace HL:=Z0O HL ho hg (by omega) (by decide)
      replace F:=Zd F ho hg (by omega)
      have hgsz:=hg.size
      replace ho:=hown'
      clear hg
      refine ⟨_,(by simp only [ls,lz];exact rfl),?_⟩
      refine Z3 rfl rfl (Z8 (v:=.slice _ _ _) rfl rfl) (by simp only [ls,lz];exact rfl) ?_
      refine wpList_nil ?_
      have hso2:=hso.more h0' hn1 hn2 hn3 hn4
      go_wp2
      go_roundw
      case rel=>exact ⟨r ++ [nx],_,_,_,by rw [List.length_append,List.length_singleton];omega,by rw [List.length_append,List.length_singleton];go_num,rfl,hso2,q16,by rw [Z5G,List.length_append];exact ho,Z0t HL (by rw [List.length_append,List.length_singleton];omega),F⟩
      case measure=>simp [intOf];omega
     ·have h0':r.length = 0:=by omega
      obtain ⟨rfl,rfl⟩:=hso.one (by omega)
      go_upto_region 19 with (fail)
      refine wp_region_lit ?_
      refine Z3 rfl rfl (Zi (v:=.slice _ _ _) rfl rfl) (by simp only [ls,lz];exact rfl) ?_
      refine Z3 rfl rfl (Zi (v:=.int .i64 _) rfl rfl) (by simp only [ls,lz];exact rfl) ?_
      refine Zy rfl rfl (ZE rfl Try.underlying29 (size:=1) (by kernel_rfl) (by decide) (by decide) Try.zeroValue3 (cells:=#[.int .i64 (cur)]) (by kernel_rfl)) (by simp only [ls,lz];exact rfl) fun w1 hw=>?_
      obtain ⟨n105,hn⟩:∃ n,n = wr.heap.size:=⟨_,rfl⟩
      rw [← hn]
      have l105:wo.heap.size ≤ n105:=by rw [hn];exact F.size
      have b105_HL:=Nat.lt_of_lt_of_eq (Z0c HL) hn.symm
      have m105_11:n11 < n105:=by rw [hn];exact Z7 q11
      have m105_16:n16 < n105:=by rw [hn];exact Z7 q16
      have o105_ho:=Lib.hid (Zo ho hn)
      replace q11:=Z1 hw q11
      replace q16:=Z1 hw q16
      replace HL:=ZV hw HL
      replace ho:=Zc hw ho
      have q105:=Zw hw hn
      replace F:=Z2 F hw
      clear hw hn
      have hsz16:=Z7 q16
      refine Z1G rfl rfl rfl (n16 + 1) (e:=3) (size:=1) (bytes:=8) Try.underlying29 (by kernel_rfl) (by decide) rfl ho rfl q105 rfl (by simp [Value.oneCell']) (by omega) (by omega) (by omega) fun v' w2 hown' hg=>?_
      obtain ⟨va106,vc106,rfl⟩:=Zs hown'
      replace q11:=Zb ho hg q11 (by decide)
      replace q16:=Zb ho hg q16 (by decide)
      replace HL:=Z0O HL ho hg (by omega) (by decide)
      replace F:=Zd F ho hg (by omega)
      have hgsz:=hg.size
      replace ho:=hown'
      clear hg
      refine ⟨_,(by simp only [ls,lz];exact rfl),?_⟩
      refine Z3 rfl rfl (Z8 (v:=.slice _ _ _) rfl rfl) (by simp only [ls,lz];exact rfl) ?_
      refine wpList_nil ?_
      have hso2:=hso.one' h0'
      go_wp2
      go_roundw
      case rel=>exact ⟨r ++ [cur],_,_,_,by rw [List.length_append,List.length_singleton];omega,by rw [List.length_append,List.length_singleton];go_num,rfl,hso2,q16,by rw [Z5G,List.length_append];exact ho,Z0t HL (by rw [List.length_append,List.length_singleton];omega),F⟩
      case measure=>simp [intOf];omega
    ·have hrl:(r.length:Int) = A:=by omega
     go_upto_region 13 with (fail)
     refine wp_region_lit ?_
     refine Z3 rfl rfl (Zi (v:=.int .i64 _) rfl rfl) (by simp only [ls,lz];exact rfl) ?_
     refine Z3 rfl rfl (Z9 rfl rfl Try.underlying28 rfl (n:=1) (sz:=1) rfl (by kernel_rfl) (by decide)) (by simp only [ls,lz];exact rfl) ?_
     refine Z3 rfl rfl (Zh rfl rfl Try.underlying3 rfl ((Z0 q11 1).trans (getS (get0)))) (by simp only [ls,lz];exact rfl) ?_
     refine Z3 rfl rfl (Z1d rfl rfl rfl) (by simp only [ls,lz];exact rfl) ?_
     refine wpList_nil ?_
     go_upto_region 20 with (fail)
     refine wp_region_lit ?_
     refine Z3 rfl rfl (Z9 rfl rfl Try.underlying28 rfl (n:=1) (sz:=1) rfl (by kernel_rfl) (by decide)) (by simp only [ls,lz];exact rfl) ?_
     refine Z3 rfl rfl (Zh rfl rfl Try.underlying3 rfl ((Z0 q11 1).trans (getS (get0)))) (by simp only [ls,lz];exact rfl) ?_
     refine Z3 rfl rfl (Zar rfl rfl rfl) (by simp only [ls,lz];exact rfl) ?_
     refine wpList_nil ?_
     go_upto_if 109 with (fail)
     have Hrl:=Lib.hid hrl
     clear hrl
     go_cut [] from 54 to 110 (fun wc=>∃ lo' hi':Int,Hid (A = 1 → lo' = 0 ∧ hi' = 0) ∧ Hid (A ≠ 1 → lo' = lo ∧ hi' = hi) ∧ wc.heap[n16]? = some (.cells #[.int .i64 lo',.int .i64 hi'] 23 (0,0)) ∧
      wc.heap[n11]? = some (.cells #[.int .i64 S,.int .i64 A,.int .i64 T,.int .i64 bl,.int .i64 (bl + wd),.int .i64 (-p1),.int .i64 p2,.int .i64 sl,.slice ga gs.length gc,.slice none 0 0,.slice none 0 0] 28 (0,0)) ∧ wc.ownsRow (n16 + 1) 3 1 (.slice va2 r.length vc2) r.length (ivs r) ∧ Z0v w0 wc b (k + 11 + 10 * gs.length + r.length) nv ∧ Ext [b] wo wc)
     case first =>
      by_cases hA1':A = 1
      ·have HA:=Lib.hid hA1'
       have hb:(A == 1) = true:=by simp [hA1']
       clear hA1'
       go_upto_region 21 with (fail)
       refine wp_region_lit ?_
       refine Z3 rfl rfl (ZZ rfl (cells:=#[.int .i64 0,.int .i64 0]) (by kernel_rfl)) (by simp only [ls,lz];exact rfl) ?_
       refine ZY rfl rfl (Zg rfl rfl rfl (by kernel_rfl) (by simp [Value.oneCell']) q16 rfl) fun w1 hw=>?_
       replace q11:=Z5 hw q11 (by omega)
       replace q16:=Zz hw q16 rfl
       replace HL:=Z0d hw HL (by omega) (by omega)
       replace ho:=Z10 hw ho (by omega)
       replace F:=Za F hw (fun h=>by first | exact absurd h (by omega) | simp)
       clear hw
       refine wpList_nil ?_
       go_wp2_with fail
       refine Met.intro ?_
       go_step
       (repeat apply Exists.intro)
       refine ⟨?rel,?fr⟩
       case fr=>congr 1
       case rel=>exact ⟨0,0,fun _=>⟨rfl,rfl⟩,fun h=>absurd HA.out h,q16,q11,ho,HL,F⟩
      ·have hb:(A == 1) = false:=by simpa using hA1'
       have HA:=Lib.hid hA1'
       clear hA1'
       go_wp2_with fail
       refine Met.intro ?_
       go_step
       (repeat apply Exists.intro)
       refine ⟨?rel,?fr⟩
       case fr=>congr 1
       case rel=>exact ⟨lo,hi,fun h=>absurd h HA.out,fun _=>⟨rfl,rfl⟩,q16,q11,ho,HL,F⟩
     case rest =>
      clear q16 q11 ho HL F
      obtain ⟨lo2,hi2,hh1,hh2,q16,q11,ho,HL,F⟩:=hcut
      have hnear2:-20 ≤ lo2 ∧ lo2 ≤ 20 ∧ -20 ≤ hi2 ∧ hi2 ≤ 20:=by
       by_cases hA1':A = 1
       ·have:=hh1.out hA1';omega
       ·have:=hh2.out hA1';omega
      obtain ⟨wm,hwm⟩:∃ wm,wm = wc:=⟨_,rfl⟩
      subst hwm
      have hd:=Lib.hid (fun (u v:Int)=>hso.done (lo':=lo2) (hi':=hi2) (u:=u) (v:=v) Hrl.out hA1 hh1.out hh2.out)
      clear hh1 hh2 hnear
      go_upto_region 22 with (fail)
      go_cut [] from 54 to 125 (fun wc=>∃ glo ghi:Int,RowOk bl (bl + wd) A r (glo,ghi) ∧ wc.heap[n16]? = some (.cells #[.int .i64 glo,.int .i64 ghi] 23 (0,0)) ∧
       wc.heap[n11]? = some (.cells #[.int .i64 S,.int .i64 A,.int .i64 T,.int .i64 bl,.int .i64 (bl + wd),.int .i64 (-p1),.int .i64 p2,.int .i64 sl,.slice ga gs.length gc,.slice none 0 0,.slice none 0 0] 28 (0,0)) ∧ wc.ownsRow (n16 + 1) 3 1 (.slice va2 r.length vc2) r.length (ivs r) ∧ Z0v w0 wc b (k + 16 + 10 * gs.length) nv ∧ Ext [b] wo wc)
      case first =>
       refine Z16 (Ext [b] wm) 15 follows fun w21 hh eS=>?_
       have q11_:=q11
       have q16_:=q16
       replace q11:=Zn hh q11
       replace q16:=Zn hh q16
       replace ho:=ZW hh ho
       replace F:=Z4 F eS
       replace HL:=Z1V eS HL
       replace eS:=eS.mono (Y:=[b]) (by simp)
       refine Zk (i:=0) (last:=15) rfl rfl (by decide) (by kernel_rfl) (by kernel_rfl) (by kernel_rfl) (by kernel_rfl) (by kernel_rfl) (fun _ _ _ h=>h) rfl rfl (fun w' hS=>Z9 rfl rfl Try.underlying23 rfl (n:=0) (sz:=1) rfl (by kernel_rfl) (by decide)) eS (by simp only [ls,lz];exact rfl) ?_
       refine Zk (i:=1) (last:=15) rfl rfl (by decide) (by kernel_rfl) (by kernel_rfl) (by kernel_rfl) (by kernel_rfl) (by kernel_rfl) (fun _ _ _ h=>h) rfl rfl (fun w' hS=>Zh rfl rfl Try.underlying3 rfl ((Z0 (hS.keep q16_ (by simp;omega)) 0).trans (get0))) eS (by simp only [ls,lz];exact rfl) ?_
       refine Zk (i:=2) (last:=15) rfl rfl (by decide) (by kernel_rfl) (by kernel_rfl) (by kernel_rfl) (by kernel_rfl) (by kernel_rfl) (fun _ _ _ h=>h) rfl rfl (fun w' hS=>Zi (v:=.pointer (some ⟨_,_,none⟩)) rfl rfl) eS (by simp only [ls,lz];exact rfl) ?_
       refine Zk (i:=7) (last:=15) rfl rfl (by decide) (by kernel_rfl) (by kernel_rfl) (by kernel_rfl) (by kernel_rfl) (by kernel_rfl) (fun _ _ _ h=>h) rfl rfl (fun w' hS=>Z9 rfl rfl Try.underlying23 rfl (n:=1) (sz:=1) rfl (by kernel_rfl) (by decide)) eS (by simp only [ls,lz];exact rfl) ?_
       refine Zk (i:=8) (last:=15) rfl rfl (by decide) (by kernel_rfl) (by kernel_rfl) (by kernel_rfl) (by kernel_rfl) (by kernel_rfl) (fun _ _ _ h=>h) rfl rfl (fun w' hS=>Zh rfl rfl Try.underlying3 rfl ((Z0 (hS.keep q16_ (by simp;omega)) 1).trans (getS (get0)))) eS (by simp only [ls,lz];exact rfl) ?_
       refine Zk (i:=9) (last:=15) rfl rfl (by decide) (by kernel_rfl) (by kernel_rfl) (by kernel_rfl) (by kernel_rfl) (by kernel_rfl) (fun _ _ _ h=>h) rfl rfl (fun w' hS=>Zi (v:=.pointer (some ⟨_,_,none⟩)) rfl rfl) eS (by simp only [ls,lz];exact rfl) ?_
       refine Z0X (i:=3) (j:=10) (by kernel_rfl) ?_ ?_
       refine Z1l rfl rfl rfl (ZE rfl Try.underlying29 (size:=1) (by kernel_rfl) (by decide) (by decide) Try.zeroValue3 (cells:=#[.int .i64 0,.int .i64 0,.int .i64 2,.int .i64 5]) (by kernel_rfl)) (by simp only [ls,lz];exact rfl) fun w22 hw=>?_
       replace eS:=Z2 eS hw
       obtain ⟨n114,hn⟩:∃ n,n = w21.heap.size:=⟨_,rfl⟩
       rw [← hn]
       have l114:wo.heap.size ≤ n114:=by rw [hn];exact F.size
       have b114_HL:=Nat.lt_of_lt_of_eq (Z0c HL) hn.symm
       have m114_11:n11 < n114:=by rw [hn];exact Z7 q11
       have m114_16:n16 < n114:=by rw [hn];exact Z7 q16
       have o114_ho:=Lib.hid (Zo ho hn)
       replace q11:=Z1 hw q11
       replace q16:=Z1 hw q16
       replace HL:=ZV hw HL
       replace ho:=Zc hw ho
       have q114:=Zw hw hn
       replace F:=Z2 F hw
       clear hw hn
       refine ⟨fun _=>eS,?_⟩
       refine Z0X (i:=4) (j:=10) (by kernel_rfl) ?_ ?_
       refine Z1A rfl rfl rfl (by kernel_rfl) (Z3r w0 _ b _ nv n114 _ [0,0,2,5] HL (by omega) q114 (by omega) (by decide) (by decide)) fun e w23 hR=>?_
       obtain ⟨u,rfl,hu,HL,e1⟩:=hR
       replace eS:=eS.trans e1
       replace q11:=(e1).keep q11 (by simp;omega)
       replace q16:=(e1).keep q16 (by simp;omega)
       replace q114:=(e1).keep q114 (by simp;omega)
       replace ho:=Zq ho e1 (by simp;omega)
       replace F:=F.trans' e1 (fun i hi hl=>by simp only [List.mem_cons,List.not_mem_nil,or_false] at hi ⊢;omega)
       refine ⟨_,_,rfl,(by simp only [ls,lz];exact rfl),fun _=>eS,?_⟩
       have hu':0 ≤ u ∧ u ≤ 5:=by simp at hu;omega
       refine Zk (i:=5) (last:=15) rfl rfl (by decide) (by kernel_rfl) (by kernel_rfl) (by kernel_rfl) (by kernel_rfl) (by kernel_rfl) (fun _ _ _ h=>h) rfl rfl (fun w' hS=>Z1I rfl rfl rfl (by omega) (by omega)) eS (by simp only [ls,lz];exact rfl) ?_
       refine Zk (i:=6) (last:=15) rfl rfl (by decide) (by kernel_rfl) (by kernel_rfl) (by kernel_rfl) (by kernel_rfl) (by kernel_rfl) (fun _ _ _ h=>h) rfl rfl (fun w' hS=>Z7Q rfl rfl rfl rfl) eS (by simp only [ls,lz];exact rfl) ?_
       refine Z1z (i:=10) rfl (by kernel_rfl) rfl rfl (ZE rfl Try.underlying29 (size:=1) (by kernel_rfl) (by decide) (by decide) Try.zeroValue3 (cells:=#[.int .i64 0,.int .i64 0,.int .i64 2,.int .i64 5]) (by kernel_rfl)) (by simp only [ls,lz];exact rfl) fun w24 hw=>?_
       replace eS:=Z2 eS hw
       obtain ⟨n121,hn⟩:∃ n,n = w23.heap.size:=⟨_,rfl⟩
       rw [← hn]
       have l121:wo.heap.size ≤ n121:=by rw [hn];exact F.size
       have b121_HL:=Nat.lt_of_lt_of_eq (Z0c HL) hn.symm
       have m121_11:n11 < n121:=by rw [hn];exact Z7 q11
       have m121_16:n16 < n121:=by rw [hn];exact Z7 q16
       have m121_114:n114 < n121:=by rw [hn];exact Z7 q114
       have o121_ho:=Lib.hid (Zo ho hn)
       replace q11:=Z1 hw q11
       replace q16:=Z1 hw q16
       replace q114:=Z1 hw q114
       replace HL:=ZV hw HL
       replace ho:=Zc hw ho
       have q121:=Zw hw hn
       replace F:=Z2 F hw
       clear hw hn
       refine ⟨fun _=>eS,?_⟩
       refine Z0e (i:=11) rfl (by kernel_rfl) rfl rfl (by kernel_rfl) (Z3r w0 _ b _ nv n121 _ [0,0,2,5] HL (by omega) q121 (by omega) (by decide) (by decide)) fun e w25 hR=>?_
       obtain ⟨v,rfl,hv,HL,e2⟩:=hR
       replace eS:=eS.trans e2
       replace q11:=(e2).keep q11 (by simp;omega)
       replace q16:=(e2).keep q16 (by simp;omega)
       replace q114:=(e2).keep q114 (by simp;omega)
       replace q121:=(e2).keep q121 (by simp;omega)
       replace ho:=Zq ho e2 (by simp;omega)
       replace F:=F.trans' e2 (fun i hi hl=>by simp only [List.mem_cons,List.not_mem_nil,or_false] at hi ⊢;omega)
       refine ⟨_,_,rfl,(by simp only [ls,lz];exact rfl),eS,?_⟩
       have hv':0 ≤ v ∧ v ≤ 5:=by simp at hv;omega
       refine Zk (i:=12) (last:=15) rfl rfl (by decide) (by kernel_rfl) (by kernel_rfl) (by kernel_rfl) (by kernel_rfl) (by kernel_rfl) (fun _ _ _ h=>h) rfl rfl (fun w' hS=>Z0F rfl rfl rfl (by omega) (by omega)) eS (by simp only [ls,lz];exact rfl) ?_
       refine Zk (i:=13) (last:=15) rfl rfl (by decide) (by kernel_rfl) (by kernel_rfl) (by kernel_rfl) (by kernel_rfl) (by kernel_rfl) (fun _ _ _ h=>h) rfl rfl (fun w' hS=>Z4O rfl rfl rfl rfl) eS (by simp only [ls,lz];exact rfl) ?_
       refine Zk (i:=14) (last:=15) rfl rfl (by decide) (by kernel_rfl) (by kernel_rfl) (by kernel_rfl) (by kernel_rfl) (by kernel_rfl) (fun _ _ _ h=>h) rfl rfl (fun w' hS=>ZZ rfl (cells:=#[.int .i64 (max (-20) (lo2 - u)),.int .i64 (min 20 (hi2 + v))]) (by kernel_rfl)) eS (by simp only [ls,lz];exact rfl) ?_
       refine Z0o (o:=_) rfl (by kernel_rfl) rfl rfl (Zg rfl rfl rfl (by kernel_rfl) (by simp [Value.oneCell']) q16 rfl) (by kernel_rfl) fun w26 hw=>?_
       replace q11:=Z5 hw q11 (by omega)
       replace q16:=Zz hw q16 rfl
       replace q114:=Z5 hw q114 (by omega)
       replace q121:=Z5 hw q121 (by omega)
       replace HL:=Z0d hw HL (by omega) (by omega)
       replace ho:=Z10 hw ho (by omega)
       replace F:=Za F hw (fun h=>by first | exact absurd h (by omega) | simp)
       clear hw
       refine Z0p (by kernel_rfl) ?_ _
       clear q11_ q16_ hh eS
       rotate_left
       refine Z1l rfl rfl rfl (ZE rfl Try.underlying29 (size:=1) (by kernel_rfl) (by decide) (by decide) Try.zeroValue3 (cells:=#[.int .i64 0,.int .i64 0,.int .i64 2,.int .i64 5]) (by kernel_rfl)) (by simp only [ls,lz];exact rfl) fun w23 hw=>?_
       replace eS:=Z2 eS hw
       obtain ⟨n121,hn⟩:∃ n,n = w22.heap.size:=⟨_,rfl⟩
       rw [← hn]
       have l121:wo.heap.size ≤ n121:=by rw [hn];exact F.size
       have b121_HL:=Nat.lt_of_lt_of_eq (Z0c HL) hn.symm
       have m121_11:n11 < n121:=by rw [hn];exact Z7 q11
       have m121_16:n16 < n121:=by rw [hn];exact Z7 q16
       have m121_114:n114 < n121:=by rw [hn];exact Z7 q114
       have o121_ho:=Lib.hid (Zo ho hn)
       replace q11:=Z1 hw q11
       replace q16:=Z1 hw q16
       replace q114:=Z1 hw q114
       replace HL:=ZV hw HL
       replace ho:=Zc hw ho
       have q121:=Zw hw hn
       replace F:=Z2 F hw
       clear hw hn
       refine ⟨fun _=>eS,?_⟩
       refine Z0e (i:=4) rfl (by kernel_rfl) rfl rfl (by kernel_rfl) (Z3r w0 _ b _ nv n114 _ [0,0,2,5] HL (by omega) q114 (by omega) (by decide) (by decide)) fun e w24 hR=>?_
       obtain ⟨u,rfl,hu,HL,e1⟩:=hR
       replace eS:=eS.trans e1
       replace q11:=(e1).keep q11 (by simp;omega)
       replace q16:=(e1).keep q16 (by simp;omega)
       replace q114:=(e1).keep q114 (by simp;omega)
       replace q121:=(e1).keep q121 (by simp;omega)
       replace ho:=Zq ho e1 (by simp;omega)
       replace F:=F.trans' e1 (fun i hi hl=>by simp only [List.mem_cons,List.not_mem_nil,or_false] at hi ⊢;omega)
       refine ⟨_,_,rfl,(by simp only [ls,lz];exact rfl),eS,?_⟩
       have hu':0 ≤ u ∧ u ≤ 5:=by simp at hu;omega
       refine Zk (i:=5) (last:=15) rfl rfl (by decide) (by kernel_rfl) (by kernel_rfl) (by kernel_rfl) (by kernel_rfl) (by kernel_rfl) (fun _ _ _ h=>h) rfl rfl (fun w' hS=>Z1I rfl rfl rfl (by omega) (by omega)) eS (by simp only [ls,lz];exact rfl) ?_
       refine Zk (i:=6) (last:=15) rfl rfl (by decide) (by kernel_rfl) (by kernel_rfl) (by kernel_rfl) (by kernel_rfl) (by kernel_rfl) (fun _ _ _ h=>h) rfl rfl (fun w' hS=>Z7Q rfl rfl rfl rfl) eS (by simp only [ls,lz];exact rfl) ?_
       refine Z0e (i:=11) rfl (by kernel_rfl) rfl rfl (by kernel_rfl) (Z3r w0 _ b _ nv n121 _ [0,0,2,5] HL (by omega) q121 (by omega) (by decide) (by decide)) fun e w25 hR=>?_
       obtain ⟨v,rfl,hv,HL,e2⟩:=hR
       replace eS:=eS.trans e2
       replace q11:=(e2).keep q11 (by simp;omega)
       replace q16:=(e2).keep q16 (by simp;omega)
       replace q114:=(e2).keep q114 (by simp;omega)
       replace q121:=(e2).keep q121 (by simp;omega)
       replace ho:=Zq ho e2 (by simp;omega)
       replace F:=F.trans' e2 (fun i hi hl=>by simp only [List.mem_cons,List.not_mem_nil,or_false] at hi ⊢;omega)
       refine ⟨_,_,rfl,(by simp only [ls,lz];exact rfl),eS,?_⟩
       have hv':0 ≤ v ∧ v ≤ 5:=by simp at hv;omega
       refine Zk (i:=12) (last:=15) rfl rfl (by decide) (by kernel_rfl) (by kernel_rfl) (by kernel_rfl) (by kernel_rfl) (by kernel_rfl) (fun _ _ _ h=>h) rfl rfl (fun w' hS=>Z0F rfl rfl rfl (by omega) (by omega)) eS (by simp only [ls,lz];exact rfl) ?_
       refine Zk (i:=13) (last:=15) rfl rfl (by decide) (by kernel_rfl) (by kernel_rfl) (by kernel_rfl) (by kernel_rfl) (by kernel_rfl) (fun _ _ _ h=>h) rfl rfl (fun w' hS=>Z4O rfl rfl rfl rfl) eS (by simp only [ls,lz];exact rfl) ?_
       refine Zk (i:=14) (last:=15) rfl rfl (by decide) (by kernel_rfl) (by kernel_rfl) (by kernel_rfl) (by kernel_rfl) (by kernel_rfl) (fun _ _ _ h=>h) rfl rfl (fun w' hS=>ZZ rfl (cells:=#[.int .i64 (max (-20) (lo2 - u)),.int .i64 (min 20 (hi2 + v))]) (by kernel_rfl)) eS (by simp only [ls,lz];exact rfl) ?_
       refine Z0o (o:=_) rfl (by kernel_rfl) rfl rfl (Zg rfl rfl rfl (by kernel_rfl) (by simp [Value.oneCell']) q16 rfl) (by kernel_rfl) fun w26 hw=>?_
       replace q11:=Z5 hw q11 (by omega)
       replace q16:=Zz hw q16 rfl
       replace q114:=Z5 hw q114 (by omega)
       replace q121:=Z5 hw q121 (by omega)
       replace HL:=Z0d hw HL (by omega) (by omega)
       replace ho:=Z10 hw ho (by omega)
       replace F:=Za F hw (fun h=>by first | exact absurd h (by omega) | simp)
       clear hw
       refine Z0p (by kernel_rfl) ?_ _
       clear q11_ q16_ hh eS
       rotate_left
       refine Z1l rfl rfl rfl (ZE rfl Try.underlying29 (size:=1) (by kernel_rfl) (by decide) (by decide) Try.zeroValue3 (cells:=#[.int .i64 0,.int .i64 0,.int .i64 2,.int .i64 5]) (by kernel_rfl)) (by simp only [ls,lz];exact rfl) fun w22 hw=>?_
       replace eS:=Z2 eS hw
       obtain ⟨n121,hn⟩:∃ n,n = w21.heap.size:=⟨_,rfl⟩
       rw [← hn]
       have l121:wo.heap.size ≤ n121:=by rw [hn];exact F.size
       have b121_HL:=Nat.lt_of_lt_of_eq (Z0c HL) hn.symm
       have m121_11:n11 < n121:=by rw [hn];exact Z7 q11
       have m121_16:n16 < n121:=by rw [hn];exact Z7 q16
       have o121_ho:=Lib.hid (Zo ho hn)
       replace q11:=Z1 hw q11
       replace q16:=Z1 hw q16
       replace HL:=ZV hw HL
       replace ho:=Zc hw ho
       have q121:=Zw hw hn
       replace F:=Z2 F hw
       clear hw hn
       refine ⟨fun _=>eS,?_⟩
       refine Z1z (i:=3) rfl (by kernel_rfl) rfl rfl (ZE rfl Try.underlying29 (size:=1) (by kernel_rfl) (by decide) (by decide) Try.zeroValue3 (cells:=#[.int .i64 0,.int .i64 0,.int .i64 2,.int .i64 5]) (by kernel_rfl)) (by simp only [ls,lz];exact rfl) fun w23 hw=>?_
       replace eS:=Z2 eS hw
       obtain ⟨n114,hn⟩:∃ n,n = w22.heap.size:=⟨_,rfl⟩
       rw [← hn]
       have l114:wo.heap.size ≤ n114:=by rw [hn];exact F.size
       have b114_HL:=Nat.lt_of_lt_of_eq (Z0c HL) hn.symm
       have m114_11:n11 < n114:=by rw [hn];exact Z7 q11
       have m114_16:n16 < n114:=by rw [hn];exact Z7 q16
       have m114_121:n121 < n114:=by rw [hn];exact Z7 q121
       have o114_ho:=Lib.hid (Zo ho hn)
       replace q11:=Z1 hw q11
       replace q16:=Z1 hw q16
       replace q121:=Z1 hw q121
       replace HL:=ZV hw HL
       replace ho:=Zc hw ho
       have q114:=Zw hw hn
       replace F:=Z2 F hw
       clear hw hn
       refine ⟨fun _=>eS,?_⟩
       refine Z0e (i:=4) rfl (by kernel_rfl) rfl rfl (by kernel_rfl) (Z3r w0 _ b _ nv n114 _ [0,0,2,5] HL (by omega) q114 (by omega) (by decide) (by decide)) fun e w24 hR=>?_
       obtain ⟨u,rfl,hu,HL,e1⟩:=hR
       replace eS:=eS.trans e1
       replace q11:=(e1).keep q11 (by simp;omega)
       replace q16:=(e1).keep q16 (by simp;omega)
       replace q121:=(e1).keep q121 (by simp;omega)
       replace q114:=(e1).keep q114 (by simp;omega)
       replace ho:=Zq ho e1 (by simp;omega)
       replace F:=F.trans' e1 (fun i hi hl=>by simp only [List.mem_cons,List.not_mem_nil,or_false] at hi ⊢;omega)
       refine ⟨_,_,rfl,(by simp only [ls,lz];exact rfl),eS,?_⟩
       have hu':0 ≤ u ∧ u ≤ 5:=by simp at hu;omega
       refine Zk (i:=5) (last:=15) rfl rfl (by decide) (by kernel_rfl) (by kernel_rfl) (by kernel_rfl) (by kernel_rfl) (by kernel_rfl) (fun _ _ _ h=>h) rfl rfl (fun w' hS=>Z1I rfl rfl rfl (by omega) (by omega)) eS (by simp only [ls,lz];exact rfl) ?_
       refine Zk (i:=6) (last:=15) rfl rfl (by decide) (by kernel_rfl) (by kernel_rfl) (by kernel_rfl) (by kernel_rfl) (by kernel_rfl) (fun _ _ _ h=>h) rfl rfl (fun w' hS=>Z7Q rfl rfl rfl rfl) eS (by simp only [ls,lz];exact rfl) ?_
       refine Z0e (i:=11) rfl (by kernel_rfl) rfl rfl (by kernel_rfl) (Z3r w0 _ b _ nv n121 _ [0,0,2,5] HL (by omega) q121 (by omega) (by decide) (by decide)) fun e w25 hR=>?_
       obtain ⟨v,rfl,hv,HL,e2⟩:=hR
       replace eS:=eS.trans e2
       replace q11:=(e2).keep q11 (by simp;omega)
       replace q16:=(e2).keep q16 (by simp;omega)
       replace q121:=(e2).keep q121 (by simp;omega)
       replace q114:=(e2).keep q114 (by simp;omega)
       replace ho:=Zq ho e2 (by simp;omega)
       replace F:=F.trans' e2 (fun i hi hl=>by simp only [List.mem_cons,List.not_mem_nil,or_false] at hi ⊢;omega)
       refine ⟨_,_,rfl,(by simp only [ls,lz];exact rfl),eS,?_⟩
       have hv':0 ≤ v ∧ v ≤ 5:=by simp at hv;omega
       refine Zk (i:=12) (last:=15) rfl rfl (by decide) (by kernel_rfl) (by kernel_rfl) (by kernel_rfl) (by kernel_rfl) (by kernel_rfl) (fun _ _ _ h=>h) rfl rfl (fun w' hS=>Z0F rfl rfl rfl (by omega) (by omega)) eS (by simp only [ls,lz];exact rfl) ?_
       refine Zk (i:=13) (last:=15) rfl rfl (by decide) (by kernel_rfl) (by kernel_rfl) (by kernel_rfl) (by kernel_rfl) (by kernel_rfl) (fun _ _ _ h=>h) rfl rfl (fun w' hS=>Z4O rfl rfl rfl rfl) eS (by simp only [ls,lz];exact rfl) ?_
       refine Zk (i:=14) (last:=15) rfl rfl (by decide) (by kernel_rfl) (by kernel_rfl) (by kernel_rfl) (by kernel_rfl) (by kernel_rfl) (fun _ _ _ h=>h) rfl rfl (fun w' hS=>ZZ rfl (cells:=#[.int .i64 (max (-20) (lo2 - u)),.int .i64 (min 20 (hi2 + v))]) (by kernel_rfl)) eS (by simp only [ls,lz];exact rfl) ?_
       refine Z0o (o:=_) rfl (by kernel_rfl) rfl rfl (Zg rfl rfl rfl (by kernel_rfl) (by simp [Value.oneCell']) q16 rfl) (by kernel_rfl) fun w26 hw=>?_
       replace q11:=Z5 hw q11 (by omega)
       replace q16:=Zz hw q16 rfl
       replace q121:=Z5 hw q121 (by omega)
       replace q114:=Z5 hw q114 (by omega)
       replace HL:=Z0d hw HL (by omega) (by omega)
       replace ho:=Z10 hw ho (by omega)
       replace F:=Za F hw (fun h=>by first | exact absurd h (by omega) | simp)
       clear hw
       refine Z0p (by kernel_rfl) ?_ _
       clear q11_ q16_ hh eS
       all_goals
        go_wp2_with fail
        refine Met.intro ?_
        go_step
        (repeat apply Exists.intro)
        refine ⟨?rel,?fr⟩
        case fr=>congr 1
        case rel=>exact ⟨_,_,hd.out u v hu'.1 hv'.1 hu'.2 hv'.2,q16,q11,ho,Z0t HL (by have:=Hrl.out;omega),F⟩
      case rest =>
       clear q16 q11 ho HL F hd hnear2
       obtain ⟨glo,ghi,hro,q16,q11,ho,HL,F⟩:=hcut
       have hne16:some n16 ≠ Value.ownBlock (.slice ga gs.length gc):=fun h=>absurd (Zai og h) (by omega)
       have hg11:n11 + 1 ≤ n16:=by omega
       have q8:=F.keep q8o (by simp;omega)
       replace og:=Zq og F (by simp;omega)
       replace om:=Zq om F (by simp;omega)
       replace hms:=Z0r hms fun v n xs h=>Zq h F (by simp;omega)
       replace ho:=ZH ho (show n11 + 1 ≤ n16 + 1 by omega)
       clear hcur1 hcur2 hrA
       replace F:=Eo.trans F
       replace hms:=Z7P hms ho
       clear ho
       obtain ⟨wx,hwx⟩:∃ wx,wx = wc:=⟨_,rfl⟩
       subst hwx
       go_upto_region 23 with (fail)
       refine Z16 (fun W'=>W'.heap[n11]? = wx.heap[n11]? ∧ W'.heap[n16]? = wx.heap[n16]?) 11 follows fun w41 hh eW=>?_
       have q11_:=q11
       have q16_:=q16
       have q8_:=q8
       replace q11:=Zn hh q11
       replace q16:=Zn hh q16
       replace q8:=Zn hh q8
       replace hms:=Z0r hms fun v n xs h=>ZW hh h
       replace og:=ZW hh og
       replace om:=ZW hh om
       replace F:=Z4 F eW
       replace HL:=Z1V eW HL
       have eS:=(And.intro (q11.trans q11_.symm) (q16.trans q16_.symm))
       refine Zk (i:=0) (last:=11) rfl rfl (by decide) (by kernel_rfl) (by kernel_rfl) (by kernel_rfl) (by kernel_rfl) (by kernel_rfl) (fun _ _ _ h=>h) rfl rfl (fun w' hS=>Zi (v:=.slice _ _ _) rfl rfl) eS (by simp only [ls,lz];exact rfl) ?_
       refine Zk (i:=1) (last:=11) rfl rfl (by decide) (by kernel_rfl) (by kernel_rfl) (by kernel_rfl) (by kernel_rfl) (by kernel_rfl) (fun _ _ _ h=>h) rfl rfl (fun w' hS=>Zi (v:=.slice _ _ _) rfl rfl) eS (by simp only [ls,lz];exact rfl) ?_
       refine Zk (i:=4) (last:=11) rfl rfl (by decide) (by kernel_rfl) (by kernel_rfl) (by kernel_rfl) (by kernel_rfl) (by kernel_rfl) (fun _ _ _ h=>h) rfl rfl (fun w' hS=>Z9 rfl rfl Try.underlying28 rfl (n:=8) (sz:=1) rfl (by kernel_rfl) (by decide)) eS (by simp only [ls,lz];exact rfl) ?_
       refine Zk (i:=5) (last:=11) rfl rfl (by decide) (by kernel_rfl) (by kernel_rfl) (by kernel_rfl) (by kernel_rfl) (by kernel_rfl) (fun _ _ _ h=>h) rfl rfl (fun w' hS=>Zh rfl rfl Try.underlying24 rfl ((Z0 (hS.1.trans q11_) 8).trans (getS (getS (getS (getS (getS (getS (getS (getS (get0))))))))))) eS (by simp only [ls,lz];exact rfl) ?_
       refine Zk (i:=6) (last:=11) rfl rfl (by decide) (by kernel_rfl) (by kernel_rfl) (by kernel_rfl) (by kernel_rfl) (by kernel_rfl) (fun _ _ _ h=>h) rfl rfl (fun w' hS=>Zt rfl rfl Try.underlying23 rfl (by kernel_rfl) (hS.2.trans q16_)) eS (by simp only [ls,lz];exact rfl) ?_
       refine Z0X (i:=2) (j:=7) (by kernel_rfl) ?_ ?_
       refine Z1l rfl rfl rfl (ZE rfl Try.underlying50 (size:=1) (by kernel_rfl) (by decide) (by decide) Try.zeroValue29 (cells:=#[.slice va2 r.length vc2]) (by kernel_rfl)) (by simp only [ls,lz];exact rfl) fun w42 hw=>?_
       obtain ⟨n128,hn⟩:∃ n,n = w41.heap.size:=⟨_,rfl⟩
       rw [← hn]
       have l128:w.heap.size ≤ n128:=by rw [hn];exact F.size
       have b128_HL:=Nat.lt_of_lt_of_eq (Z0c HL) hn.symm
       have m128_11:n11 < n128:=by rw [hn];exact Z7 q11
       have m128_16:n16 < n128:=by rw [hn];exact Z7 q16
       have m128_8:n8 < n128:=by rw [hn];exact Z7 q8
       have o128_og:=Lib.hid (Zo og hn)
       have o128_om:=Lib.hid (Zo om hn)
       replace q11:=Z1 hw q11
       replace q16:=Z1 hw q16
       replace q8:=Z1 hw q8
       replace HL:=ZV hw HL
       replace hms:=Z0r hms fun v n xs h=>Zc hw h
       replace og:=Zc hw og
       replace om:=Zc hw om
       have q128:=Zw hw hn
       replace F:=Z2 F hw
       clear hw hn
       have eS:=(And.intro (q11.trans q11_.symm) (q16.trans q16_.symm))
       refine ⟨fun _=>eS,?_⟩
       refine Z0X (i:=3) (j:=7) (by kernel_rfl) ?_ ?_
       have hszA:=Z7 q16
       refine Z84 rfl rfl rfl rfl (n11 + 1) (e:=29) (size:=1) (bytes:=24) Try.underlying50 (by kernel_rfl) (by decide) rfl om rfl q128 rfl (by simp [Value.oneCell']) (by omega) (by omega) (by omega) fun v' w43 hown' hg=>?_
       obtain ⟨va129,vc129,rfl⟩:=Zs hown'
       replace q11:=Zb om hg q11 (by decide)
       replace q16:=Zb om hg q16 (by decide)
       replace q8:=Zb om hg q8 (by decide)
       replace HL:=Z0O HL om hg (by omega) (by decide)
       replace hms:=Z0r hms fun v n xs h=>Zx h om hg (by decide)
       replace og:=Zx og om hg (by decide)
       replace F:=Zd F om hg (by omega)
       have hgsz:=hg.size
       replace om:=hown'
       clear hg
       have eS:=(And.intro (q11.trans q11_.symm) (q16.trans q16_.symm))
       refine ⟨_,(by simp only [ls,lz];exact rfl),fun _=>eS,?_⟩
       refine Z1z (i:=7) rfl (by kernel_rfl) rfl rfl (ZE rfl Try.underlying24 (size:=2) (by kernel_rfl) (by decide) (by decide) Try.zeroValue23 (cells:=#[.int .i64 glo,.int .i64 ghi]) (by kernel_rfl)) (by simp only [ls,lz];exact rfl) fun w44 hw=>?_
       obtain ⟨n133,hn⟩:∃ n,n = w43.heap.size:=⟨_,rfl⟩
       rw [← hn]
       have l133:w.heap.size ≤ n133:=by rw [hn];exact F.size
       have b133_HL:=Nat.lt_of_lt_of_eq (Z0c HL) hn.symm
       have m133_11:n11 < n133:=by rw [hn];exact Z7 q11
       have m133_16:n16 < n133:=by rw [hn];exact Z7 q16
       have m133_8:n8 < n133:=by rw [hn];exact Z7 q8
       have o133_og:=Lib.hid (Zo og hn)
       have o133_om:=Lib.hid (Zo om hn)
       replace q11:=Z1 hw q11
       replace q16:=Z1 hw q16
       replace q8:=Z1 hw q8
       replace HL:=ZV hw HL
       replace hms:=Z0r hms fun v n xs h=>Zc hw h
       replace og:=Zc hw og
       replace om:=Zc hw om
       have q133:=Zw hw hn
       replace F:=Z2 F hw
       clear hw hn
       have eS:=(And.intro (q11.trans q11_.symm) (q16.trans q16_.symm))
       refine ⟨fun _=>eS,?_⟩
       have hszB:=Z7 q16
       refine Z2j (i:=8) rfl (by kernel_rfl) rfl rfl rfl (n11 + 1) (e:=23) (size:=2) (bytes:=16) Try.underlying24 (by kernel_rfl) (by decide) rfl og rfl q133 rfl (by simp [Value.oneCell']) (by omega) (by omega) (by omega) fun v' w45 hown' hg=>?_
       obtain ⟨va134,vc134,rfl⟩:=Zs hown'
       replace q16:=(hg.block n16 (Z7 q16) hne16).trans q16
       replace q11:=Zb og hg q11 (by decide)
       replace q8:=Zb og hg q8 (by decide)
       replace HL:=Z0O HL og hg (by omega) (by decide)
       replace hms:=Z0r hms fun v n xs h=>Zx h og hg (by decide)
       replace om:=Zx om og hg (by decide)
       replace F:=Zd F og hg (by omega)
       have hgsz:=hg.size
       replace og:=hown'
       clear hg
       have eS:=(And.intro (q11.trans q11_.symm) (q16.trans q16_.symm))
       refine ⟨_,(by simp only [ls,lz];exact rfl),eS,?_⟩
       refine Zk (i:=9) (last:=11) rfl rfl (by decide) (by kernel_rfl) (by kernel_rfl) (by kernel_rfl) (by kernel_rfl) (by kernel_rfl) (fun _ _ _ h=>h) rfl rfl (fun w' hS=>Z8 (v:=.slice _ _ _) rfl rfl) eS (by simp only [ls,lz];exact rfl) ?_
       refine Zk (i:=10) (last:=11) rfl rfl (by decide) (by kernel_rfl) (by kernel_rfl) (by kernel_rfl) (by kernel_rfl) (by kernel_rfl) (fun _ _ _ h=>h) rfl rfl (fun w' hS=>Z9 rfl rfl Try.underlying28 rfl (n:=8) (sz:=1) rfl (by kernel_rfl) (by decide)) eS (by simp only [ls,lz];exact rfl) ?_
       refine Z0o (o:=_) rfl (by kernel_rfl) rfl rfl (ZR (v:=.slice _ _ _) rfl rfl rfl rfl (by kernel_rfl) ((Z0 q11 8).trans (getS (getS (getS (getS (getS (getS (getS (getS (get0)))))))))) (Zl q11 8)) (by kernel_rfl) fun w46 hw=>?_
       replace q11:=ZK hw q11 (by simp only [List.setIfInBounds_toArray,ls,lz];exact rfl)
       replace q16:=ZA hw q16 (by omega)
       replace q8:=ZA hw q8 (by omega)
       replace HL:=Z1p hw HL (by omega) (by omega)
       replace hms:=Z0r hms fun v n xs h=>Z1q hw h (by omega)
       replace og:=Z1q hw og (by omega)
       replace om:=Z1q hw om (by omega)
       replace F:=ZF F hw (fun h=>by first | exact absurd h (by omega) | simp)
       clear hw
       refine Z0p (by kernel_rfl) ?_ _
       clear q11_ q16_ q8_ hh eS eW
       rotate_left
       refine Z1l rfl rfl rfl (ZE rfl Try.underlying24 (size:=2) (by kernel_rfl) (by decide) (by decide) Try.zeroValue23 (cells:=#[.int .i64 glo,.int .i64 ghi]) (by kernel_rfl)) (by simp only [ls,lz];exact rfl) fun w43 hw=>?_
       obtain ⟨n133,hn⟩:∃ n,n = w42.heap.size:=⟨_,rfl⟩
       rw [← hn]
       have l133:w.heap.size ≤ n133:=by rw [hn];exact F.size
       have b133_HL:=Nat.lt_of_lt_of_eq (Z0c HL) hn.symm
       have m133_11:n11 < n133:=by rw [hn];exact Z7 q11
       have m133_16:n16 < n133:=by rw [hn];exact Z7 q16
       have m133_8:n8 < n133:=by rw [hn];exact Z7 q8
       have m133_128:n128 < n133:=by rw [hn];exact Z7 q128
       have o133_og:=Lib.hid (Zo og hn)
       have o133_om:=Lib.hid (Zo om hn)
       replace q11:=Z1 hw q11
       replace q16:=Z1 hw q16
       replace q8:=Z1 hw q8
       replace q128:=Z1 hw q128
       replace HL:=ZV hw HL
       replace hms:=Z0r hms fun v n xs h=>Zc hw h
       replace og:=Zc hw og
       replace om:=Zc hw om
       have q133:=Zw hw hn
       replace F:=Z2 F hw
       clear hw hn
       have eS:=(And.intro (q11.trans q11_.symm) (q16.trans q16_.symm))
       refine ⟨fun _=>eS,?_⟩
       have hszA:=Z7 q16
       refine Z2j (i:=3) rfl (by kernel_rfl) rfl rfl rfl (n11 + 1) (e:=29) (size:=1) (bytes:=24) Try.underlying50 (by kernel_rfl) (by decide) rfl om rfl q128 rfl (by simp [Value.oneCell']) (by omega) (by omega) (by omega) fun v' w44 hown' hg=>?_
       obtain ⟨va129,vc129,rfl⟩:=Zs hown'
       replace q11:=Zb om hg q11 (by decide)
       replace q16:=Zb om hg q16 (by decide)
       replace q8:=Zb om hg q8 (by decide)
       replace q133:=Zb om hg q133 (by decide)
       replace HL:=Z0O HL om hg (by omega) (by decide)
       replace hms:=Z0r hms fun v n xs h=>Zx h om hg (by decide)
       replace og:=Zx og om hg (by decide)
       replace F:=Zd F om hg (by omega)
       have hgsz:=hg.size
       replace om:=hown'
       clear hg
       have eS:=(And.intro (q11.trans q11_.symm) (q16.trans q16_.symm))
       refine ⟨_,(by simp only [ls,lz];exact rfl),eS,?_⟩
       have hszB:=Z7 q16
       refine Z2j (i:=8) rfl (by kernel_rfl) rfl rfl rfl (n11 + 1) (e:=23) (size:=2) (bytes:=16) Try.underlying24 (by kernel_rfl) (by decide) rfl og rfl q133 rfl (by simp [Value.oneCell']) (by omega) (by omega) (by omega) fun v' w45 hown' hg=>?_
       obtain ⟨va134,vc134,rfl⟩:=Zs hown'
       replace q16:=(hg.block n16 (Z7 q16) hne16).trans q16
       replace q11:=Zb og hg q11 (by decide)
       replace q8:=Zb og hg q8 (by decide)
       replace HL:=Z0O HL og hg (by omega) (by decide)
       replace hms:=Z0r hms fun v n xs h=>Zx h og hg (by decide)
       replace om:=Zx om og hg (by decide)
       replace F:=Zd F og hg (by omega)
       have hgsz:=hg.size
       replace og:=hown'
       clear hg
       have eS:=(And.intro (q11.trans q11_.symm) (q16.trans q16_.symm))
       refine ⟨_,(by simp only [ls,lz];exact rfl),eS,?_⟩
       refine Zk (i:=9) (last:=11) rfl rfl (by decide) (by kernel_rfl) (by kernel_rfl) (by kernel_rfl) (by kernel_rfl) (by kernel_rfl) (fun _ _ _ h=>h) rfl rfl (fun w' hS=>Z8 (v:=.slice _ _ _) rfl rfl) eS (by simp only [ls,lz];exact rfl) ?_
       refine Zk (i:=10) (last:=11) rfl rfl (by decide) (by kernel_rfl) (by kernel_rfl) (by kernel_rfl) (by kernel_rfl) (by kernel_rfl) (fun _ _ _ h=>h) rfl rfl (fun w' hS=>Z9 rfl rfl Try.underlying28 rfl (n:=8) (sz:=1) rfl (by kernel_rfl) (by decide)) eS (by simp only [ls,lz];exact rfl) ?_
       refine Z0o (o:=_) rfl (by kernel_rfl) rfl rfl (ZR (v:=.slice _ _ _) rfl rfl rfl rfl (by kernel_rfl) ((Z0 q11 8).trans (getS (getS (getS (getS (getS (getS (getS (getS (get0)))))))))) (Zl q11 8)) (by kernel_rfl) fun w46 hw=>?_
       replace q11:=ZK hw q11 (by simp only [List.setIfInBounds_toArray,ls,lz];exact rfl)
       replace q16:=ZA hw q16 (by omega)
       replace q8:=ZA hw q8 (by omega)
       replace HL:=Z1p hw HL (by omega) (by omega)
       replace hms:=Z0r hms fun v n xs h=>Z1q hw h (by omega)
       replace og:=Z1q hw og (by omega)
       replace om:=Z1q hw om (by omega)
       replace F:=ZF F hw (fun h=>by first | exact absurd h (by omega) | simp)
       clear hw
       refine Z0p (by kernel_rfl) ?_ _
       clear q11_ q16_ q8_ hh eS eW
       rotate_left
       refine Z1l rfl rfl rfl (ZE rfl Try.underlying24 (size:=2) (by kernel_rfl) (by decide) (by decide) Try.zeroValue23 (cells:=#[.int .i64 glo,.int .i64 ghi]) (by kernel_rfl)) (by simp only [ls,lz];exact rfl) fun w42 hw=>?_
       obtain ⟨n133,hn⟩:∃ n,n = w41.heap.size:=⟨_,rfl⟩
       rw [← hn]
       have l133:w.heap.size ≤ n133:=by rw [hn];exact F.size
       have b133_HL:=Nat.lt_of_lt_of_eq (Z0c HL) hn.symm
       have m133_11:n11 < n133:=by rw [hn];exact Z7 q11
       have m133_16:n16 < n133:=by rw [hn];exact Z7 q16
       have m133_8:n8 < n133:=by rw [hn];exact Z7 q8
       have o133_og:=Lib.hid (Zo og hn)
       have o133_om:=Lib.hid (Zo om hn)
       replace q11:=Z1 hw q11
       replace q16:=Z1 hw q16
       replace q8:=Z1 hw q8
       replace HL:=ZV hw HL
       replace hms:=Z0r hms fun v n xs h=>Zc hw h
       replace og:=Zc hw og
       replace om:=Zc hw om
       have q133:=Zw hw hn
       replace F:=Z2 F hw
       clear hw hn
       have eS:=(And.intro (q11.trans q11_.symm) (q16.trans q16_.symm))
       refine ⟨fun _=>eS,?_⟩
       refine Z1z (i:=2) rfl (by kernel_rfl) rfl rfl (ZE rfl Try.underlying50 (size:=1) (by kernel_rfl) (by decide) (by decide) Try.zeroValue29 (cells:=#[.slice va2 r.length vc2]) (by kernel_rfl)) (by simp only [ls,lz];exact rfl) fun w43 hw=>?_
       obtain ⟨n128,hn⟩:∃ n,n = w42.heap.size:=⟨_,rfl⟩
       rw [← hn]
       have l128:w.heap.size ≤ n128:=by rw [hn];exact F.size
       have b128_HL:=Nat.lt_of_lt_of_eq (Z0c HL) hn.symm
       have m128_11:n11 < n128:=by rw [hn];exact Z7 q11
       have m128_16:n16 < n128:=by rw [hn];exact Z7 q16
       have m128_8:n8 < n128:=by rw [hn];exact Z7 q8
       have m128_133:n133 < n128:=by rw [hn];exact Z7 q133
       have o128_og:=Lib.hid (Zo og hn)
       have o128_om:=Lib.hid (Zo om hn)
       replace q11:=Z1 hw q11
       replace q16:=Z1 hw q16
       replace q8:=Z1 hw q8
       replace q133:=Z1 hw q133
       replace HL:=ZV hw HL
       replace hms:=Z0r hms fun v n xs h=>Zc hw h
       replace og:=Zc hw og
       replace om:=Zc hw om
       have q128:=Zw hw hn
       replace F:=Z2 F hw
       clear hw hn
       have eS:=(And.intro (q11.trans q11_.symm) (q16.trans q16_.symm))
       refine ⟨fun _=>eS,?_⟩
       have hszA:=Z7 q16
       refine Z2j (i:=3) rfl (by kernel_rfl) rfl rfl rfl (n11 + 1) (e:=29) (size:=1) (bytes:=24) Try.underlying50 (by kernel_rfl) (by decide) rfl om rfl q128 rfl (by simp [Value.oneCell']) (by omega) (by omega) (by omega) fun v' w44 hown' hg=>?_
       obtain ⟨va129,vc129,rfl⟩:=Zs hown'
       replace q11:=Zb om hg q11 (by decide)
       replace q16:=Zb om hg q16 (by decide)
       replace q8:=Zb om hg q8 (by decide)
       replace q133:=Zb om hg q133 (by decide)
       replace HL:=Z0O HL om hg (by omega) (by decide)
       replace hms:=Z0r hms fun v n xs h=>Zx h om hg (by decide)
       replace og:=Zx og om hg (by decide)
       replace F:=Zd F om hg (by omega)
       have hgsz:=hg.size
       replace om:=hown'
       clear hg
       have eS:=(And.intro (q11.trans q11_.symm) (q16.trans q16_.symm))
       refine ⟨_,(by simp only [ls,lz];exact rfl),eS,?_⟩
       have hszB:=Z7 q16
       refine Z2j (i:=8) rfl (by kernel_rfl) rfl rfl rfl (n11 + 1) (e:=23) (size:=2) (bytes:=16) Try.underlying24 (by kernel_rfl) (by decide) rfl og rfl q133 rfl (by simp [Value.oneCell']) (by omega) (by omega) (by omega) fun v' w45 hown' hg=>?_
       obtain ⟨va134,vc134,rfl⟩:=Zs hown'
       replace q16:=(hg.block n16 (Z7 q16) hne16).trans q16
       replace q11:=Zb og hg q11 (by decide)
       replace q8:=Zb og hg q8 (by decide)
       replace HL:=Z0O HL og hg (by omega) (by decide)
       replace hms:=Z0r hms fun v n xs h=>Zx h og hg (by decide)
       replace om:=Zx om og hg (by decide)
       replace F:=Zd F og hg (by omega)
       have hgsz:=hg.size
       replace og:=hown'
       clear hg
       have eS:=(And.intro (q11.trans q11_.symm) (q16.trans q16_.symm))
       refine ⟨_,(by simp only [ls,lz];exact rfl),eS,?_⟩
       refine Zk (i:=9) (last:=11) rfl rfl (by decide) (by kernel_rfl) (by kernel_rfl) (by kernel_rfl) (by kernel_rfl) (by kernel_rfl) (fun _ _ _ h=>h) rfl rfl (fun w' hS=>Z8 (v:=.slice _ _ _) rfl rfl) eS (by simp only [ls,lz];exact rfl) ?_
       refine Zk (i:=10) (last:=11) rfl rfl (by decide) (by kernel_rfl) (by kernel_rfl) (by kernel_rfl) (by kernel_rfl) (by kernel_rfl) (fun _ _ _ h=>h) rfl rfl (fun w' hS=>Z9 rfl rfl Try.underlying28 rfl (n:=8) (sz:=1) rfl (by kernel_rfl) (by decide)) eS (by simp only [ls,lz];exact rfl) ?_
       refine Z0o (o:=_) rfl (by kernel_rfl) rfl rfl (ZR (v:=.slice _ _ _) rfl rfl rfl rfl (by kernel_rfl) ((Z0 q11 8).trans (getS (getS (getS (getS (getS (getS (getS (getS (get0)))))))))) (Zl q11 8)) (by kernel_rfl) fun w46 hw=>?_
       replace q11:=ZK hw q11 (by simp only [List.setIfInBounds_toArray,ls,lz];exact rfl)
       replace q16:=ZA hw q16 (by omega)
       replace q8:=ZA hw q8 (by omega)
       replace HL:=Z1p hw HL (by omega) (by omega)
       replace hms:=Z0r hms fun v n xs h=>Z1q hw h (by omega)
       replace og:=Z1q hw og (by omega)
       replace om:=Z1q hw om (by omega)
       replace F:=ZF F hw (fun h=>by first | exact absurd h (by omega) | simp)
       clear hw
       refine Z0p (by kernel_rfl) ?_ _
       clear q11_ q16_ q8_ hh eS eW
       all_goals
        have hOk2:=hOk.snoc hro
        go_wp2
        go_roundw
        case rel=>exact ⟨gs ++ [(glo,ghi)],ms ++ [r],_,_,_,by rw [List.length_append,List.length_singleton];omega,by rw [List.length_append,List.length_singleton];go_num,hOk2,q8,by rw [List.length_append];exact q11,by rw [Z80,List.length_append];exact og,by rw [List.length_append];exact om,hms,Z0t HL (by rw [List.length_append,List.length_singleton];omega),F⟩
        case measure=>simp [intOf];omega
  ·have hgl:(gs.length:Int) = S:=by omega
   have hml:=hOk.len
   have hmlen:ms.length ≤ 3:=by omega
   have Eo:=E
   have q8o:=q8
   have q11o:=q11
   have hbwr:b < wo.heap.size:=Nat.lt_of_lt_of_le hbw E.size
   have hsz11:=Z7 q11
   have hwwr:=E.size
   obtain ⟨nP,hnP⟩:∃ nP,nP = wo.heap.size:=⟨_,rfl⟩
   have F:Ext [b] wo wo:=Ext.refl _ _
   replace HL:=Z0t HL (show k + 10 + 10 * gs.length ≤ k + 40 by omega)
   go_upto_region 7 with (fail)
   refine wp_region_lit ?_
   refine Z3 rfl rfl (Zi (v:=.int .i64 _) rfl rfl) (by simp only [ls,lz];exact rfl) ?_
   refine Z3 rfl rfl (Z9 rfl rfl Try.underlying28 rfl (n:=0) (sz:=1) rfl (by kernel_rfl) (by decide)) (by simp only [ls,lz];exact rfl) ?_
   refine Z3 rfl rfl (Zh rfl rfl Try.underlying3 rfl ((Z0 q11 0).trans (get0))) (by simp only [ls,lz];exact rfl) ?_
   refine Z3 rfl rfl (Z1d rfl rfl rfl) (by simp only [ls,lz];exact rfl) ?_
   refine wpList_nil ?_
   go_upto_region 24 with (fail)
   refine wp_region_lit ?_
   refine Z3 rfl rfl (Z8 (v:=.slice _ _ _) rfl rfl) (by simp only [ls,lz];exact rfl) ?_
   refine wpList_nil ?_
   go_upto_region 25 with (fail)
   refine wp_region_lit ?_
   refine Z3 rfl rfl (Z8 (v:=.int .i64 _) rfl rfl) (by simp only [ls,lz];exact rfl) ?_
   refine wpList_nil ?_
   go_wp2_with fail
   go_loopw [21,20] (fun iv v wr=>∃ (ps:List Int),(ps.length:Int) ≤ T ∧ iv = .int .i64 ps.length ∧ (∀ p ∈ ps,-p1 ≤ p ∧ p ≤ p2) ∧ wr.ownsRow nP 3 1 v ps.length (ivs ps) ∧ Z0v w0 wr b (k + 40 + ps.length) nv ∧ Ext [b] wo wr) (fun iv _ _=>T.toNat - (intOf iv).toNat)
   case atStart=>exact ⟨[],by simp;omega,rfl,fun p h=>by simp at h,World.ownsRow_nil _ _ _ _,HL,F⟩
   case round =>
    clear HL F q8 q11 E
    obtain ⟨ps,hpT,rfl,hps,ho,HL,F⟩:=hrel
    obtain ⟨pa,pc,rfl⟩:=Zs ho
    have hpT':=hpT
    have q11:=F.keep q11o (by simp;omega)
    have q8:=F.keep q8o (by simp;omega)
    by_cases hlp:(ps.length:Int) < T
    ·have hx1:=hps
     clear hx1
     go_upto_region 26 with (fail)
     refine wp_region_lit ?_
     refine Z3 rfl rfl (Zi (v:=.int .i64 _) rfl rfl) (by simp only [ls,lz];exact rfl) ?_
     refine Z3 rfl rfl (Z9 rfl rfl Try.underlying28 rfl (n:=2) (sz:=1) rfl (by kernel_rfl) (by decide)) (by simp only [ls,lz];exact rfl) ?_
     refine Z3 rfl rfl (Zh rfl rfl Try.underlying3 rfl ((Z0 q11 2).trans (getS (getS (get0))))) (by simp only [ls,lz];exact rfl) ?_
     refine Z3 rfl rfl (Z1d rfl rfl rfl) (by simp only [ls,lz];exact rfl) ?_
     refine wpList_nil ?_
     go_upto_region 28 with (fail)
     refine wp_region_lit ?_
     refine Z3 rfl rfl (Zi (v:=.slice _ _ _) rfl rfl) (by simp only [ls,lz];exact rfl) ?_
     refine Z3 rfl rfl (Zi (v:=.pointer (some ⟨_,_,none⟩)) rfl rfl) (by simp only [ls,lz];exact rfl) ?_
     refine Z3 rfl rfl (Z9 rfl rfl Try.underlying28 rfl (n:=5) (sz:=2) rfl (by kernel_rfl) (by decide)) (by simp only [ls,lz];exact rfl) ?_
     refine Z3 rfl rfl (Z9 rfl rfl Try.underlying23 rfl (n:=5) (sz:=1) rfl (by kernel_rfl) (by decide)) (by simp only [ls,lz];exact rfl) ?_
     refine Z3 rfl rfl (Zh rfl rfl Try.underlying3 rfl ((Z0 q11 5).trans (getS (getS (getS (getS (getS (get0)))))))) (by simp only [ls,lz];exact rfl) ?_
     refine Z3 rfl rfl (Z9 rfl rfl Try.underlying28 rfl (n:=5) (sz:=2) rfl (by kernel_rfl) (by decide)) (by simp only [ls,lz];exact rfl) ?_
     refine Z3 rfl rfl (Z9 rfl rfl Try.underlying23 rfl (n:=6) (sz:=1) rfl (by kernel_rfl) (by decide)) (by simp only [ls,lz];exact rfl) ?_
     refine Z3 rfl rfl (Zh rfl rfl Try.underlying3 rfl ((Z0 q11 6).trans (getS (getS (getS (getS (getS (getS (get0))))))))) (by simp only [ls,lz];exact rfl) ?_
     refine ZC rfl rfl (by kernel_rfl) (Z4a w0 _ b _ nv (-p1) p2 HL (by omega) (by omega) (by omega) (by omega) (by omega)) fun e w1 hR=>?_
     obtain ⟨pn,rfl,hpn1,hpn2,HL,e1⟩:=hR
     refine ⟨_,_,rfl,(by simp only [ls,lz];exact rfl),?_⟩
     replace q11:=(e1).keep q11 (by simp;omega)
     replace ho:=Zq ho e1 (by simp;omega)
     replace F:=F.trans' e1 (fun i hi hl=>by simp only [List.mem_cons,List.not_mem_nil,or_false] at hi ⊢;omega)
     refine Zy rfl rfl (ZE rfl Try.underlying29 (size:=1) (by kernel_rfl) (by decide) (by decide) Try.zeroValue3 (cells:=#[.int .i64 pn]) (by kernel_rfl)) (by simp only [ls,lz];exact rfl) fun w2 hw=>?_
     obtain ⟨n151,hn⟩:∃ n,n = w1.heap.size:=⟨_,rfl⟩
     rw [← hn]
     have l151:wo.heap.size ≤ n151:=by rw [hn];exact F.size
     have b151_HL:=Nat.lt_of_lt_of_eq (Z0c HL) hn.symm
     have m151_11:n11 < n151:=by rw [hn];exact Z7 q11
     have o151_ho:=Lib.hid (Zo ho hn)
     replace q11:=Z1 hw q11
     replace HL:=ZV hw HL
     replace ho:=Zc hw ho
     have q151:=Zw hw hn
     replace F:=Z2 F hw
     clear hw hn
     have hszP:=Z7 q151
     refine Z1G rfl rfl rfl (nP) (e:=3) (size:=1) (bytes:=8) Try.underlying29 (by kernel_rfl) (by decide) rfl ho rfl q151 rfl (by simp [Value.oneCell']) (by omega) (by omega) (by omega) fun v' w3 hown' hg=>?_
     obtain ⟨va152,vc152,rfl⟩:=Zs hown'
     replace q11:=Zb ho hg q11 (by decide)
     replace HL:=Z0O HL ho hg (by omega) (by decide)
     replace F:=Zd F ho hg (by omega)
     have hgsz:=hg.size
     replace ho:=hown'
     clear hg
     refine ⟨_,(by simp only [ls,lz];exact rfl),?_⟩
     refine Z3 rfl rfl (Z8 (v:=.slice _ _ _) rfl rfl) (by simp only [ls,lz];exact rfl) ?_
     refine wpList_nil ?_
     have hps2:∀ p ∈ ps ++ [pn],-p1 ≤ p ∧ p ≤ p2:=fun p hp=>by
      rcases List.mem_append.1 hp with hp | hp
      ·exact hps p hp
      ·simp at hp;subst hp;omega
     go_wp2
     go_roundw
     case rel=>exact ⟨ps ++ [pn],by rw [List.length_append,List.length_singleton];omega,by rw [List.length_append,List.length_singleton];go_num,hps2,by rw [Z5G,List.length_append];exact ho,Z0t HL (by rw [List.length_append,List.length_singleton];omega),F⟩
     case measure=>simp [intOf];omega
    ·have hpl:(ps.length:Int) = T:=by omega
     have hgl2:=hgl
     replace og:=Zq og F (by simp;omega)
     replace om:=Zq om F (by simp;omega)
     replace hms:=Z0r hms fun v n xs h=>Zq h F (by simp;omega)
     replace ho:=ZH ho (show n11 + 1 ≤ nP by omega)
     have Ex:=Eo.trans F
     clear Eo F q8o q11o hnP
     replace HL:=Z0t HL (show k + 40 + ps.length ≤ k + 43 by omega)
     obtain ⟨wq,hwq⟩:∃ wq,wq = wr:=⟨_,rfl⟩
     subst hwq
     obtain ⟨nR,hnR⟩:∃ nR,nR = wq.heap.size:=⟨_,rfl⟩
     have G:Ext [b,n11] wq wq:=Ext.refl _ _
     have hszq:=Ex.size
     have hsz11q:=Z7 q11
     go_upto_region 26 with (fail)
     refine wp_region_lit ?_
     refine Z3 rfl rfl (Zi (v:=.int .i64 _) rfl rfl) (by simp only [ls,lz];exact rfl) ?_
     refine Z3 rfl rfl (Z9 rfl rfl Try.underlying28 rfl (n:=2) (sz:=1) rfl (by kernel_rfl) (by decide)) (by simp only [ls,lz];exact rfl) ?_
     refine Z3 rfl rfl (Zh rfl rfl Try.underlying3 rfl ((Z0 q11 2).trans (getS (getS (get0))))) (by simp only [ls,lz];exact rfl) ?_
     refine Z3 rfl rfl (Z1d rfl rfl rfl) (by simp only [ls,lz];exact rfl) ?_
     refine wpList_nil ?_
     go_upto_region 29 with (fail)
     refine wp_region_lit ?_
     refine Z3 rfl rfl (Zi (v:=.pointer (some ⟨_,_,none⟩)) rfl rfl) (by simp only [ls,lz];exact rfl) ?_
     refine ZC rfl rfl (by kernel_rfl) (Z0l w0 _ b _ nv 5 HL (by omega) (by omega) (by omega)) fun e w1 hR=>?_
     obtain ⟨many,rfl,hm1,hm2,HL,e1⟩:=hR
     refine ⟨_,_,rfl,(by simp only [ls,lz];exact rfl),?_⟩
     replace q11:=(e1).keep q11 (by simp;omega)
     replace G:=G.trans' e1 (fun i hi hl=>by simp only [List.mem_cons,List.not_mem_nil,or_false] at hi ⊢;omega)
     refine Z3 rfl rfl (Z8 (v:=.int .i64 _) rfl rfl) (by simp only [ls,lz];exact rfl) ?_
     refine wpList_nil ?_
     clear e1
     obtain ⟨many,rfl⟩:=Int.eq_ofNat_of_zero_le hm1
     go_wp2_with fail
     go_loopw [22] (fun iv wr=>∃ (j:Nat) (rs:List (Int × Int × Int × Int)) (ra:Option Addr) (rc:Nat),j + rs.length ≤ 5 ∧ iv = .int .i64 j ∧ (∀ r ∈ rs,RdOk S A T sl ms ps r) ∧
      wr.heap[n11]? = some (.cells #[.int .i64 S,.int .i64 A,.int .i64 T,.int .i64 bl,.int .i64 (bl + wd),.int .i64 (-p1),.int .i64 p2,.int .i64 sl,.slice ga gs.length gc,.slice ra rs.length rc,.slice none 0 0] 28 (0,0)) ∧ wr.ownsRow nR 66 4 (.slice ra rs.length rc) rs.length (Z37 rs) ∧ Z0v w0 wr b (k + 44 + 4 * rs.length) nv ∧ Ext [b,n11] wq wr) (fun iv _=>(intOf iv).toNat)
     case atStart=>exact ⟨many,[],none,0,by simp;omega,rfl,fun p h=>by simp at h,q11,World.ownsRow_nil _ _ _ _,HL,G⟩
     case round =>
      clear HL G q11 hm1 hm2
      obtain ⟨j,rs,ra,rc,hjr,rfl,hrs,q11,orr,HL,G⟩:=hrel
      by_cases hj:0 < j
      ·obtain ⟨j,rfl⟩:∃ j',j = j' + 1:=⟨j - 1,by omega⟩
       have hj0:(0:Int) < ((j + 1:Nat):Int):=by omega
       go_upto_region 30 with (fail)
       refine wp_region_lit ?_
       refine Z3 rfl rfl (Zi (v:=.int .i64 _) rfl rfl) (by simp only [ls,lz];exact rfl) ?_
       refine Z3 rfl rfl (Z4J rfl rfl rfl) (by simp only [ls,lz];exact rfl) ?_
       refine wpList_nil ?_
       go_upto_region 32 with (fail)
       go_cut [23] from 159 to 174 (fun pv wc=>∃ (n23:Nat) (s a i:Int),pv = .pointer (some ⟨n23,0,none⟩) ∧ 0 ≤ s ∧ s < S ∧ 0 ≤ a ∧ a < A ∧ 0 ≤ i ∧ i < T ∧ nR ≤ n23 ∧ Hid (some n23 ≠ Value.ownBlock (.slice ra rs.length rc)) ∧ wc.heap[n23]? = some (.cells #[.int .i64 s,.int .i64 a,.int .i64 i,.int .i64 0] 66 (0,0)) ∧
        wc.heap[n11]? = some (.cells #[.int .i64 S,.int .i64 A,.int .i64 T,.int .i64 bl,.int .i64 (bl + wd),.int .i64 (-p1),.int .i64 p2,.int .i64 sl,.slice ga gs.length gc,.slice ra rs.length rc,.slice none 0 0] 28 (0,0)) ∧ wc.ownsRow nR 66 4 (.slice ra rs.length rc) rs.length (Z37 rs) ∧ Z0v w0 wc b (k + 47 + 4 * rs.length) nv ∧ Ext [b,n11] wq wc)
       case first =>
        refine Z16 (Ext [b] wr) 17 follows fun w1 hh eS=>?_
        have q11_:=q11
        replace q11:=Zn hh q11
        replace orr:=ZW hh orr
        replace G:=Z4 G eS
        replace HL:=Z1V eS HL
        replace eS:=eS.mono (Y:=[b]) (by simp)
        refine Zk (i:=0) (last:=17) rfl rfl (by decide) (by kernel_rfl) (by kernel_rfl) (by kernel_rfl) (by kernel_rfl) (by kernel_rfl) (fun _ _ _ h=>h) rfl rfl (fun w' hS=>Zi (v:=.pointer (some ⟨_,_,none⟩)) rfl rfl) eS (by simp only [ls,lz];exact rfl) ?_
        refine Zk (i:=1) (last:=17) rfl rfl (by decide) (by kernel_rfl) (by kernel_rfl) (by kernel_rfl) (by kernel_rfl) (by kernel_rfl) (fun _ _ _ h=>h) rfl rfl (fun w' hS=>Z9 rfl rfl Try.underlying28 rfl (n:=0) (sz:=1) rfl (by kernel_rfl) (by decide)) eS (by simp only [ls,lz];exact rfl) ?_
        refine Zk (i:=2) (last:=17) rfl rfl (by decide) (by kernel_rfl) (by kernel_rfl) (by kernel_rfl) (by kernel_rfl) (by kernel_rfl) (fun _ _ _ h=>h) rfl rfl (fun w' hS=>Zh rfl rfl Try.underlying3 rfl ((Z0 (hS.keep q11_ (by simp;omega)) 0).trans (get0))) eS (by simp only [ls,lz];exact rfl) ?_
        refine Zk (i:=3) (last:=17) rfl rfl (by decide) (by kernel_rfl) (by kernel_rfl) (by kernel_rfl) (by kernel_rfl) (by kernel_rfl) (fun _ _ _ h=>h) rfl rfl (fun w' hS=>Z1I rfl rfl rfl (by omega) (by omega)) eS (by simp only [ls,lz];exact rfl) ?_
        refine Zk (i:=5) (last:=17) rfl rfl (by decide) (by kernel_rfl) (by kernel_rfl) (by kernel_rfl) (by kernel_rfl) (by kernel_rfl) (fun _ _ _ h=>h) rfl rfl (fun w' hS=>Zi (v:=.pointer (some ⟨_,_,none⟩)) rfl rfl) eS (by simp only [ls,lz];exact rfl) ?_
        refine Zk (i:=6) (last:=17) rfl rfl (by decide) (by kernel_rfl) (by kernel_rfl) (by kernel_rfl) (by kernel_rfl) (by kernel_rfl) (fun _ _ _ h=>h) rfl rfl (fun w' hS=>Z9 rfl rfl Try.underlying28 rfl (n:=1) (sz:=1) rfl (by kernel_rfl) (by decide)) eS (by simp only [ls,lz];exact rfl) ?_
        refine Zk (i:=7) (last:=17) rfl rfl (by decide) (by kernel_rfl) (by kernel_rfl) (by kernel_rfl) (by kernel_rfl) (by kernel_rfl) (fun _ _ _ h=>h) rfl rfl (fun w' hS=>Zh rfl rfl Try.underlying3 rfl ((Z0 (hS.keep q11_ (by simp;omega)) 1).trans (getS (get0)))) eS (by simp only [ls,lz];exact rfl) ?_
        refine Zk (i:=8) (last:=17) rfl rfl (by decide) (by kernel_rfl) (by kernel_rfl) (by kernel_rfl) (by kernel_rfl) (by kernel_rfl) (fun _ _ _ h=>h) rfl rfl (fun w' hS=>Z1I rfl rfl rfl (by omega) (by omega)) eS (by simp only [ls,lz];exact rfl) ?_
        refine Zk (i:=10) (last:=17) rfl rfl (by decide) (by kernel_rfl) (by kernel_rfl) (by kernel_rfl) (by kernel_rfl) (by kernel_rfl) (fun _ _ _ h=>h) rfl rfl (fun w' hS=>Zi (v:=.pointer (some ⟨_,_,none⟩)) rfl rfl) eS (by simp only [ls,lz];exact rfl) ?_
        refine Zk (i:=11) (last:=17) rfl rfl (by decide) (by kernel_rfl) (by kernel_rfl) (by kernel_rfl) (by kernel_rfl) (by kernel_rfl) (fun _ _ _ h=>h) rfl rfl (fun w' hS=>Z9 rfl rfl Try.underlying28 rfl (n:=2) (sz:=1) rfl (by kernel_rfl) (by decide)) eS (by simp only [ls,lz];exact rfl) ?_
        refine Zk (i:=12) (last:=17) rfl rfl (by decide) (by kernel_rfl) (by kernel_rfl) (by kernel_rfl) (by kernel_rfl) (by kernel_rfl) (fun _ _ _ h=>h) rfl rfl (fun w' hS=>Zh rfl rfl Try.underlying3 rfl ((Z0 (hS.keep q11_ (by simp;omega)) 2).trans (getS (getS (get0))))) eS (by simp only [ls,lz];exact rfl) ?_
        refine Zk (i:=13) (last:=17) rfl rfl (by decide) (by kernel_rfl) (by kernel_rfl) (by kernel_rfl) (by kernel_rfl) (by kernel_rfl) (fun _ _ _ h=>h) rfl rfl (fun w' hS=>Z1I rfl rfl rfl (by omega) (by omega)) eS (by simp only [ls,lz];exact rfl) ?_
        refine Z0X (i:=4) (j:=16) (by kernel_rfl) ?_ ?_
        refine Z1A rfl rfl rfl (by kernel_rfl) (Z0l w0 _ b _ nv (S - 1) HL (by omega) (by omega) (by omega)) fun e w2 hR=>?_
        obtain ⟨s,rfl,hs0,hs1,HL,e1⟩:=hR
        replace eS:=eS.trans e1
        replace q11:=(e1).keep q11 (by simp;omega)
        replace orr:=Zq orr e1 (by simp;omega)
        replace G:=G.trans' e1 (fun i hi hl=>by simp only [List.mem_cons,List.not_mem_nil,or_false] at hi ⊢;omega)
        refine ⟨_,_,rfl,(by simp only [ls,lz];exact rfl),fun _=>eS,?_⟩
        refine Z0X (i:=9) (j:=16) (by kernel_rfl) ?_ ?_
        refine Z1A rfl rfl rfl (by kernel_rfl) (Z0l w0 _ b _ nv (A - 1) HL (by omega) (by omega) (by omega)) fun e w3 hR=>?_
        obtain ⟨a,rfl,ha0,ha1,HL,e1⟩:=hR
        replace eS:=eS.trans e1
        replace q11:=(e1).keep q11 (by simp;omega)
        replace orr:=Zq orr e1 (by simp;omega)
        replace G:=G.trans' e1 (fun i hi hl=>by simp only [List.mem_cons,List.not_mem_nil,or_false] at hi ⊢;omega)
        refine ⟨_,_,rfl,(by simp only [ls,lz];exact rfl),fun _=>eS,?_⟩
        refine Z0X (i:=14) (j:=16) (by kernel_rfl) ?_ ?_
        refine Z1A rfl rfl rfl (by kernel_rfl) (Z0l w0 _ b _ nv (T - 1) HL (by omega) (by omega) (by omega)) fun e w4 hR=>?_
        obtain ⟨i,rfl,hi0,hi1,HL,e1⟩:=hR
        replace eS:=eS.trans e1
        replace q11:=(e1).keep q11 (by simp;omega)
        replace orr:=Zq orr e1 (by simp;omega)
        replace G:=G.trans' e1 (fun i hi hl=>by simp only [List.mem_cons,List.not_mem_nil,or_false] at hi ⊢;omega)
        refine ⟨_,_,rfl,(by simp only [ls,lz];exact rfl),fun _=>eS,?_⟩
        refine Zk (i:=15) (last:=17) rfl rfl (by decide) (by kernel_rfl) (by kernel_rfl) (by kernel_rfl) (by kernel_rfl) (by kernel_rfl) (fun _ _ _ h=>h) rfl rfl (fun w' hS=>ZZ rfl (cells:=#[.int .i64 s,.int .i64 a,.int .i64 i,.int .i64 0]) (by kernel_rfl)) eS (by simp only [ls,lz];exact rfl) ?_
        refine Z1z (i:=16) rfl (by kernel_rfl) rfl rfl (ZB rfl Try.zeroValue66) (by simp only [ls,lz];exact rfl) fun w5 hw=>?_
        replace eS:=Z2 eS hw
        obtain ⟨n23,hn⟩:∃ n,n = w4.heap.size:=⟨_,rfl⟩
        rw [← hn]
        have l23:wq.heap.size ≤ n23:=by rw [hn];exact G.size
        have b23_HL:=Nat.lt_of_lt_of_eq (Z0c HL) hn.symm
        have m23_11:n11 < n23:=by rw [hn];exact Z7 q11
        have o23_orr:=Lib.hid (Zo orr hn)
        replace q11:=Z1 hw q11
        replace HL:=ZV hw HL
        replace orr:=Zc hw orr
        have q23:=Zr hw hn
        replace G:=Z2 G hw
        clear hw hn
        refine ⟨fun _=>eS,?_⟩
        refine Z0o (o:=_) rfl (by kernel_rfl) rfl rfl (Zg rfl rfl rfl (by kernel_rfl) (by simp [Value.oneCell']) q23 rfl) (by kernel_rfl) fun w6 hw=>?_
        replace q11:=Z5 hw q11 (by omega)
        replace q23:=Zz hw q23 rfl
        replace HL:=Z0d hw HL (by omega) (by omega)
        replace orr:=Zu hw orr o23_orr.out
        replace G:=Za G hw (fun h=>by first | exact absurd h (by omega) | simp)
        clear hw
        refine Z0p (by kernel_rfl) ?_ _
        clear q11_ hh eS
        rotate_left
        refine Z1l rfl rfl rfl (ZB rfl Try.zeroValue66) (by simp only [ls,lz];exact rfl) fun w4 hw=>?_
        replace eS:=Z2 eS hw
        obtain ⟨n23,hn⟩:∃ n,n = w3.heap.size:=⟨_,rfl⟩
        rw [← hn]
        have l23:wq.heap.size ≤ n23:=by rw [hn];exact G.size
        have b23_HL:=Nat.lt_of_lt_of_eq (Z0c HL) hn.symm
        have m23_11:n11 < n23:=by rw [hn];exact Z7 q11
        have o23_orr:=Lib.hid (Zo orr hn)
        replace q11:=Z1 hw q11
        replace HL:=ZV hw HL
        replace orr:=Zc hw orr
        have q23:=Zr hw hn
        replace G:=Z2 G hw
        clear hw hn
        refine ⟨fun _=>eS,?_⟩
        refine Z0e (i:=14) rfl (by kernel_rfl) rfl rfl (by kernel_rfl) (Z0l w0 _ b _ nv (T - 1) HL (by omega) (by omega) (by omega)) fun e w5 hR=>?_
        obtain ⟨i,rfl,hi0,hi1,HL,e1⟩:=hR
        replace eS:=eS.trans e1
        replace q11:=(e1).keep q11 (by simp;omega)
        replace q23:=(e1).keep q23 (by simp;omega)
        replace orr:=Zq orr e1 (by simp;omega)
        replace G:=G.trans' e1 (fun i hi hl=>by simp only [List.mem_cons,List.not_mem_nil,or_false] at hi ⊢;omega)
        refine ⟨_,_,rfl,(by simp only [ls,lz];exact rfl),eS,?_⟩
        refine Zk (i:=15) (last:=17) rfl rfl (by decide) (by kernel_rfl) (by kernel_rfl) (by kernel_rfl) (by kernel_rfl) (by kernel_rfl) (fun _ _ _ h=>h) rfl rfl (fun w' hS=>ZZ rfl (cells:=#[.int .i64 s,.int .i64 a,.int .i64 i,.int .i64 0]) (by kernel_rfl)) eS (by simp only [ls,lz];exact rfl) ?_
        refine Z0o (o:=_) rfl (by kernel_rfl) rfl rfl (Zg rfl rfl rfl (by kernel_rfl) (by simp [Value.oneCell']) q23 rfl) (by kernel_rfl) fun w6 hw=>?_
        replace q11:=Z5 hw q11 (by omega)
        replace q23:=Zz hw q23 rfl
        replace HL:=Z0d hw HL (by omega) (by omega)
        replace orr:=Zu hw orr o23_orr.out
        replace G:=Za G hw (fun h=>by first | exact absurd h (by omega) | simp)
        clear hw
        refine Z0p (by kernel_rfl) ?_ _
        clear q11_ hh eS
        rotate_left
        refine Z1l rfl rfl rfl (ZB rfl Try.zeroValue66) (by simp only [ls,lz];exact rfl) fun w3 hw=>?_
        replace eS:=Z2 eS hw
        obtain ⟨n23,hn⟩:∃ n,n = w2.heap.size:=⟨_,rfl⟩
        rw [← hn]
        have l23:wq.heap.size ≤ n23:=by rw [hn];exact G.size
        have b23_HL:=Nat.lt_of_lt_of_eq (Z0c HL) hn.symm
        have m23_11:n11 < n23:=by rw [hn];exact Z7 q11
        have o23_orr:=Lib.hid (Zo orr hn)
        replace q11:=Z1 hw q11
        replace HL:=ZV hw HL
        replace orr:=Zc hw orr
        have q23:=Zr hw hn
        replace G:=Z2 G hw
        clear hw hn
        refine ⟨fun _=>eS,?_⟩
        refine Z0e (i:=9) rfl (by kernel_rfl) rfl rfl (by kernel_rfl) (Z0l w0 _ b _ nv (A - 1) HL (by omega) (by omega) (by omega)) fun e w4 hR=>?_
        obtain ⟨a,rfl,ha0,ha1,HL,e1⟩:=hR
        replace eS:=eS.trans e1
        replace q11:=(e1).keep q11 (by simp;omega)
        replace q23:=(e1).keep q23 (by simp;omega)
        replace orr:=Zq orr e1 (by simp;omega)
        replace G:=G.trans' e1 (fun i hi hl=>by simp only [List.mem_cons,List.not_mem_nil,or_false] at hi ⊢;omega)
        refine ⟨_,_,rfl,(by simp only [ls,lz];exact rfl),eS,?_⟩
        refine Z0e (i:=14) rfl (by kernel_rfl) rfl rfl (by kernel_rfl) (Z0l w0 _ b _ nv (T - 1) HL (by omega) (by omega) (by omega)) fun e w5 hR=>?_
        obtain ⟨i,rfl,hi0,hi1,HL,e1⟩:=hR
        replace eS:=eS.trans e1
        replace q11:=(e1).keep q11 (by simp;omega)
        replace q23:=(e1).keep q23 (by simp;omega)
        replace orr:=Zq orr e1 (by simp;omega)
        replace G:=G.trans' e1 (fun i hi hl=>by simp only [List.mem_cons,List.not_mem_nil,or_false] at hi ⊢;omega)
        refine ⟨_,_,rfl,(by simp only [ls,lz];exact rfl),eS,?_⟩
        refine Zk (i:=15) (last:=17) rfl rfl (by decide) (by kernel_rfl) (by kernel_rfl) (by kernel_rfl) (by kernel_rfl) (by kernel_rfl) (fun _ _ _ h=>h) rfl rfl (fun w' hS=>ZZ rfl (cells:=#[.int .i64 s,.int .i64 a,.int .i64 i,.int .i64 0]) (by kernel_rfl)) eS (by simp only [ls,lz];exact rfl) ?_
        refine Z0o (o:=_) rfl (by kernel_rfl) rfl rfl (Zg rfl rfl rfl (by kernel_rfl) (by simp [Value.oneCell']) q23 rfl) (by kernel_rfl) fun w6 hw=>?_
        replace q11:=Z5 hw q11 (by omega)
        replace q23:=Zz hw q23 rfl
        replace HL:=Z0d hw HL (by omega) (by omega)
        replace orr:=Zu hw orr o23_orr.out
        replace G:=Za G hw (fun h=>by first | exact absurd h (by omega) | simp)
        clear hw
        refine Z0p (by kernel_rfl) ?_ _
        clear q11_ hh eS
        rotate_left
        refine Z1l rfl rfl rfl (ZB rfl Try.zeroValue66) (by simp only [ls,lz];exact rfl) fun w2 hw=>?_
        replace eS:=Z2 eS hw
        obtain ⟨n23,hn⟩:∃ n,n = w1.heap.size:=⟨_,rfl⟩
        rw [← hn]
        have l23:wq.heap.size ≤ n23:=by rw [hn];exact G.size
        have b23_HL:=Nat.lt_of_lt_of_eq (Z0c HL) hn.symm
        have m23_11:n11 < n23:=by rw [hn];exact Z7 q11
        have o23_orr:=Lib.hid (Zo orr hn)
        replace q11:=Z1 hw q11
        replace HL:=ZV hw HL
        replace orr:=Zc hw orr
        have q23:=Zr hw hn
        replace G:=Z2 G hw
        clear hw hn
        refine ⟨fun _=>eS,?_⟩
        refine Z0e (i:=4) rfl (by kernel_rfl) rfl rfl (by kernel_rfl) (Z0l w0 _ b _ nv (S - 1) HL (by omega) (by omega) (by omega)) fun e w3 hR=>?_
        obtain ⟨s,rfl,hs0,hs1,HL,e1⟩:=hR
        replace eS:=eS.trans e1
        replace q11:=(e1).keep q11 (by simp;omega)
        replace q23:=(e1).keep q23 (by simp;omega)
        replace orr:=Zq orr e1 (by simp;omega)
        replace G:=G.trans' e1 (fun i hi hl=>by simp only [List.mem_cons,List.not_mem_nil,or_false] at hi ⊢;omega)
        refine ⟨_,_,rfl,(by simp only [ls,lz];exact rfl),eS,?_⟩
        refine Z0e (i:=9) rfl (by kernel_rfl) rfl rfl (by kernel_rfl) (Z0l w0 _ b _ nv (A - 1) HL (by omega) (by omega) (by omega)) fun e w4 hR=>?_
        obtain ⟨a,rfl,ha0,ha1,HL,e1⟩:=hR
        replace eS:=eS.trans e1
        replace q11:=(e1).keep q11 (by simp;omega)
        replace q23:=(e1).keep q23 (by simp;omega)
        replace orr:=Zq orr e1 (by simp;omega)
        replace G:=G.trans' e1 (fun i hi hl=>by simp only [List.mem_cons,List.not_mem_nil,or_false] at hi ⊢;omega)
        refine ⟨_,_,rfl,(by simp only [ls,lz];exact rfl),eS,?_⟩
        refine Z0e (i:=14) rfl (by kernel_rfl) rfl rfl (by kernel_rfl) (Z0l w0 _ b _ nv (T - 1) HL (by omega) (by omega) (by omega)) fun e w5 hR=>?_
        obtain ⟨i,rfl,hi0,hi1,HL,e1⟩:=hR
        replace eS:=eS.trans e1
        replace q11:=(e1).keep q11 (by simp;omega)
        replace q23:=(e1).keep q23 (by simp;omega)
        replace orr:=Zq orr e1 (by simp;omega)
        replace G:=G.trans' e1 (fun i hi hl=>by simp only [List.mem_cons,List.not_mem_nil,or_false] at hi ⊢;omega)
        refine ⟨_,_,rfl,(by simp only [ls,lz];exact rfl),eS,?_⟩
        refine Zk (i:=15) (last:=17) rfl rfl (by decide) (by kernel_rfl) (by kernel_rfl) (by kernel_rfl) (by kernel_rfl) (by kernel_rfl) (fun _ _ _ h=>h) rfl rfl (fun w' hS=>ZZ rfl (cells:=#[.int .i64 s,.int .i64 a,.int .i64 i,.int .i64 0]) (by kernel_rfl)) eS (by simp only [ls,lz];exact rfl) ?_
        refine Z0o (o:=_) rfl (by kernel_rfl) rfl rfl (Zg rfl rfl rfl (by kernel_rfl) (by simp [Value.oneCell']) q23 rfl) (by kernel_rfl) fun w6 hw=>?_
        replace q11:=Z5 hw q11 (by omega)
        replace q23:=Zz hw q23 rfl
        replace HL:=Z0d hw HL (by omega) (by omega)
        replace orr:=Zu hw orr o23_orr.out
        replace G:=Za G hw (fun h=>by first | exact absurd h (by omega) | simp)
        clear hw
        refine Z0p (by kernel_rfl) ?_ _
        clear q11_ hh eS
        all_goals
         go_wp2_with fail
         go_meet
         case rel=>exact ⟨_,s,a,i,rfl,hs0,by omega,ha0,by omega,hi0,by omega,by omega,o23_orr,q23,q11,orr,Z0t HL (by omega),G⟩
       case rest =>
        clear HL G q11 orr
        obtain ⟨n23,s,a,i,rfl,hs0,hs1,ha0,ha1,hi0,hi1,hn23,o23_orr,q23,q11,orr,HL,G⟩:=hcut
        obtain ⟨hrow,hmb1,hmb2⟩:=hOk.at (s:=s.toNat) (a:=a.toNat) (by omega) (by omega)
        have hrl:=hrow.len
        have hpb:=hps _ (Z0m (l:=ps) (i:=i.toNat) 0 (by omega))
        obtain ⟨bo,br,bc,hva,hcl⟩:=Z46 om hms (s:=s.toNat) (a:=a.toNat) (by omega) (by omega)
        obtain ⟨bp,hpa,hcp⟩:=Z9s ho (a:=i.toNat) (by omega)
        subst hva hpa
        have hc1:Hid (∀ W:World,Ext [b] wc W → W.cell? ⟨bo,0 + s.toNat * 1,none⟩ = some (.slice (some ⟨br,0,none⟩) (ms.getD s.toNat []).length bc) ∧ W.cell? ⟨br,0 + a.toNat * 1,none⟩ = some (.int .i64 ((ms.getD s.toNat []).getD a.toNat 0))):=fun W hW =>
         hcl [b,n11] W (by simp;omega) (G.trans' hW (by simp))
        have hc2:Hid (∀ W:World,Ext [b] wc W → W.cell? ⟨bp,0 + i.toNat * 1,none⟩ = some (.int .i64 (ps.getD i.toNat 0))):=fun W hW =>
         hcp [b,n11] W (by simp;omega) (G.trans' hW (by simp))
        clear hcl hcp hrow
        obtain ⟨m,hm⟩:∃ m,m = (ms.getD s.toNat []).getD a.toNat 0:=⟨_,rfl⟩
        obtain ⟨rl,hrl'⟩:∃ rl,rl = (ms.getD s.toNat []).length:=⟨_,rfl⟩
        obtain ⟨p,hp⟩:∃ p,p = ps.getD i.toNat 0:=⟨_,rfl⟩
        rw [← hm] at hmb1 hmb2 hc1
        rw [← hrl'] at hrl hc1
        rw [← hp] at hpb hc2
        have Hm:=Lib.hid hm
        have Hp:=Lib.hid hp
        clear hm hp hrl'
        go_upto_region 33 with (fail)
        refine Z16 (Ext [b] wc) 24 follows fun w51 hh eS=>?_
        have q11_:=q11
        have q23_:=q23
        replace q11:=Zn hh q11
        replace q23:=Zn hh q23
        replace orr:=ZW hh orr
        replace G:=Z4 G eS
        replace HL:=Z1V eS HL
        replace eS:=eS.mono (Y:=[b]) (by simp)
        refine Zk (i:=0) (last:=24) rfl rfl (by decide) (by kernel_rfl) (by kernel_rfl) (by kernel_rfl) (by kernel_rfl) (by kernel_rfl) (fun _ _ _ h=>h) rfl rfl (fun w' hS=>Zi (v:=.slice _ _ _) rfl rfl) eS (by simp only [ls,lz];exact rfl) ?_
        refine Zk (i:=1) (last:=24) rfl rfl (by decide) (by kernel_rfl) (by kernel_rfl) (by kernel_rfl) (by kernel_rfl) (by kernel_rfl) (fun _ _ _ h=>h) rfl rfl (fun w' hS=>Z9 rfl rfl Try.underlying66 rfl (n:=0) (sz:=1) rfl (by kernel_rfl) (by decide)) eS (by simp only [ls,lz];exact rfl) ?_
        refine Zk (i:=2) (last:=24) rfl rfl (by decide) (by kernel_rfl) (by kernel_rfl) (by kernel_rfl) (by kernel_rfl) (by kernel_rfl) (fun _ _ _ h=>h) rfl rfl (fun w' hS=>Zh rfl rfl Try.underlying3 rfl ((Z0 (hS.keep q23_ (by simp;omega)) 0).trans (get0))) eS (by simp only [ls,lz];exact rfl) ?_
        refine Zk (i:=3) (last:=24) rfl rfl (by decide) (by kernel_rfl) (by kernel_rfl) (by kernel_rfl) (by kernel_rfl) (by kernel_rfl) (fun _ _ _ h=>h) rfl rfl (fun w' hS=>ZJ (sz:=1) rfl rfl rfl Try.underlying50 (by kernel_rfl) (by omega) (by omega)) eS (by simp only [ls,lz];exact rfl) ?_
        refine Zk (i:=4) (last:=24) rfl rfl (by decide) (by kernel_rfl) (by kernel_rfl) (by kernel_rfl) (by kernel_rfl) (by kernel_rfl) (fun _ _ _ h=>h) rfl rfl (fun w' hS=>Zh (v:=.slice (some ⟨br,0,none⟩) rl bc) rfl rfl Try.underlying29 rfl (hc1.out _ hS).1) eS (by simp only [ls,lz];exact rfl) ?_
        refine Zk (i:=5) (last:=24) rfl rfl (by decide) (by kernel_rfl) (by kernel_rfl) (by kernel_rfl) (by kernel_rfl) (by kernel_rfl) (fun _ _ _ h=>h) rfl rfl (fun w' hS=>Z9 rfl rfl Try.underlying66 rfl (n:=1) (sz:=1) rfl (by kernel_rfl) (by decide)) eS (by simp only [ls,lz];exact rfl) ?_
        refine Zk (i:=6) (last:=24) rfl rfl (by decide) (by kernel_rfl) (by kernel_rfl) (by kernel_rfl) (by kernel_rfl) (by kernel_rfl) (fun _ _ _ h=>h) rfl rfl (fun w' hS=>Zh rfl rfl Try.underlying3 rfl ((Z0 (hS.keep q23_ (by simp;omega)) 1).trans (getS (get0)))) eS (by simp only [ls,lz];exact rfl) ?_
        refine Zk (i:=7) (last:=24) rfl rfl (by decide) (by kernel_rfl) (by kernel_rfl) (by kernel_rfl) (by kernel_rfl) (by kernel_rfl) (fun _ _ _ h=>h) rfl rfl (fun w' hS=>ZJ (sz:=1) rfl rfl rfl Try.underlying29 (by kernel_rfl) (by omega) (by omega)) eS (by simp only [ls,lz];exact rfl) ?_
        refine Zk (i:=8) (last:=24) rfl rfl (by decide) (by kernel_rfl) (by kernel_rfl) (by kernel_rfl) (by kernel_rfl) (by kernel_rfl) (fun _ _ _ h=>h) rfl rfl (fun w' hS=>Zh (v:=.int .i64 m) rfl rfl Try.underlying3 rfl (hc1.out _ hS).2) eS (by simp only [ls,lz];exact rfl) ?_
        refine Zk (i:=9) (last:=24) rfl rfl (by decide) (by kernel_rfl) (by kernel_rfl) (by kernel_rfl) (by kernel_rfl) (by kernel_rfl) (fun _ _ _ h=>h) rfl rfl (fun w' hS=>Zi (v:=.slice _ _ _) rfl rfl) eS (by simp only [ls,lz];exact rfl) ?_
        refine Zk (i:=10) (last:=24) rfl rfl (by decide) (by kernel_rfl) (by kernel_rfl) (by kernel_rfl) (by kernel_rfl) (by kernel_rfl) (fun _ _ _ h=>h) rfl rfl (fun w' hS=>Z9 rfl rfl Try.underlying66 rfl (n:=2) (sz:=1) rfl (by kernel_rfl) (by decide)) eS (by simp only [ls,lz];exact rfl) ?_
        refine Zk (i:=11) (last:=24) rfl rfl (by decide) (by kernel_rfl) (by kernel_rfl) (by kernel_rfl) (by kernel_rfl) (by kernel_rfl) (fun _ _ _ h=>h) rfl rfl (fun w' hS=>Zh rfl rfl Try.underlying3 rfl ((Z0 (hS.keep q23_ (by simp;omega)) 2).trans (getS (getS (get0))))) eS (by simp only [ls,lz];exact rfl) ?_
        refine Zk (i:=12) (last:=24) rfl rfl (by decide) (by kernel_rfl) (by kernel_rfl) (by kernel_rfl) (by kernel_rfl) (by kernel_rfl) (fun _ _ _ h=>h) rfl rfl (fun w' hS=>ZJ (sz:=1) rfl rfl rfl Try.underlying29 (by kernel_rfl) (by omega) (by omega)) eS (by simp only [ls,lz];exact rfl) ?_
        refine Zk (i:=13) (last:=24) rfl rfl (by decide) (by kernel_rfl) (by kernel_rfl) (by kernel_rfl) (by kernel_rfl) (by kernel_rfl) (fun _ _ _ h=>h) rfl rfl (fun w' hS=>Zh (v:=.int .i64 p) rfl rfl Try.underlying3 rfl (hc2.out _ hS)) eS (by simp only [ls,lz];exact rfl) ?_
        refine Zk (i:=14) (last:=24) rfl rfl (by decide) (by kernel_rfl) (by kernel_rfl) (by kernel_rfl) (by kernel_rfl) (by kernel_rfl) (fun _ _ _ h=>h) rfl rfl (fun w' hS=>Z0F rfl rfl rfl (by omega) (by omega)) eS (by simp only [ls,lz];exact rfl) ?_
        refine Zk (i:=15) (last:=24) rfl rfl (by decide) (by kernel_rfl) (by kernel_rfl) (by kernel_rfl) (by kernel_rfl) (by kernel_rfl) (fun _ _ _ h=>h) rfl rfl (fun w' hS=>Zi (v:=.pointer (some ⟨_,_,none⟩)) rfl rfl) eS (by simp only [ls,lz];exact rfl) ?_
        refine Zk (i:=16) (last:=24) rfl rfl (by decide) (by kernel_rfl) (by kernel_rfl) (by kernel_rfl) (by kernel_rfl) (by kernel_rfl) (fun _ _ _ h=>h) rfl rfl (fun w' hS=>Z9 rfl rfl Try.underlying28 rfl (n:=7) (sz:=1) rfl (by kernel_rfl) (by decide)) eS (by simp only [ls,lz];exact rfl) ?_
        refine Zk (i:=17) (last:=24) rfl rfl (by decide) (by kernel_rfl) (by kernel_rfl) (by kernel_rfl) (by kernel_rfl) (by kernel_rfl) (fun _ _ _ h=>h) rfl rfl (fun w' hS=>Zh rfl rfl Try.underlying3 rfl ((Z0 (hS.keep q11_ (by simp;omega)) 7).trans (getS (getS (getS (getS (getS (getS (getS (get0)))))))))) eS (by simp only [ls,lz];exact rfl) ?_
        refine Zk (i:=18) (last:=24) rfl rfl (by decide) (by kernel_rfl) (by kernel_rfl) (by kernel_rfl) (by kernel_rfl) (by kernel_rfl) (fun _ _ _ h=>h) rfl rfl (fun w' hS=>Z6D rfl rfl (by omega) (by omega)) eS (by simp only [ls,lz];exact rfl) ?_
        refine Zk (i:=19) (last:=24) rfl rfl (by decide) (by kernel_rfl) (by kernel_rfl) (by kernel_rfl) (by kernel_rfl) (by kernel_rfl) (fun _ _ _ h=>h) rfl rfl (fun w' hS=>Z9 rfl rfl Try.underlying28 rfl (n:=7) (sz:=1) rfl (by kernel_rfl) (by decide)) eS (by simp only [ls,lz];exact rfl) ?_
        refine Zk (i:=20) (last:=24) rfl rfl (by decide) (by kernel_rfl) (by kernel_rfl) (by kernel_rfl) (by kernel_rfl) (by kernel_rfl) (fun _ _ _ h=>h) rfl rfl (fun w' hS=>Zh rfl rfl Try.underlying3 rfl ((Z0 (hS.keep q11_ (by simp;omega)) 7).trans (getS (getS (getS (getS (getS (getS (getS (get0)))))))))) eS (by simp only [ls,lz];exact rfl) ?_
        refine Z0e (i:=21) rfl (by kernel_rfl) rfl rfl (by kernel_rfl) (Z4a w0 _ b _ nv (-sl) sl HL (by omega) (by omega) (by omega) (by omega) (by omega)) fun e w52 hR=>?_
        obtain ⟨d,rfl,hd1,hd2,HL,e1⟩:=hR
        replace eS:=eS.trans e1
        replace q11:=(e1).keep q11 (by simp;omega)
        replace q23:=(e1).keep q23 (by simp;omega)
        replace orr:=Zq orr e1 (by simp;omega)
        replace G:=G.trans' e1 (fun i hi hl=>by simp only [List.mem_cons,List.not_mem_nil,or_false] at hi ⊢;omega)
        refine ⟨_,_,rfl,(by simp only [ls,lz];exact rfl),eS,?_⟩
        refine Zk (i:=22) (last:=24) rfl rfl (by decide) (by kernel_rfl) (by kernel_rfl) (by kernel_rfl) (by kernel_rfl) (by kernel_rfl) (fun _ _ _ h=>h) rfl rfl (fun w' hS=>Z0F rfl rfl rfl (by omega) (by omega)) eS (by simp only [ls,lz];exact rfl) ?_
        refine Zk (i:=23) (last:=24) rfl rfl (by decide) (by kernel_rfl) (by kernel_rfl) (by kernel_rfl) (by kernel_rfl) (by kernel_rfl) (fun _ _ _ h=>h) rfl rfl (fun w' hS=>Z9 rfl rfl Try.underlying66 rfl (n:=3) (sz:=1) rfl (by kernel_rfl) (by decide)) eS (by simp only [ls,lz];exact rfl) ?_
        refine Z0o (o:=_) rfl (by kernel_rfl) rfl rfl (ZR (v:=.int .i64 _) rfl rfl rfl rfl (by kernel_rfl) ((Z0 q23 3).trans (getS (getS (getS (get0))))) (Zl q23 3)) (by kernel_rfl) fun w53 hw=>?_
        replace q11:=ZA hw q11 (by omega)
        replace q23:=ZK hw q23 (by simp only [List.setIfInBounds_toArray,ls,lz];exact rfl)
        replace HL:=Z1p hw HL (by omega) (by omega)
        replace orr:=Ze hw orr o23_orr.out
        replace G:=ZF G hw (fun h=>by first | exact absurd h (by omega) | simp)
        clear hw
        refine Z0p (by kernel_rfl) ?_ _
        clear q11_ q23_ hh eS
        clear hc1 hc2
        go_upto_region 34 with (fail)
        refine wp_region_lit ?_
        refine Z3 rfl rfl (Z9 rfl rfl Try.underlying28 rfl (n:=9) (sz:=1) rfl (by kernel_rfl) (by decide)) (by simp only [ls,lz];exact rfl) ?_
        refine Z3 rfl rfl (Zh rfl rfl Try.underlying25 rfl ((Z0 q11 9).trans (getS (getS (getS (getS (getS (getS (getS (getS (getS (get0)))))))))))) (by simp only [ls,lz];exact rfl) ?_
        refine Z3 rfl rfl (Zt rfl rfl Try.underlying66 rfl (by kernel_rfl) q23) (by simp only [ls,lz];exact rfl) ?_
        refine Zy rfl rfl (ZE rfl Try.underlying25 (size:=4) (by kernel_rfl) (by decide) (by decide) Try.zeroValue66 (cells:=#[.int .i64 s,.int .i64 a,.int .i64 i,.int .i64 (m + p + d)]) (by kernel_rfl)) (by simp only [ls,lz];exact rfl) fun w54 hw=>?_
        obtain ⟨n202,hn⟩:∃ n,n = w53.heap.size:=⟨_,rfl⟩
        rw [← hn]
        have l202:wq.heap.size ≤ n202:=by rw [hn];exact G.size
        have b202_HL:=Nat.lt_of_lt_of_eq (Z0c HL) hn.symm
        have m202_11:n11 < n202:=by rw [hn];exact Z7 q11
        have m202_23:n23 < n202:=by rw [hn];exact Z7 q23
        have o202_orr:=Lib.hid (Zo orr hn)
        replace q11:=Z1 hw q11
        replace q23:=Z1 hw q23
        replace HL:=ZV hw HL
        replace orr:=Zc hw orr
        have q202:=Zw hw hn
        replace G:=Z2 G hw
        clear hw hn
        have hszR:=Z7 q202
        refine Z1G rfl rfl rfl (nR) (e:=66) (size:=4) (bytes:=32) Try.underlying25 (by kernel_rfl) (by decide) rfl orr rfl q202 rfl (by simp [Value.oneCell']) (by omega) (by omega) (by omega) fun v' w55 hown' hg=>?_
        obtain ⟨va203,vc203,rfl⟩:=Zs hown'
        replace q11:=Zb orr hg q11 (by decide)
        replace HL:=Z0O HL orr hg (by omega) (by decide)
        replace G:=Zd G orr hg (by omega)
        have hgsz:=hg.size
        replace orr:=hown'
        clear hg
        refine ⟨_,(by simp only [ls,lz];exact rfl),?_⟩
        refine Z3 rfl rfl (Z9 rfl rfl Try.underlying28 rfl (n:=9) (sz:=1) rfl (by kernel_rfl) (by decide)) (by simp only [ls,lz];exact rfl) ?_
        refine ZY rfl rfl (ZR (v:=.slice _ _ _) rfl rfl rfl rfl (by kernel_rfl) ((Z0 q11 9).trans rfl) (Zl q11 9)) fun w56 hw=>?_
        replace q11:=ZK hw q11 (by simp only [List.setIfInBounds_toArray,ls,lz];exact rfl)
        replace HL:=Z1p hw HL (by omega) (by omega)
        replace orr:=Z1q hw orr (by omega)
        replace G:=ZF G hw (fun h=>by first | exact absurd h (by omega) | simp)
        clear hw
        refine wpList_nil ?_
        have hro:RdOk S A T sl ms ps (s,a,i,m + p + d):=⟨hs0,hs1,ha0,ha1,hi0,hi1,by simp only;rw [← Hm.out,← Hp.out];omega,by simp only;rw [← Hm.out,← Hp.out];omega⟩
        have hrs2:∀ r ∈ rs ++ [(s,a,i,m + p + d)],RdOk S A T sl ms ps r:=fun r hr=>by
         rcases List.mem_append.1 hr with hr | hr
         ·exact hrs r hr
         ·simp at hr;subst hr;exact hro
        go_wp2
        go_roundw
        case rel =>
         exact ⟨j,rs ++ [(s,a,i,m + p + d)],_,_,by rw [List.length_append,List.length_singleton];omega,congrArg (Value.int .i64) (by omega),hrs2,by rw [List.length_append,List.length_singleton];exact q11,by rw [Z7V,List.length_append,List.length_singleton];exact orr,Z0t HL (by rw [List.length_append,List.length_singleton];omega),G⟩
        case measure=>simp [intOf]
      ·obtain rfl:j = 0:=by omega
       have hrl5:rs.length ≤ 5:=by omega
       clear hjr hj
       have hj0:¬ (0:Int) < ((0:Nat):Int):=by omega
       replace Ex:=Ex.trans' G (fun i hi hl=>by simp only [List.mem_cons,List.not_mem_nil,or_false] at hi ⊢;omega)
       replace om:=Zq om G (by simp;omega)
       replace og:=Zq og G (by simp;omega)
       replace ho:=Zq ho G (by simp;omega)
       replace q8:=G.keep q8 (by simp;omega)
       replace hms:=Z0r hms fun v n xs h=>Zq h G (by simp;omega)
       replace orr:=ZH orr (show n11 + 1 ≤ nR by omega)
       replace HL:=Z0t HL (show k + 44 + 4 * rs.length ≤ k + 64 by omega)
       clear G hsz11q hnR
       obtain ⟨wl,hwl⟩:∃ wl,wl = wr:=⟨_,rfl⟩
       subst hwl
       obtain ⟨nL,hnL⟩:∃ nL,nL = wl.heap.size:=⟨_,rfl⟩
       have G:Ext [b,n11] wl wl:=Ext.refl _ _
       have hszl:=Ex.size
       have hsz11l:=Z7 q11
       go_upto_region 30 with (fail)
       refine wp_region_lit ?_
       refine Z3 rfl rfl (Zi (v:=.int .i64 _) rfl rfl) (by simp only [ls,lz];exact rfl) ?_
       refine Z3 rfl rfl (Z4J rfl rfl rfl) (by simp only [ls,lz];exact rfl) ?_
       refine wpList_nil ?_
       go_upto_region 35 with (fail)
       refine wp_region_lit ?_
       refine Z3 rfl rfl (Zi (v:=.pointer (some ⟨_,_,none⟩)) rfl rfl) (by simp only [ls,lz];exact rfl) ?_
       refine Zy rfl rfl (ZE rfl Try.underlying29 (size:=1) (by kernel_rfl) (by decide) (by decide) Try.zeroValue3 (cells:=#[.int .i64 0,.int .i64 0,.int .i64 1,.int .i64 2]) (by kernel_rfl)) (by simp only [ls,lz];exact rfl) fun w71 hw=>?_
       obtain ⟨n206,hn⟩:∃ n,n = wl.heap.size:=⟨_,rfl⟩
       rw [← hn]
       have l206:wl.heap.size ≤ n206:=by rw [hn];exact G.size
       have b206_HL:=Nat.lt_of_lt_of_eq (Z0c HL) hn.symm
       have m206_11:n11 < n206:=by rw [hn];exact Z7 q11
       replace q11:=Z1 hw q11
       replace HL:=ZV hw HL
       have q206:=Zw hw hn
       replace G:=Z2 G hw
       clear hw hn
       refine ZC rfl rfl (by kernel_rfl) (Z3r w0 _ b _ nv n206 _ [0,0,1,2] HL (by omega) q206 (by omega) (by decide) (by decide)) fun e w72 hR=>?_
       obtain ⟨many,rfl,hm,HL,e1⟩:=hR
       refine ⟨_,_,rfl,(by simp only [ls,lz];exact rfl),?_⟩
       replace q11:=(e1).keep q11 (by simp;omega)
       replace q206:=(e1).keep q206 (by simp;omega)
       replace G:=G.trans' e1 (fun i hi hl=>by simp only [List.mem_cons,List.not_mem_nil,or_false] at hi ⊢;omega)
       refine Z3 rfl rfl (Z8 (v:=.int .i64 _) rfl rfl) (by simp only [ls,lz];exact rfl) ?_
       refine wpList_nil ?_
       clear e1 q206
       replace hm:0 ≤ many ∧ many ≤ 2:=by simp at hm;omega
       obtain ⟨hm1,hm2⟩:=hm
       obtain ⟨many,rfl⟩:=Int.eq_ofNat_of_zero_le hm1
       have hm3:many ≤ 2:=by omega
       go_wp2_with fail
       go_loopw [24] (fun iv wr=>∃ (j:Nat) (ks:List (Int × Int × Int × Int × Int × Int)) (la:Option Addr) (lc:Nat),j ≤ 2 ∧ j + ks.length ≤ 2 ∧ iv = .int .i64 j ∧ (∀ l ∈ ks,LkOk S A ms l) ∧
        wr.heap[n11]? = some (.cells #[.int .i64 S,.int .i64 A,.int .i64 T,.int .i64 bl,.int .i64 (bl + wd),.int .i64 (-p1),.int .i64 p2,.int .i64 sl,.slice ga gs.length gc,.slice ra rs.length rc,.slice la ks.length lc] 28 (0,0)) ∧ wr.ownsRow nL 75 6 (.slice la ks.length lc) ks.length (Z4z ks) ∧ Z0v w0 wr b (k + 65 + 6 * (2 - j)) nv ∧ Ext [b,n11] wl wr) (fun iv _=>(intOf iv).toNat)
       case atStart=>exact ⟨many,[],none,0,by omega,by simp;omega,rfl,fun p h=>by simp at h,q11,World.ownsRow_nil _ _ _ _,Z0t HL (by omega),G⟩
       case round =>
        clear HL G q11 hm1 hm2 hm3
        obtain ⟨j,ks,la,lc,hj2,hjr,rfl,hks,q11,olk,HL,G⟩:=hrel
        by_cases hj:0 < j
        ·have hj1:(0:Int) < (j:Int):=by omega
         obtain ⟨kk,hkk⟩:∃ kk,kk = 2 - j:=⟨_,rfl⟩
         rw [← hkk] at HL
         have hkk1:kk ≤ 1:=by omega
         have hkk2:kk + 1 = 2 - (j - 1):=by omega
         have Hkk:=Lib.hid hkk2
         clear hkk hkk2
         go_upto_region 36 with (fail)
         refine wp_region_lit ?_
         refine Z3 rfl rfl (Zi (v:=.int .i64 _) rfl rfl) (by simp only [ls,lz];exact rfl) ?_
         refine Z3 rfl rfl (Z4J rfl rfl rfl) (by simp only [ls,lz];exact rfl) ?_
         refine wpList_nil ?_
         go_upto_region 38 with (fail)
         go_cut [25] from 212 to 232 (fun pv wc=>∃ (n25:Nat) (s a o h:Int),pv = .pointer (some ⟨n25,0,none⟩) ∧ 0 ≤ s ∧ s < S ∧ 0 ≤ a ∧ a < A ∧ 0 ≤ o ∧ o < S ∧ 0 ≤ h ∧ h < A ∧ nL ≤ n25 ∧ Hid (some n25 ≠ Value.ownBlock (.slice la ks.length lc)) ∧ wc.heap[n25]? = some (.cells #[.int .i64 s,.int .i64 a,.int .i64 o,.int .i64 h,.int .i64 0,.int .i64 0] 75 (0,0)) ∧
          wc.heap[n11]? = some (.cells #[.int .i64 S,.int .i64 A,.int .i64 T,.int .i64 bl,.int .i64 (bl + wd),.int .i64 (-p1),.int .i64 p2,.int .i64 sl,.slice ga gs.length gc,.slice ra rs.length rc,.slice la ks.length lc] 28 (0,0)) ∧ wc.ownsRow nL 75 6 (.slice la ks.length lc) ks.length (Z4z ks) ∧ Z0v w0 wc b (k + 69 + 6 * kk) nv ∧ Ext [b,n11] wl wc)
         case first =>
          refine Z16 (Ext [b] wr) 22 follows fun w1 hh eS=>?_
          have q11_:=q11
          replace q11:=Zn hh q11
          replace olk:=ZW hh olk
          replace G:=Z4 G eS
          replace HL:=Z1V eS HL
          replace eS:=eS.mono (Y:=[b]) (by simp)
          refine Zk (i:=0) (last:=22) rfl rfl (by decide) (by kernel_rfl) (by kernel_rfl) (by kernel_rfl) (by kernel_rfl) (by kernel_rfl) (fun _ _ _ h=>h) rfl rfl (fun w' hS=>Zi (v:=.pointer (some ⟨_,_,none⟩)) rfl rfl) eS (by simp only [ls,lz];exact rfl) ?_
          refine Zk (i:=1) (last:=22) rfl rfl (by decide) (by kernel_rfl) (by kernel_rfl) (by kernel_rfl) (by kernel_rfl) (by kernel_rfl) (fun _ _ _ h=>h) rfl rfl (fun w' hS=>Z9 rfl rfl Try.underlying28 rfl (n:=0) (sz:=1) rfl (by kernel_rfl) (by decide)) eS (by simp only [ls,lz];exact rfl) ?_
          refine Zk (i:=2) (last:=22) rfl rfl (by decide) (by kernel_rfl) (by kernel_rfl) (by kernel_rfl) (by kernel_rfl) (by kernel_rfl) (fun _ _ _ h=>h) rfl rfl (fun w' hS=>Zh rfl rfl Try.underlying3 rfl ((Z0 (hS.keep q11_ (by simp;omega)) 0).trans (get0))) eS (by simp only [ls,lz];exact rfl) ?_
          refine Zk (i:=3) (last:=22) rfl rfl (by decide) (by kernel_rfl) (by kernel_rfl) (by kernel_rfl) (by kernel_rfl) (by kernel_rfl) (fun _ _ _ h=>h) rfl rfl (fun w' hS=>Z1I rfl rfl rfl (by omega) (by omega)) eS (by simp only [ls,lz];exact rfl) ?_
          refine Zk (i:=5) (last:=22) rfl rfl (by decide) (by kernel_rfl) (by kernel_rfl) (by kernel_rfl) (by kernel_rfl) (by kernel_rfl) (fun _ _ _ h=>h) rfl rfl (fun w' hS=>Zi (v:=.pointer (some ⟨_,_,none⟩)) rfl rfl) eS (by simp only [ls,lz];exact rfl) ?_
          refine Zk (i:=6) (last:=22) rfl rfl (by decide) (by kernel_rfl) (by kernel_rfl) (by kernel_rfl) (by kernel_rfl) (by kernel_rfl) (fun _ _ _ h=>h) rfl rfl (fun w' hS=>Z9 rfl rfl Try.underlying28 rfl (n:=1) (sz:=1) rfl (by kernel_rfl) (by decide)) eS (by simp only [ls,lz];exact rfl) ?_
          refine Zk (i:=7) (last:=22) rfl rfl (by decide) (by kernel_rfl) (by kernel_rfl) (by kernel_rfl) (by kernel_rfl) (by kernel_rfl) (fun _ _ _ h=>h) rfl rfl (fun w' hS=>Zh rfl rfl Try.underlying3 rfl ((Z0 (hS.keep q11_ (by simp;omega)) 1).trans (getS (get0)))) eS (by simp only [ls,lz];exact rfl) ?_
          refine Zk (i:=8) (last:=22) rfl rfl (by decide) (by kernel_rfl) (by kernel_rfl) (by kernel_rfl) (by kernel_rfl) (by kernel_rfl) (fun _ _ _ h=>h) rfl rfl (fun w' hS=>Z1I rfl rfl rfl (by omega) (by omega)) eS (by simp only [ls,lz];exact rfl) ?_
          refine Zk (i:=10) (last:=22) rfl rfl (by decide) (by kernel_rfl) (by kernel_rfl) (by kernel_rfl) (by kernel_rfl) (by kernel_rfl) (fun _ _ _ h=>h) rfl rfl (fun w' hS=>Zi (v:=.pointer (some ⟨_,_,none⟩)) rfl rfl) eS (by simp only [ls,lz];exact rfl) ?_
          refine Zk (i:=11) (last:=22) rfl rfl (by decide) (by kernel_rfl) (by kernel_rfl) (by kernel_rfl) (by kernel_rfl) (by kernel_rfl) (fun _ _ _ h=>h) rfl rfl (fun w' hS=>Z9 rfl rfl Try.underlying28 rfl (n:=0) (sz:=1) rfl (by kernel_rfl) (by decide)) eS (by simp only [ls,lz];exact rfl) ?_
          refine Zk (i:=12) (last:=22) rfl rfl (by decide) (by kernel_rfl) (by kernel_rfl) (by kernel_rfl) (by kernel_rfl) (by kernel_rfl) (fun _ _ _ h=>h) rfl rfl (fun w' hS=>Zh rfl rfl Try.underlying3 rfl ((Z0 (hS.keep q11_ (by simp;omega)) 0).trans (get0))) eS (by simp only [ls,lz];exact rfl) ?_
          refine Zk (i:=13) (last:=22) rfl rfl (by decide) (by kernel_rfl) (by kernel_rfl) (by kernel_rfl) (by kernel_rfl) (by kernel_rfl) (fun _ _ _ h=>h) rfl rfl (fun w' hS=>Z1I rfl rfl rfl (by omega) (by omega)) eS (by simp only [ls,lz];exact rfl) ?_
          refine Zk (i:=15) (last:=22) rfl rfl (by decide) (by kernel_rfl) (by kernel_rfl) (by kernel_rfl) (by kernel_rfl) (by kernel_rfl) (fun _ _ _ h=>h) rfl rfl (fun w' hS=>Zi (v:=.pointer (some ⟨_,_,none⟩)) rfl rfl) eS (by simp only [ls,lz];exact rfl) ?_
          refine Zk (i:=16) (last:=22) rfl rfl (by decide) (by kernel_rfl) (by kernel_rfl) (by kernel_rfl) (by kernel_rfl) (by kernel_rfl) (fun _ _ _ h=>h) rfl rfl (fun w' hS=>Z9 rfl rfl Try.underlying28 rfl (n:=1) (sz:=1) rfl (by kernel_rfl) (by decide)) eS (by simp only [ls,lz];exact rfl) ?_
          refine Zk (i:=17) (last:=22) rfl rfl (by decide) (by kernel_rfl) (by kernel_rfl) (by kernel_rfl) (by kernel_rfl) (by kernel_rfl) (fun _ _ _ h=>h) rfl rfl (fun w' hS=>Zh rfl rfl Try.underlying3 rfl ((Z0 (hS.keep q11_ (by simp;omega)) 1).trans (getS (get0)))) eS (by simp only [ls,lz];exact rfl) ?_
          refine Zk (i:=18) (last:=22) rfl rfl (by decide) (by kernel_rfl) (by kernel_rfl) (by kernel_rfl) (by kernel_rfl) (by kernel_rfl) (fun _ _ _ h=>h) rfl rfl (fun w' hS=>Z1I rfl rfl rfl (by omega) (by omega)) eS (by simp only [ls,lz];exact rfl) ?_
          refine Z0X (i:=4) (j:=21) (by kernel_rfl) ?_ ?_
          refine Z1A rfl rfl rfl (by kernel_rfl) (Z0l w0 _ b _ nv (S - 1) HL (by omega) (by omega) (by omega)) fun e w2 hR=>?_
          obtain ⟨s,rfl,hs0,hs1,HL,e1⟩:=hR
          replace eS:=eS.trans e1
          replace q11:=(e1).keep q11 (by simp;omega)
          replace olk:=Zq olk e1 (by simp;omega)
          replace G:=G.trans' e1 (fun i hi hl=>by simp only [List.mem_cons,List.not_mem_nil,or_false] at hi ⊢;omega)
          refine ⟨_,_,rfl,(by simp only [ls,lz];exact rfl),fun _=>eS,?_⟩
          refine Z0X (i:=9) (j:=21) (by kernel_rfl) ?_ ?_
          refine Z1A rfl rfl rfl (by kernel_rfl) (Z0l w0 _ b _ nv (A - 1) HL (by omega) (by omega) (by omega)) fun e w3 hR=>?_
          obtain ⟨a,rfl,ha0,ha1,HL,e1⟩:=hR
          replace eS:=eS.trans e1
          replace q11:=(e1).keep q11 (by simp;omega)
          replace olk:=Zq olk e1 (by simp;omega)
          replace G:=G.trans' e1 (fun i hi hl=>by simp only [List.mem_cons,List.not_mem_nil,or_false] at hi ⊢;omega)
          refine ⟨_,_,rfl,(by simp only [ls,lz];exact rfl),fun _=>eS,?_⟩
          refine Z0X (i:=14) (j:=21) (by kernel_rfl) ?_ ?_
          refine Z1A rfl rfl rfl (by kernel_rfl) (Z0l w0 _ b _ nv (S - 1) HL (by omega) (by omega) (by omega)) fun e w4 hR=>?_
          obtain ⟨o,rfl,ho0,ho1,HL,e1⟩:=hR
          replace eS:=eS.trans e1
          replace q11:=(e1).keep q11 (by simp;omega)
          replace olk:=Zq olk e1 (by simp;omega)
          replace G:=G.trans' e1 (fun i hi hl=>by simp only [List.mem_cons,List.not_mem_nil,or_false] at hi ⊢;omega)
          refine ⟨_,_,rfl,(by simp only [ls,lz];exact rfl),fun _=>eS,?_⟩
          refine Z0X (i:=19) (j:=21) (by kernel_rfl) ?_ ?_
          refine Z1A rfl rfl rfl (by kernel_rfl) (Z0l w0 _ b _ nv (A - 1) HL (by omega) (by omega) (by omega)) fun e w5 hR=>?_
          obtain ⟨h,rfl,hh0,hh1,HL,e1⟩:=hR
          replace eS:=eS.trans e1
          replace q11:=(e1).keep q11 (by simp;omega)
          replace olk:=Zq olk e1 (by simp;omega)
          replace G:=G.trans' e1 (fun i hi hl=>by simp only [List.mem_cons,List.not_mem_nil,or_false] at hi ⊢;omega)
          refine ⟨_,_,rfl,(by simp only [ls,lz];exact rfl),fun _=>eS,?_⟩
          refine Zk (i:=20) (last:=22) rfl rfl (by decide) (by kernel_rfl) (by kernel_rfl) (by kernel_rfl) (by kernel_rfl) (by kernel_rfl) (fun _ _ _ h=>h) rfl rfl (fun w' hS=>ZZ rfl (cells:=#[.int .i64 s,.int .i64 a,.int .i64 o,.int .i64 h,.int .i64 0,.int .i64 0]) (by kernel_rfl)) eS (by simp only [ls,lz];exact rfl) ?_
          refine Z1z (i:=21) rfl (by kernel_rfl) rfl rfl (ZB rfl Try.zeroValue75) (by simp only [ls,lz];exact rfl) fun w6 hw=>?_
          replace eS:=Z2 eS hw
          obtain ⟨n25,hn⟩:∃ n,n = w5.heap.size:=⟨_,rfl⟩
          rw [← hn]
          have l25:wl.heap.size ≤ n25:=by rw [hn];exact G.size
          have b25_HL:=Nat.lt_of_lt_of_eq (Z0c HL) hn.symm
          have m25_11:n11 < n25:=by rw [hn];exact Z7 q11
          have o25_olk:=Lib.hid (Zo olk hn)
          replace q11:=Z1 hw q11
          replace HL:=ZV hw HL
          replace olk:=Zc hw olk
          have q25:=Zr hw hn
          replace G:=Z2 G hw
          clear hw hn
          refine ⟨fun _=>eS,?_⟩
          refine Z0o (o:=_) rfl (by kernel_rfl) rfl rfl (Zg rfl rfl rfl (by kernel_rfl) (by simp [Value.oneCell']) q25 rfl) (by kernel_rfl) fun w7 hw=>?_
          replace q11:=Z5 hw q11 (by omega)
          replace q25:=Zz hw q25 rfl
          replace HL:=Z0d hw HL (by omega) (by omega)
          replace olk:=Zu hw olk o25_olk.out
          replace G:=Za G hw (fun h=>by first | exact absurd h (by omega) | simp)
          clear hw
          refine Z0p (by kernel_rfl) ?_ _
          clear q11_ hh eS
          rotate_left
          refine Z1l rfl rfl rfl (ZB rfl Try.zeroValue75) (by simp only [ls,lz];exact rfl) fun w5 hw=>?_
          replace eS:=Z2 eS hw
          obtain ⟨n25,hn⟩:∃ n,n = w4.heap.size:=⟨_,rfl⟩
          rw [← hn]
          have l25:wl.heap.size ≤ n25:=by rw [hn];exact G.size
          have b25_HL:=Nat.lt_of_lt_of_eq (Z0c HL) hn.symm
          have m25_11:n11 < n25:=by rw [hn];exact Z7 q11
          have o25_olk:=Lib.hid (Zo olk hn)
          replace q11:=Z1 hw q11
          replace HL:=ZV hw HL
          replace olk:=Zc hw olk
          have q25:=Zr hw hn
          replace G:=Z2 G hw
          clear hw hn
          refine ⟨fun _=>eS,?_⟩
          refine Z0e (i:=19) rfl (by kernel_rfl) rfl rfl (by kernel_rfl) (Z0l w0 _ b _ nv (A - 1) HL (by omega) (by omega) (by omega)) fun e w6 hR=>?_
          obtain ⟨h,rfl,hh0,hh1,HL,e1⟩:=hR
          replace eS:=eS.trans e1
          replace q11:=(e1).keep q11 (by simp;omega)
          replace q25:=(e1).keep q25 (by simp;omega)
          replace olk:=Zq olk e1 (by simp;omega)
          replace G:=G.trans' e1 (fun i hi hl=>by simp only [List.mem_cons,List.not_mem_nil,or_false] at hi ⊢;omega)
          refine ⟨_,_,rfl,(by simp only [ls,lz];exact rfl),eS,?_⟩
          refine Zk (i:=20) (last:=22) rfl rfl (by decide) (by kernel_rfl) (by kernel_rfl) (by kernel_rfl) (by kernel_rfl) (by kernel_rfl) (fun _ _ _ h=>h) rfl rfl (fun w' hS=>ZZ rfl (cells:=#[.int .i64 s,.int .i64 a,.int .i64 o,.int .i64 h,.int .i64 0,.int .i64 0]) (by kernel_rfl)) eS (by simp only [ls,lz];exact rfl) ?_
          refine Z0o (o:=_) rfl (by kernel_rfl) rfl rfl (Zg rfl rfl rfl (by kernel_rfl) (by simp [Value.oneCell']) q25 rfl) (by kernel_rfl) fun w7 hw=>?_
          replace q11:=Z5 hw q11 (by omega)
          replace q25:=Zz hw q25 rfl
          replace HL:=Z0d hw HL (by omega) (by omega)
          replace olk:=Zu hw olk o25_olk.out
          replace G:=Za G hw (fun h=>by first | exact absurd h (by omega) | simp)
          clear hw
          refine Z0p (by kernel_rfl) ?_ _
          clear q11_ hh eS
          rotate_left
          refine Z1l rfl rfl rfl (ZB rfl Try.zeroValue75) (by simp only [ls,lz];exact rfl) fun w4 hw=>?_
          replace eS:=Z2 eS hw
          obtain ⟨n25,hn⟩:∃ n,n = w3.heap.size:=⟨_,rfl⟩
          rw [← hn]
          have l25:wl.heap.size ≤ n25:=by rw [hn];exact G.size
          have b25_HL:=Nat.lt_of_lt_of_eq (Z0c HL) hn.symm
          have m25_11:n11 < n25:=by rw [hn];exact Z7 q11
          have o25_olk:=Lib.hid (Zo olk hn)
          replace q11:=Z1 hw q11
          replace HL:=ZV hw HL
          replace olk:=Zc hw olk
          have q25:=Zr hw hn
          replace G:=Z2 G hw
          clear hw hn
          refine ⟨fun _=>eS,?_⟩
          refine Z0e (i:=14) rfl (by kernel_rfl) rfl rfl (by kernel_rfl) (Z0l w0 _ b _ nv (S - 1) HL (by omega) (by omega) (by omega)) fun e w5 hR=>?_
          obtain ⟨o,rfl,ho0,ho1,HL,e1⟩:=hR
          replace eS:=eS.trans e1
          replace q11:=(e1).keep q11 (by simp;omega)
          replace q25:=(e1).keep q25 (by simp;omega)
          replace olk:=Zq olk e1 (by simp;omega)
          replace G:=G.trans' e1 (fun i hi hl=>by simp only [List.mem_cons,List.not_mem_nil,or_false] at hi ⊢;omega)
          refine ⟨_,_,rfl,(by simp only [ls,lz];exact rfl),eS,?_⟩
          refine Z0e (i:=19) rfl (by kernel_rfl) rfl rfl (by kernel_rfl) (Z0l w0 _ b _ nv (A - 1) HL (by omega) (by omega) (by omega)) fun e w6 hR=>?_
          obtain ⟨h,rfl,hh0,hh1,HL,e1⟩:=hR
          replace eS:=eS.trans e1
          replace q11:=(e1).keep q11 (by simp;omega)
          replace q25:=(e1).keep q25 (by simp;omega)
          replace olk:=Zq olk e1 (by simp;omega)
          replace G:=G.trans' e1 (fun i hi hl=>by simp only [List.mem_cons,List.not_mem_nil,or_false] at hi ⊢;omega)
          refine ⟨_,_,rfl,(by simp only [ls,lz];exact rfl),eS,?_⟩
          refine Zk (i:=20) (last:=22) rfl rfl (by decide) (by kernel_rfl) (by kernel_rfl) (by kernel_rfl) (by kernel_rfl) (by kernel_rfl) (fun _ _ _ h=>h) rfl rfl (fun w' hS=>ZZ rfl (cells:=#[.int .i64 s,.int .i64 a,.int .i64 o,.int .i64 h,.int .i64 0,.int .i64 0]) (by kernel_rfl)) eS (by simp only [ls,lz];exact rfl) ?_
          refine Z0o (o:=_) rfl (by kernel_rfl) rfl rfl (Zg rfl rfl rfl (by kernel_rfl) (by simp [Value.oneCell']) q25 rfl) (by kernel_rfl) fun w7 hw=>?_
          replace q11:=Z5 hw q11 (by omega)
          replace q25:=Zz hw q25 rfl
          replace HL:=Z0d hw HL (by omega) (by omega)
          replace olk:=Zu hw olk o25_olk.out
          replace G:=Za G hw (fun h=>by first | exact absurd h (by omega) | simp)
          clear hw
          refine Z0p (by kernel_rfl) ?_ _
          clear q11_ hh eS
          rotate_left
          refine Z1l rfl rfl rfl (ZB rfl Try.zeroValue75) (by simp only [ls,lz];exact rfl) fun w3 hw=>?_
          replace eS:=Z2 eS hw
          obtain ⟨n25,hn⟩:∃ n,n = w2.heap.size:=⟨_,rfl⟩
          rw [← hn]
          have l25:wl.heap.size ≤ n25:=by rw [hn];exact G.size
          have b25_HL:=Nat.lt_of_lt_of_eq (Z0c HL) hn.symm
          have m25_11:n11 < n25:=by rw [hn];exact Z7 q11
          have o25_olk:=Lib.hid (Zo olk hn)
          replace q11:=Z1 hw q11
          replace HL:=ZV hw HL
          replace olk:=Zc hw olk
          have q25:=Zr hw hn
          replace G:=Z2 G hw
          clear hw hn
          refine ⟨fun _=>eS,?_⟩
          refine Z0e (i:=9) rfl (by kernel_rfl) rfl rfl (by kernel_rfl) (Z0l w0 _ b _ nv (A - 1) HL (by omega) (by omega) (by omega)) fun e w4 hR=>?_
          obtain ⟨a,rfl,ha0,ha1,HL,e1⟩:=hR
          replace eS:=eS.trans e1
          replace q11:=(e1).keep q11 (by simp;omega)
          replace q25:=(e1).keep q25 (by simp;omega)
          replace olk:=Zq olk e1 (by simp;omega)
          replace G:=G.trans' e1 (fun i hi hl=>by simp only [List.mem_cons,List.not_mem_nil,or_false] at hi ⊢;omega)
          refine ⟨_,_,rfl,(by simp only [ls,lz];exact rfl),eS,?_⟩
          refine Z0e (i:=14) rfl (by kernel_rfl) rfl rfl (by kernel_rfl) (Z0l w0 _ b _ nv (S - 1) HL (by omega) (by omega) (by omega)) fun e w5 hR=>?_
          obtain ⟨o,rfl,ho0,ho1,HL,e1⟩:=hR
          replace eS:=eS.trans e1
          replace q11:=(e1).keep q11 (by simp;omega)
          replace q25:=(e1).keep q25 (by simp;omega)
          replace olk:=Zq olk e1 (by simp;omega)
          replace G:=G.trans' e1 (fun i hi hl=>by simp only [List.mem_cons,List.not_mem_nil,or_false] at hi ⊢;omega)
          refine ⟨_,_,rfl,(by simp only [ls,lz];exact rfl),eS,?_⟩
          refine Z0e (i:=19) rfl (by kernel_rfl) rfl rfl (by kernel_rfl) (Z0l w0 _ b _ nv (A - 1) HL (by omega) (by omega) (by omega)) fun e w6 hR=>?_
          obtain ⟨h,rfl,hh0,hh1,HL,e1⟩:=hR
          replace eS:=eS.trans e1
          replace q11:=(e1).keep q11 (by simp;omega)
          replace q25:=(e1).keep q25 (by simp;omega)
          replace olk:=Zq olk e1 (by simp;omega)
          replace G:=G.trans' e1 (fun i hi hl=>by simp only [List.mem_cons,List.not_mem_nil,or_false] at hi ⊢;omega)
          refine ⟨_,_,rfl,(by simp only [ls,lz];exact rfl),eS,?_⟩
          refine Zk (i:=20) (last:=22) rfl rfl (by decide) (by kernel_rfl) (by kernel_rfl) (by kernel_rfl) (by kernel_rfl) (by kernel_rfl) (fun _ _ _ h=>h) rfl rfl (fun w' hS=>ZZ rfl (cells:=#[.int .i64 s,.int .i64 a,.int .i64 o,.int .i64 h,.int .i64 0,.int .i64 0]) (by kernel_rfl)) eS (by simp only [ls,lz];exact rfl) ?_
          refine Z0o (o:=_) rfl (by kernel_rfl) rfl rfl (Zg rfl rfl rfl (by kernel_rfl) (by simp [Value.oneCell']) q25 rfl) (by kernel_rfl) fun w7 hw=>?_
          replace q11:=Z5 hw q11 (by omega)
          replace q25:=Zz hw q25 rfl
          replace HL:=Z0d hw HL (by omega) (by omega)
          replace olk:=Zu hw olk o25_olk.out
          replace G:=Za G hw (fun h=>by first | exact absurd h (by omega) | simp)
          clear hw
          refine Z0p (by kernel_rfl) ?_ _
          clear q11_ hh eS
          rotate_left
          refine Z1l rfl rfl rfl (ZB rfl Try.zeroValue75) (by simp only [ls,lz];exact rfl) fun w2 hw=>?_
          replace eS:=Z2 eS hw
          obtain ⟨n25,hn⟩:∃ n,n = w1.heap.size:=⟨_,rfl⟩
          rw [← hn]
          have l25:wl.heap.size ≤ n25:=by rw [hn];exact G.size
          have b25_HL:=Nat.lt_of_lt_of_eq (Z0c HL) hn.symm
          have m25_11:n11 < n25:=by rw [hn];exact Z7 q11
          have o25_olk:=Lib.hid (Zo olk hn)
          replace q11:=Z1 hw q11
          replace HL:=ZV hw HL
          replace olk:=Zc hw olk
          have q25:=Zr hw hn
          replace G:=Z2 G hw
          clear hw hn
          refine ⟨fun _=>eS,?_⟩
          refine Z0e (i:=4) rfl (by kernel_rfl) rfl rfl (by kernel_rfl) (Z0l w0 _ b _ nv (S - 1) HL (by omega) (by omega) (by omega)) fun e w3 hR=>?_
          obtain ⟨s,rfl,hs0,hs1,HL,e1⟩:=hR
          replace eS:=eS.trans e1
          replace q11:=(e1).keep q11 (by simp;omega)
          replace q25:=(e1).keep q25 (by simp;omega)
          replace olk:=Zq olk e1 (by simp;omega)
          replace G:=G.trans' e1 (fun i hi hl=>by simp only [List.mem_cons,List.not_mem_nil,or_false] at hi ⊢;omega)
          refine ⟨_,_,rfl,(by simp only [ls,lz];exact rfl),eS,?_⟩
          refine Z0e (i:=9) rfl (by kernel_rfl) rfl rfl (by kernel_rfl) (Z0l w0 _ b _ nv (A - 1) HL (by omega) (by omega) (by omega)) fun e w4 hR=>?_
          obtain ⟨a,rfl,ha0,ha1,HL,e1⟩:=hR
          replace eS:=eS.trans e1
          replace q11:=(e1).keep q11 (by simp;omega)
          replace q25:=(e1).keep q25 (by simp;omega)
          replace olk:=Zq olk e1 (by simp;omega)
          replace G:=G.trans' e1 (fun i hi hl=>by simp only [List.mem_cons,List.not_mem_nil,or_false] at hi ⊢;omega)
          refine ⟨_,_,rfl,(by simp only [ls,lz];exact rfl),eS,?_⟩
          refine Z0e (i:=14) rfl (by kernel_rfl) rfl rfl (by kernel_rfl) (Z0l w0 _ b _ nv (S - 1) HL (by omega) (by omega) (by omega)) fun e w5 hR=>?_
          obtain ⟨o,rfl,ho0,ho1,HL,e1⟩:=hR
          replace eS:=eS.trans e1
          replace q11:=(e1).keep q11 (by simp;omega)
          replace q25:=(e1).keep q25 (by simp;omega)
          replace olk:=Zq olk e1 (by simp;omega)
          replace G:=G.trans' e1 (fun i hi hl=>by simp only [List.mem_cons,List.not_mem_nil,or_false] at hi ⊢;omega)
          refine ⟨_,_,rfl,(by simp only [ls,lz];exact rfl),eS,?_⟩
          refine Z0e (i:=19) rfl (by kernel_rfl) rfl rfl (by kernel_rfl) (Z0l w0 _ b _ nv (A - 1) HL (by omega) (by omega) (by omega)) fun e w6 hR=>?_
          obtain ⟨h,rfl,hh0,hh1,HL,e1⟩:=hR
          replace eS:=eS.trans e1
          replace q11:=(e1).keep q11 (by simp;omega)
          replace q25:=(e1).keep q25 (by simp;omega)
          replace olk:=Zq olk e1 (by simp;omega)
          replace G:=G.trans' e1 (fun i hi hl=>by simp only [List.mem_cons,List.not_mem_nil,or_false] at hi ⊢;omega)
          refine ⟨_,_,rfl,(by simp only [ls,lz];exact rfl),eS,?_⟩
          refine Zk (i:=20) (last:=22) rfl rfl (by decide) (by kernel_rfl) (by kernel_rfl) (by kernel_rfl) (by kernel_rfl) (by kernel_rfl) (fun _ _ _ h=>h) rfl rfl (fun w' hS=>ZZ rfl (cells:=#[.int .i64 s,.int .i64 a,.int .i64 o,.int .i64 h,.int .i64 0,.int .i64 0]) (by kernel_rfl)) eS (by simp only [ls,lz];exact rfl) ?_
          refine Z0o (o:=_) rfl (by kernel_rfl) rfl rfl (Zg rfl rfl rfl (by kernel_rfl) (by simp [Value.oneCell']) q25 rfl) (by kernel_rfl) fun w7 hw=>?_
          replace q11:=Z5 hw q11 (by omega)
          replace q25:=Zz hw q25 rfl
          replace HL:=Z0d hw HL (by omega) (by omega)
          replace olk:=Zu hw olk o25_olk.out
          replace G:=Za G hw (fun h=>by first | exact absurd h (by omega) | simp)
          clear hw
          refine Z0p (by kernel_rfl) ?_ _
          clear q11_ hh eS
          all_goals
           go_wp2_with fail
           go_meet
           case rel=>exact ⟨_,s,a,o,h,rfl,hs0,by omega,ha0,by omega,ho0,by omega,hh0,by omega,by omega,o25_olk,q25,q11,olk,Z0t HL (by omega),G⟩
         case rest =>
          clear HL G q11 olk
          obtain ⟨n25,s,a,o,h,rfl,hs0,hs1,ha0,ha1,ho0,ho1,hh0,hh1,hn25,o25_olk,q25,q11,olk,HL,G⟩:=hcut
          obtain ⟨wk,hwk⟩:∃ wk,wk = wc:=⟨_,rfl⟩
          subst hwk
          go_upto_region 39 with (fail)
          go_cut [244] from 208 to 243 (fun v wx=>v = .bool (decide (s = o ∧ a = h)) ∧ wx = wk)
          case first =>
           have c25_0:=(Z0 q25 0).trans rfl
           have c25_1:=(Z0 q25 1).trans rfl
           have c25_2:=(Z0 q25 2).trans rfl
           have c25_3:=(Z0 q25 3).trans rfl
           by_cases hso:s = o
           ·subst hso
            by_cases hah:a = h
            ·subst hah
             go_wp2_with fail
             refine Met.intro ?_
             go_step
             (repeat apply Exists.intro)
             refine ⟨?rel,?fr⟩
             case fr=>congr 1
             case rel=>exact ⟨by simp,rfl⟩
            ·have hb:(a == h) = false:=by simpa using hah
             go_wp2_with fail
             refine Met.intro ?_
             go_step
             (repeat apply Exists.intro)
             refine ⟨?rel,?fr⟩
             case fr=>congr 1
             case rel=>exact ⟨by simp [hah],rfl⟩
           ·have hb:(s == o) = false:=by simpa using hso
            go_wp2_with fail
            refine Met.intro ?_
            go_step
            (repeat apply Exists.intro)
            refine ⟨?rel,?fr⟩
            case fr=>congr 1
            case rel=>exact ⟨by simp [hso],rfl⟩
          case rest =>
           obtain ⟨rfl,hx⟩:=hcut
           subst hx
           obtain ⟨wk,hwk⟩:∃ wk,wk = wc:=⟨_,rfl⟩
           subst hwk
           by_cases hne:s = o ∧ a = h
           ·have hb:decide (s = o ∧ a = h) = true:=decide_eq_true hne
            go_wp2
            go_roundw
            case rel=>exact ⟨j - 1,ks,la,lc,by omega,by omega,congrArg (Value.int .i64) (by omega),hks,q11,olk,Z0t HL (by have:=Hkk.out;omega),G⟩
            case measure=>simp [intOf];omega
           ·have hb:decide (s = o ∧ a = h) = false:=decide_eq_false hne
            obtain ⟨hrow,hmb1,hmb2⟩:=hOk.at (s:=s.toNat) (a:=a.toNat) (by omega) (by omega)
            have hrl:=hrow.len
            obtain ⟨hrow2,hmb3,hmb4⟩:=hOk.at (s:=o.toNat) (a:=h.toNat) (by omega) (by omega)
            have hrl2:=hrow2.len
            obtain ⟨bo,br,bc,hva,hcl⟩:=Z46 om hms (s:=s.toNat) (a:=a.toNat) (by omega) (by omega)
            obtain ⟨bo2,br2,bc2,hva2,hcl2⟩:=Z46 om hms (s:=o.toNat) (a:=h.toNat) (by omega) (by omega)
            subst hva
            cases hva2
            clear hrow hrow2
            obtain ⟨m,hm⟩:∃ m,m = (ms.getD s.toNat []).getD a.toNat 0:=⟨_,rfl⟩
            obtain ⟨m2,hm2⟩:∃ m,m = (ms.getD o.toNat []).getD h.toNat 0:=⟨_,rfl⟩
            rw [← hm] at hmb1 hmb2
            rw [← hm2] at hmb3 hmb4
            have hc1:Hid (∀ W:World,Ext [] wk W → W.cell? ⟨bo,0 + s.toNat * 1,none⟩ = some (.slice (some ⟨br,0,none⟩) (ms.getD s.toNat []).length bc) ∧ W.cell? ⟨br,0 + a.toNat * 1,none⟩ = some (.int .i64 m)):=fun W hW=>by
             rw [hm];exact hcl [b,n11] W (by simp;omega) (G.nil hW)
            have hc2:Hid (∀ W:World,Ext [] wk W → W.cell? ⟨bo,0 + o.toNat * 1,none⟩ = some (.slice (some ⟨br2,0,none⟩) (ms.getD o.toNat []).length bc2) ∧ W.cell? ⟨br2,0 + h.toNat * 1,none⟩ = some (.int .i64 m2)):=fun W hW=>by
             rw [hm2];exact hcl2 [b,n11] W (by simp;omega) (G.nil hW)
            have Hm:=Lib.hid hm
            have Hm2:=Lib.hid hm2
            clear hm hm2 hcl hcl2
            go_upto_region 40 with (fail)
            refine Z11 (Ext [] wk) follows fun w91 hh eS=>?_
            have q11_:=q11
            have q25_:=q25
            replace q11:=Zn hh q11
            replace q25:=Zn hh q25
            replace olk:=ZW hh olk
            replace G:=Z4 G eS
            replace HL:=Z1V eS HL
            refine Zf (i:=0) rfl (by kernel_rfl) (by kernel_rfl) (by kernel_rfl) (fun _ _ _ h=>h) rfl rfl (fun w' hS=>Zi (v:=.slice _ _ _) rfl rfl) eS (by simp only [ls,lz];exact rfl) ?_
            refine Zf (i:=1) rfl (by kernel_rfl) (by kernel_rfl) (by kernel_rfl) (fun _ _ _ h=>h) rfl rfl (fun w' hS=>Z9 rfl rfl Try.underlying75 rfl (n:=0) (sz:=1) rfl (by kernel_rfl) (by decide)) eS (by simp only [ls,lz];exact rfl) ?_
            refine Zf (i:=2) rfl (by kernel_rfl) (by kernel_rfl) (by kernel_rfl) (fun _ _ _ h=>h) rfl rfl (fun w' hS=>Zh rfl rfl Try.underlying3 rfl ((Z0 (hS.keep q25_ (by simp)) 0).trans (get0))) eS (by simp only [ls,lz];exact rfl) ?_
            refine Zf (i:=3) rfl (by kernel_rfl) (by kernel_rfl) (by kernel_rfl) (fun _ _ _ h=>h) rfl rfl (fun w' hS=>ZJ (sz:=1) rfl rfl rfl Try.underlying50 (by kernel_rfl) (by omega) (by omega)) eS (by simp only [ls,lz];exact rfl) ?_
            refine Zf (i:=4) rfl (by kernel_rfl) (by kernel_rfl) (by kernel_rfl) (fun _ _ _ h=>h) rfl rfl (fun w' hS=>Zh (v:=.slice (some ⟨br,0,none⟩) _ bc) rfl rfl Try.underlying29 rfl (hc1.out _ hS).1) eS (by simp only [ls,lz];exact rfl) ?_
            refine Zf (i:=5) rfl (by kernel_rfl) (by kernel_rfl) (by kernel_rfl) (fun _ _ _ h=>h) rfl rfl (fun w' hS=>Z9 rfl rfl Try.underlying75 rfl (n:=1) (sz:=1) rfl (by kernel_rfl) (by decide)) eS (by simp only [ls,lz];exact rfl) ?_
            refine Zf (i:=6) rfl (by kernel_rfl) (by kernel_rfl) (by kernel_rfl) (fun _ _ _ h=>h) rfl rfl (fun w' hS=>Zh rfl rfl Try.underlying3 rfl ((Z0 (hS.keep q25_ (by simp)) 1).trans (getS (get0)))) eS (by simp only [ls,lz];exact rfl) ?_
            refine Zf (i:=7) rfl (by kernel_rfl) (by kernel_rfl) (by kernel_rfl) (fun _ _ _ h=>h) rfl rfl (fun w' hS=>ZJ (sz:=1) rfl rfl rfl Try.underlying29 (by kernel_rfl) (by omega) (by omega)) eS (by simp only [ls,lz];exact rfl) ?_
            refine Zf (i:=8) rfl (by kernel_rfl) (by kernel_rfl) (by kernel_rfl) (fun _ _ _ h=>h) rfl rfl (fun w' hS=>Zh (v:=.int .i64 m) rfl rfl Try.underlying3 rfl (hc1.out _ hS).2) eS (by simp only [ls,lz];exact rfl) ?_
            refine Zf (i:=9) rfl (by kernel_rfl) (by kernel_rfl) (by kernel_rfl) (fun _ _ _ h=>h) rfl rfl (fun w' hS=>Zi (v:=.slice _ _ _) rfl rfl) eS (by simp only [ls,lz];exact rfl) ?_
            refine Zf (i:=10) rfl (by kernel_rfl) (by kernel_rfl) (by kernel_rfl) (fun _ _ _ h=>h) rfl rfl (fun w' hS=>Z9 rfl rfl Try.underlying75 rfl (n:=2) (sz:=1) rfl (by kernel_rfl) (by decide)) eS (by simp only [ls,lz];exact rfl) ?_
            refine Zf (i:=11) rfl (by kernel_rfl) (by kernel_rfl) (by kernel_rfl) (fun _ _ _ h=>h) rfl rfl (fun w' hS=>Zh rfl rfl Try.underlying3 rfl ((Z0 (hS.keep q25_ (by simp)) 2).trans (getS (getS (get0))))) eS (by simp only [ls,lz];exact rfl) ?_
            refine Zf (i:=12) rfl (by kernel_rfl) (by kernel_rfl) (by kernel_rfl) (fun _ _ _ h=>h) rfl rfl (fun w' hS=>ZJ (sz:=1) rfl rfl rfl Try.underlying50 (by kernel_rfl) (by omega) (by omega)) eS (by simp only [ls,lz];exact rfl) ?_
            refine Zf (i:=13) rfl (by kernel_rfl) (by kernel_rfl) (by kernel_rfl) (fun _ _ _ h=>h) rfl rfl (fun w' hS=>Zh (v:=.slice (some ⟨br2,0,none⟩) _ bc2) rfl rfl Try.underlying29 rfl (hc2.out _ hS).1) eS (by simp only [ls,lz];exact rfl) ?_
            refine Zf (i:=14) rfl (by kernel_rfl) (by kernel_rfl) (by kernel_rfl) (fun _ _ _ h=>h) rfl rfl (fun w' hS=>Z9 rfl rfl Try.underlying75 rfl (n:=3) (sz:=1) rfl (by kernel_rfl) (by decide)) eS (by simp only [ls,lz];exact rfl) ?_
            refine Zf (i:=15) rfl (by kernel_rfl) (by kernel_rfl) (by kernel_rfl) (fun _ _ _ h=>h) rfl rfl (fun w' hS=>Zh rfl rfl Try.underlying3 rfl ((Z0 (hS.keep q25_ (by simp)) 3).trans (getS (getS (getS (get0)))))) eS (by simp only [ls,lz];exact rfl) ?_
            refine Zf (i:=16) rfl (by kernel_rfl) (by kernel_rfl) (by kernel_rfl) (fun _ _ _ h=>h) rfl rfl (fun w' hS=>ZJ (sz:=1) rfl rfl rfl Try.underlying29 (by kernel_rfl) (by omega) (by omega)) eS (by simp only [ls,lz];exact rfl) ?_
            refine Zf (i:=17) rfl (by kernel_rfl) (by kernel_rfl) (by kernel_rfl) (fun _ _ _ h=>h) rfl rfl (fun w' hS=>Zh (v:=.int .i64 m2) rfl rfl Try.underlying3 rfl (hc2.out _ hS).2) eS (by simp only [ls,lz];exact rfl) ?_
            refine Zf (i:=18) rfl (by kernel_rfl) (by kernel_rfl) (by kernel_rfl) (fun _ _ _ h=>h) rfl rfl (fun w' hS=>Z1I rfl rfl rfl (by omega) (by omega)) eS (by simp only [ls,lz];exact rfl) ?_
            refine Zf (i:=19) rfl (by kernel_rfl) (by kernel_rfl) (by kernel_rfl) (fun _ _ _ h=>h) rfl rfl (fun w' hS=>Z8 (v:=.int .i64 _) rfl rfl) eS (by simp only [ls,lz];exact rfl) ?_
            refine wpAnyH_done (by kernel_rfl) ?_ _
            clear q11_ q25_ hh eS
            clear hc1 hc2
            go_upto_region 41 with (fail)
            refine wp_region_lit ?_
            refine Z3 rfl rfl (Zi (v:=.int .i64 _) rfl rfl) (by simp only [ls,lz];exact rfl) ?_
            refine Z3 rfl rfl (Zi (v:=.pointer (some ⟨_,_,none⟩)) rfl rfl) (by simp only [ls,lz];exact rfl) ?_
            refine ZC rfl rfl (by kernel_rfl) (Z0l w0 _ b _ nv 3 HL (by omega) (by omega) (by omega)) fun e w92 hR=>?_
            obtain ⟨u,rfl,hu0,hu1,HL,e1⟩:=hR
            refine ⟨_,_,rfl,(by simp only [ls,lz];exact rfl),?_⟩
            replace q11:=(e1).keep q11 (by simp;omega)
            replace q25:=(e1).keep q25 (by simp;omega)
            replace olk:=Zq olk e1 (by simp;omega)
            replace G:=G.trans' e1 (fun i hi hl=>by simp only [List.mem_cons,List.not_mem_nil,or_false] at hi ⊢;omega)
            refine Z3 rfl rfl (Z1I rfl rfl rfl (by omega) (by omega)) (by simp only [ls,lz];exact rfl) ?_
            refine Z3 rfl rfl (Zi (v:=.int .i64 _) rfl rfl) (by simp only [ls,lz];exact rfl) ?_
            refine Z3 rfl rfl (Zi (v:=.pointer (some ⟨_,_,none⟩)) rfl rfl) (by simp only [ls,lz];exact rfl) ?_
            refine ZC rfl rfl (by kernel_rfl) (Z0l w0 _ b _ nv 3 HL (by omega) (by omega) (by omega)) fun e w93 hR=>?_
            obtain ⟨v,rfl,hv0,hv1,HL,e1⟩:=hR
            refine ⟨_,_,rfl,(by simp only [ls,lz];exact rfl),?_⟩
            replace q11:=(e1).keep q11 (by simp;omega)
            replace q25:=(e1).keep q25 (by simp;omega)
            replace olk:=Zq olk e1 (by simp;omega)
            replace G:=G.trans' e1 (fun i hi hl=>by simp only [List.mem_cons,List.not_mem_nil,or_false] at hi ⊢;omega)
            refine Z3 rfl rfl (Z0F rfl rfl rfl (by omega) (by omega)) (by simp only [ls,lz];exact rfl) ?_
            refine Z3 rfl rfl (ZZ rfl (cells:=#[.int .i64 (m - m2 - u),.int .i64 (m - m2 + v)]) (by kernel_rfl)) (by simp only [ls,lz];exact rfl) ?_
            refine Z3 rfl rfl (Z9 rfl rfl Try.underlying75 rfl (n:=4) (sz:=2) rfl (by kernel_rfl) (by decide)) (by simp only [ls,lz];exact rfl) ?_
            refine ZY rfl rfl (Z3Z rfl rfl rfl (by kernel_rfl) (by simp [Value.oneCell']) q25 (by simp)) fun w94 hw=>?_
            replace q11:=Z5 hw q11 (by omega)
            replace q25:=Z5F hw q25 (by simp only [List.setIfInBounds_toArray,ls,lz];exact rfl)
            replace HL:=Z0d hw HL (by omega) (by omega)
            replace olk:=Zu hw olk o25_olk.out
            replace G:=Za G hw (fun h=>by first | exact absurd h (by omega) | simp)
            clear hw
            refine wpList_nil ?_
            go_upto_region 42 with (fail)
            refine wp_region_lit ?_
            refine Z3 rfl rfl (Z9 rfl rfl Try.underlying28 rfl (n:=10) (sz:=1) rfl (by kernel_rfl) (by decide)) (by simp only [ls,lz];exact rfl) ?_
            refine Z3 rfl rfl (Zh rfl rfl Try.underlying26 rfl ((Z0 q11 10).trans (getS (getS (getS (getS (getS (getS (getS (getS (getS (getS (get0))))))))))))) (by simp only [ls,lz];exact rfl) ?_
            refine Z3 rfl rfl (Zt rfl rfl Try.underlying75 rfl (by kernel_rfl) q25) (by simp only [ls,lz];exact rfl) ?_
            refine Zy rfl rfl (ZE rfl Try.underlying26 (size:=6) (by kernel_rfl) (by decide) (by decide) Try.zeroValue75 (cells:=#[.int .i64 s,.int .i64 a,.int .i64 o,.int .i64 h,.int .i64 (m - m2 - u),.int .i64 (m - m2 + v)]) (by kernel_rfl)) (by simp only [ls,lz];exact rfl) fun w95 hw=>?_
            obtain ⟨n277,hn⟩:∃ n,n = w94.heap.size:=⟨_,rfl⟩
            rw [← hn]
            have l277:wl.heap.size ≤ n277:=by rw [hn];exact G.size
            have b277_HL:=Nat.lt_of_lt_of_eq (Z0c HL) hn.symm
            have m277_11:n11 < n277:=by rw [hn];exact Z7 q11
            have m277_25:n25 < n277:=by rw [hn];exact Z7 q25
            have o277_olk:=Lib.hid (Zo olk hn)
            replace q11:=Z1 hw q11
            replace q25:=Z1 hw q25
            replace HL:=ZV hw HL
            replace olk:=Zc hw olk
            have q277:=Zw hw hn
            replace G:=Z2 G hw
            clear hw hn
            have hszR:=Z7 q277
            refine Z1G rfl rfl rfl (nL) (e:=75) (size:=6) (bytes:=48) Try.underlying26 (by kernel_rfl) (by decide) rfl olk rfl q277 rfl (by simp [Value.oneCell']) (by omega) (by omega) (by omega) fun v' w96 hown' hg=>?_
            obtain ⟨va278,vc278,rfl⟩:=Zs hown'
            replace q11:=Zb olk hg q11 (by decide)
            replace HL:=Z0O HL olk hg (by omega) (by decide)
            replace G:=Zd G olk hg (by omega)
            have hgsz:=hg.size
            replace olk:=hown'
            clear hg
            refine ⟨_,(by simp only [ls,lz];exact rfl),?_⟩
            refine Z3 rfl rfl (Z9 rfl rfl Try.underlying28 rfl (n:=10) (sz:=1) rfl (by kernel_rfl) (by decide)) (by simp only [ls,lz];exact rfl) ?_
            refine ZY rfl rfl (ZR (v:=.slice _ _ _) rfl rfl rfl rfl (by kernel_rfl) ((Z0 q11 10).trans rfl) (Zl q11 10)) fun w97 hw=>?_
            replace q11:=ZK hw q11 (by simp only [List.setIfInBounds_toArray,ls,lz];exact rfl)
            replace HL:=Z1p hw HL (by omega) (by omega)
            replace olk:=Z1q hw olk (by omega)
            replace G:=ZF G hw (fun h=>by first | exact absurd h (by omega) | simp)
            clear hw
            refine wpList_nil ?_
            have hlo:LkOk S A ms (s,a,o,h,m - m2 - u,m - m2 + v):=by
             refine ⟨hs0,hs1,ha0,ha1,ho0,ho1,hh0,hh1,hne,?_,?_,?_,?_⟩ <;> simp only <;> rw [← Hm.out,← Hm2.out] <;> omega
            have hks2:∀ l ∈ ks ++ [(s,a,o,h,m - m2 - u,m - m2 + v)],LkOk S A ms l:=fun r hr=>by
             rcases List.mem_append.1 hr with hr | hr
             ·exact hks r hr
             ·simp at hr;subst hr;exact hlo
            go_wp2
            go_roundw
            case rel=>exact ⟨j - 1,ks ++ [(s,a,o,h,m - m2 - u,m - m2 + v)],_,_,by omega,by rw [List.length_append,List.length_singleton];omega,congrArg (Value.int .i64) (by omega),hks2,by rw [List.length_append,List.length_singleton];exact q11,by rw [Z82,List.length_append,List.length_singleton];exact olk,Z0t HL (by have:=Hkk.out;omega),G⟩
            case measure=>simp [intOf];omega
        ·obtain rfl:j = 0:=by omega
         have hkl:ks.length ≤ 2:=by omega
         have hj1:¬ (0:Int) < ((0:Nat):Int):=by omega
         replace q8:=G.keep q8 (by simp;omega)
         go_upto_region 36 with (fail)
         refine wp_region_lit ?_
         refine Z3 rfl rfl (Zi (v:=.int .i64 _) rfl rfl) (by simp only [ls,lz];exact rfl) ?_
         refine Z3 rfl rfl (Z4J rfl rfl rfl) (by simp only [ls,lz];exact rfl) ?_
         refine wpList_nil ?_
         replace Ex:=Ex.trans' G (fun i hi hl=>by simp only [List.mem_cons,List.not_mem_nil,or_false] at hi ⊢;omega)
         replace om:=Zq om G (by simp;omega)
         replace og:=Zq og G (by simp;omega)
         replace ho:=Zq ho G (by simp;omega)
         replace orr:=Zq orr G (by simp;omega)
         replace hms:=Z0r hms fun v n xs h=>Zq h G (by simp;omega)
         replace olk:=ZH olk (show n11 + 1 ≤ nL by omega)
         obtain ⟨kl,hkl0⟩:∃ kl,kl = ks.length:=⟨_,rfl⟩
         clear G
         go_upto_region 43 with (fail)
         refine wp_region_lit ?_
         refine Z3 rfl rfl (Zt rfl rfl Try.underlying28 rfl (by kernel_rfl) q11) (by simp only [ls,lz];exact rfl) ?_
         refine Z3 rfl rfl (Zi (v:=.slice _ _ _) rfl rfl) (by simp only [ls,lz];exact rfl) ?_
         refine Z3 rfl rfl (Zi (v:=.slice _ _ _) rfl rfl) (by simp only [ls,lz];exact rfl) ?_
         refine ZY rfl rfl (Zg rfl rfl rfl (by kernel_rfl) (by simp [Value.oneCell']) q8 hz8) fun w102 hw=>?_
         replace q11:=Z5 hw q11 (by omega)
         replace q8:=Zz hw q8 hz8
         replace HL:=Z0d hw HL (by omega) (by omega)
         replace og:=Z10 hw og (by omega)
         replace om:=Z10 hw om (by omega)
         replace ho:=Z10 hw ho (by omega)
         replace orr:=Z10 hw orr (by omega)
         replace olk:=Z10 hw olk (by omega)
         replace hms:=Z0r hms fun v n xs h=>Z10 hw h (by omega)
         replace Ex:=Za Ex hw (fun h=>by first | exact absurd h (by omega) | simp)
         clear hw
         refine Z3 rfl rfl (Z8 (v:=.slice _ _ _) rfl rfl) (by simp only [ls,lz];exact rfl) ?_
         refine Z3 rfl rfl (Z8 (v:=.slice _ _ _) rfl rfl) (by simp only [ls,lz];exact rfl) ?_
         refine wpList_nil ?_
         have hM:Made { S:=S,A:=A,T:=T,bl:=bl,bm:=bl + wd,pl:=-p1,pm:=p2,sl:=sl,gr:=gs,rd:=rs,lk:=ks } ms ps:=
          ⟨hS1,hS',hA1,hA',hT1,hT',hbl1,hbl',by show bl ≤ bl + wd;omega,by show bl + wd ≤ bl + 60;omega,by show -3 ≤ -p1;omega,by show -p1 ≤ 0;omega,hp2,hp2',hsl1.1,hsl1.2,hgl,hOk,hpl,hps,hrl5,hrs,hkl,hks⟩
         have HP:Hid (Z8G w0 w b k nv S0 A0 wd (.returned (.tuple #[.agg #[.int .i64 S,.int .i64 A,.int .i64 T,.int .i64 bl,.int .i64 (bl + wd),.int .i64 (-p1),.int .i64 p2,.int .i64 sl,.slice ga gs.length gc,.slice ra rs.length rc,.slice la ks.length lc],.slice va ms.length vc,.slice pa ps.length pc])) w102):=
          ⟨_,ms,ps,vs,_,_,_,_,_,rfl,hM,hSS,hAA,rfl,ZH og (by omega),ZH orr (by omega),ZH olk (by omega),ZH om (by omega),Z6G hms (by omega),ZH ho (by omega),Z0t HL (show k + 65 + 6 * (2 - 0) ≤ k + 100 by omega),Ex⟩
         have HP2:=HP.out
         rw [hml] at HP2
         replace HP2:=Lib.hid HP2
         go_wp2
         exact bodyPost_ret (ZaG rfl rfl Try.underlying28 rfl (by kernel_rfl) q8 rfl rfl) rfl HP2.out
end Go.Proofs.Ytholfdgebdlgjaa
