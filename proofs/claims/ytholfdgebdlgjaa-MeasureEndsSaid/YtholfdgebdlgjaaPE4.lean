/- Parts of a proof: Slv, Mea, Unt. No conditions. -/
import Derived.Test.YtholfdgebdlgjaaPE1
import Derived.Test.YtholfdgebdlgjaaPE2
import Derived.Test.YtholfdgebdlgjaaPE3
set_option linter.unusedVariables false
set_option linter.unusedSimpArgs false
namespace Go.Proofs.Ytholfdgebdlgjaa
open Go.RowKit
theorem Z3o {l m lo hi:Int}:Z1n l m lo hi = 0 ↔ (lo ≤ l ∧ l ≤ hi) ∧ (lo ≤ m ∧ m ≤ hi) ∧ l ≤ m:=by
 unfold Z1n
 rw [Z1h]
 constructor
 ·intro h
  have h1:=Z18.1 (h (Z0y l lo hi) (by simp))
  have h2:=Z18.1 (h (Z0y m lo hi) (by simp))
  have h3:=h (if m < l then 5 else 0) (by simp)
  refine ⟨h1,h2,?_⟩
  by_cases c:m < l
  ·rw [if_pos c] at h3;omega
  ·omega
 ·rintro ⟨h1,h2,h3⟩ e he
  simp only [List.mem_cons,List.not_mem_nil,or_false] at he
  rcases he with rfl | rfl | rfl
  ·exact Z18.2 h1
  ·exact Z18.2 h2
  ·rw [if_neg (by omega)]
theorem Z1S {n many:Int}:Z0h n many = 0 ↔ 0 ≤ n ∧ n < many:=by
 unfold Z0h
 cases h:inB n 0 (many - 1)
 ·have:¬ (0 ≤ n ∧ n ≤ many - 1):=fun c=>by rw [← Z3y,h] at c;cases c
  simp;omega
 ·have:=Z3y.1 h
  simp;omega
theorem Z1M {α:Type} {f:α → Int} {xs:List α}:ZU (xs.map f) = 0 ↔ ∀ x ∈ xs,f x = 0:=by
 rw [Z1h];simp
theorem Z7s {t:Tp} {r:Int × Int × Int × Int}:rdE t r = 0 ↔ (0 ≤ r.1 ∧ r.1 < t.S) ∧ (0 ≤ r.2.1 ∧ r.2.1 < t.A) ∧ (0 ≤ r.2.2.1 ∧ r.2.2.1 < t.T) ∧ 0 ≤ r.2.2.2 ∧ r.2.2.2 ≤ 250:=by
 unfold rdE rdgE
 rw [Z1h]
 simp [Z1S,Z18]
theorem Z78 {t:Tp} {l:Int × Int × Int × Int × Int × Int}:lkE t l = 0 ↔ (0 ≤ l.1 ∧ l.1 < t.S) ∧ (0 ≤ l.2.2.1 ∧ l.2.2.1 < t.S) ∧ (0 ≤ l.2.1 ∧ l.2.1 < t.A) ∧ (0 ≤ l.2.2.2.1 ∧ l.2.2.2.1 < t.A) ∧ ¬ (l.1 = l.2.2.1 ∧ l.2.1 = l.2.2.2.1) ∧ (-200 ≤ l.2.2.2.2.1 ∧ l.2.2.2.2.1 ≤ 200) ∧ (-200 ≤ l.2.2.2.2.2 ∧ l.2.2.2.2.2 ≤ 200) ∧ l.2.2.2.2.1 ≤ l.2.2.2.2.2:=by
 unfold lkE lnkE
 rw [Z1h]
 simp only [List.mem_cons,List.not_mem_nil,or_false,forall_eq_or_imp,forall_eq,Z1S,Z3o]
 have e:(if l.1 = l.2.2.1 ∧ l.2.1 = l.2.2.2.1 then (4:Int) else 0) = 0 ↔ ¬ (l.1 = l.2.2.1 ∧ l.2.1 = l.2.2.2.1):=by
  split <;> simp_all
 rw [e]
theorem Z0x {t:Tp}:Z08 t = 0 ↔ t.Ok ∧ t.rd.length ≤ 8:=by
 have hh:Z2Y t = 0 ↔ (1 ≤ t.S ∧ t.S ≤ 3) ∧ (1 ≤ t.A ∧ t.A ≤ 3) ∧ (1 ≤ t.T ∧ t.T ≤ 3) ∧ ((20 ≤ t.bl ∧ t.bl ≤ 200) ∧ (20 ≤ t.bm ∧ t.bm ≤ 200) ∧ t.bl ≤ t.bm) ∧ ((-9 ≤ t.pl ∧ t.pl ≤ 9) ∧ (-9 ≤ t.pm ∧ t.pm ≤ 9) ∧ t.pl ≤ t.pm) ∧ (0 ≤ t.sl ∧ t.sl ≤ 5):=by
  unfold Z2Y
  rw [Z1h]
  simp only [List.mem_cons,List.not_mem_nil,or_false,forall_eq_or_imp,forall_eq,Z18,Z3o]
 unfold Z08
 constructor
 ·intro h
  by_cases c1:Z2Y t = 0
  ·rw [if_neg (by simpa using c1)] at h
   by_cases c2:(t.gr.length:Int) < t.S
   ·rw [if_pos c2] at h;omega
   rw [if_neg c2] at h
   by_cases c3:t.S < (t.gr.length:Int)
   ·rw [if_pos c3] at h;omega
   rw [if_neg c3] at h
   by_cases c4:ZU (t.gr.map grE) = 0
   ·rw [if_neg (by simpa using c4)] at h
    by_cases c5:8 < t.rd.length
    ·rw [if_pos c5] at h;omega
    rw [if_neg c5] at h
    by_cases c6:ZU (t.rd.map (rdE t)) = 0
    ·rw [if_neg (by simpa using c6)] at h
     by_cases c7:3 < t.lk.length
     ·rw [if_pos c7] at h;omega
     rw [if_neg c7] at h
     obtain ⟨d1,d2,d3,d4,d5,d6⟩:=hh.1 c1
     refine ⟨⟨d1.1,d1.2,d2.1,d2.2,d3.1,d3.2,d4.1.1,d4.2.1.2,d4.2.2,d5.1.1,d5.2.1.2,d5.2.2,d6.1,d6.2,by omega,fun g hg=>?_,by omega,fun r hr=>?_,by omega,fun l hl=>?_⟩,by omega⟩
     ·have:=Z3o.1 (Z1M.1 c4 g hg);omega
     ·have:=Z7s.1 (Z1M.1 c6 r hr);omega
     ·obtain ⟨x1,x2,x3,x4,x5,x6,x7,x8⟩:=Z78.1 (Z1M.1 h l hl)
      exact ⟨x1.1,x1.2,x3.1,x3.2,x2.1,x2.2,x4.1,x4.2,x5,x6.1,x7.2,x8⟩
    ·rw [if_pos (by simpa using c6)] at h;exact absurd h c6
   ·rw [if_pos (by simpa using c4)] at h;exact absurd h c4
  ·rw [if_pos (by simpa using c1)] at h;exact absurd h c1
 ·rintro ⟨ok,h8⟩
  have b1:=ok.b
  have b2:=ok.p
  have b3:=ok.bl1
  have b4:=ok.bm1
  have b5:=ok.pl1
  have b6:=ok.pm1
  rw [if_neg (by rw [hh.2 ⟨⟨ok.S1,ok.S3⟩,⟨ok.A1,ok.A3⟩,⟨ok.T1,ok.T3⟩,⟨⟨by omega,by omega⟩,⟨by omega,by omega⟩,by omega⟩,⟨⟨by omega,by omega⟩,⟨by omega,by omega⟩,by omega⟩,⟨ok.sl0,ok.sl5⟩⟩];simp),
   if_neg (by have:=ok.grl;omega),if_neg (by have:=ok.grl;omega),if_neg (by rw [(Z1M (f:=grE)).2 fun g hg=>Z3o.2 (by have:=ok.gr g hg;omega)];simp),if_neg (by omega),
   if_neg (by rw [(Z1M (f:=rdE t)).2 fun r hr=>Z7s.2 (by have:=ok.rd r hr;omega)];simp),if_neg (by have:=ok.lkl;omega)]
  exact Z1M.2 fun l hl=>Z78.2 (by
   obtain ⟨g1,g2,g3,g4,g5,g6,g7,g8,g9,g10,g11,g12⟩:=ok.lk l hl
   exact ⟨⟨g1,g2⟩,⟨g5,g6⟩,⟨g3,g4⟩,⟨g7,g8⟩,g9,⟨g10,by omega⟩,⟨by omega,g11⟩,g12⟩)
theorem Z1B {t:Tp} {xs:Nat → List Int} (h:Z1o t xs = 0):Z08 t = 0:=by
 unfold Z1o at h
 by_cases c:Z08 t = 0
 ·exact c
 ·rw [if_pos c] at h;exact h
def bdV (t:Tp) (out:Int):Nat → Nat → Int:=(kTo (Z0D t out) 13).getD fun _ _=>0
def bdB (t:Tp) (out:Int):Bool:=(kTo (Z0D t out) 13).isSome
theorem Z5j (t:Tp) (ok:t.Ok) (gv rv lv:Value) (out:Int) (ho1:0 ≤ out) (ho2:out < 65536) (w:World) (ht:IsTp w gv rv lv t) :
  Calls Try.prog 80 #[tpV t gv rv lv,.int .u16 out] w fun e w'=>e = .returned (.tuple #[.agg (ZD (bdV t out)),.bool (bdB t out)]) ∧ Ext [] w w':=by
 refine (Zaf t ok gv rv lv out ho1 ho2 w ht).mono fun e w' h=>?_
 rcases h with ⟨h1,⟨h2,rfl⟩ | ⟨m,h2,rfl⟩⟩
 ·exact ⟨by rw [bdV,bdB,h2];rfl,h1⟩
 ·exact ⟨by rw [bdV,bdB,h2];rfl,h1⟩
def Z0j (t:Tp) (xs:Nat → List Int):Int:=if Z1o t xs ≠ 0 then Z1o t xs else if bdB t 0 then 0 else 9
def Z1g (t:Tp) (xs:Nat → List Int):Nat → Nat → Int:=if Z1o t xs = 0 then bdV t 0 else fun _ _=>0
theorem Z3E {w:World} {gv rv lv:Value} {t:Tp} (ht:IsTp w gv rv lv t):gv.oneCell' = true ∧ rv.oneCell' = true ∧ lv.oneCell' = true:=by
 obtain ⟨_,_,e1⟩:=Z1U ht.gr
 obtain ⟨_,_,e2⟩:=Z1U ht.rd
 obtain ⟨_,_,e3⟩:=Z1U ht.lk
 rw [e1,e2,e3];exact ⟨rfl,rfl,rfl⟩
theorem Z0S {t:Tp} {gv rv lv:Value} (h:gv.oneCell' = true ∧ rv.oneCell' = true ∧ lv.oneCell' = true):(Z26 t gv rv lv).all (·.oneCell') = true:=by
 simp [Z26,h.1,h.2.1,h.2.2,show ∀ k n,(Value.int k n).oneCell' = true from fun _ _=>rfl]
theorem Z2n:Z30.all (·.oneCell') = true:=by simp [Z30,Value.oneCell']
theorem Z2P (m:Nat → Nat → Int):(Try.prog.info? 105).map (·.size) = some (ZD m).size:=by rw [Zj];kernel_rfl
set_option maxRecDepth 100000 in
set_option maxHeartbeats 2000000 in
theorem Z1R (t:Tp) (gv rv lv:Value) (xs:Nat → List Int) (va:Nat → Option Addr) (vc:Nat → Nat) (w:World) (ht:IsTp w gv rv lv t) (hl1:t.gr.length ≤ 1000) (hl2:t.rd.length ≤ 1000) (hl3:t.lk.length ≤ 1000)
  (hx:∀ i,i < 3 → Z0E w (.slice (va i) (xs i).length (vc i)) 1 ((xs i).map Z0Q)) (hxl:∀ i,i < 3 → (xs i).length ≤ 1000) :
  Calls Try.prog 90 #[tpV t gv rv lv,.slice (va 0) (xs 0).length (vc 0),.slice (va 1) (xs 1).length (vc 1),.slice (va 2) (xs 2).length (vc 2)] w fun e w'=>e = .returned (.tuple #[.agg (Z2E t xs gv rv lv),.agg (ZD (Z1g t xs)),.int .i64 (Z0j t xs)]) ∧ Ext [] w w':=by
 have hone:=Z3E ht
 have HK:Hid (∀ W:World,Ext [] w W → Calls Try.prog 79 #[tpV t gv rv lv,.slice (va 0) (xs 0).length (vc 0),.slice (va 1) (xs 1).length (vc 1),.slice (va 2) (xs 2).length (vc 2)] W fun e w'=>e = .returned (.tuple #[.agg (Z2E t xs gv rv lv),.int .i64 (Z1o t xs)]) ∧ Ext [] W w'):=
  fun W e=>Z5z t gv rv lv xs va vc W (ht.ext e (by simp)) hl1 hl2 hl3 (fun i hi=>(hx i hi).ext e (by simp)) hxl
 have Ht:=Lib.hid ht;clear ht hx
 have E:Ext [] w w:=Ext.refl _ _
 by_cases h:Z1o t xs = 0
 ·have ok:=(Z0x.1 (Z1B h)).1
  have HS:Hid (∀ W:World,Ext [] w W → Calls Try.prog 80 #[tpV t gv rv lv,.int .u16 0] W fun e w'=>e = .returned (.tuple #[.agg (ZD (bdV t 0)),.bool (bdB t 0)]) ∧ Ext [] W w'):=
   fun W e=>Z5j t ok gv rv lv 0 (by omega) (by omega) W (Ht.out.ext e (by simp))
  simp only [Z2V h,show Z1g t xs = bdV t 0 from if_pos h,show Z0j t xs = if bdB t 0 then 0 else 9 by rw [Z0j,if_neg (by simpa using h)]] at HK ⊢
  rw [h] at HK
  clear h ok
  obtain ⟨m,hm⟩:∃ m,m = bdV t 0:=⟨_,rfl⟩
  obtain ⟨b,hb⟩:∃ b,b = bdB t 0:=⟨_,rfl⟩
  rw [← hm,← hb] at HS ⊢
  clear hm hb
  unfold tpV at HK HS ⊢
  go_enter Try.func90,Try.ntmps90
  go_upto_region 0 with (fail)
  refine wp_region_lit ?_
  refine Zy rfl rfl (Z0z (v:=.agg _) rfl rfl) (by simp only [ls,lz];exact rfl) fun w1 hw=>?_
  obtain ⟨n4,hn⟩:∃ n,n = w.heap.size:=⟨_,rfl⟩
  rw [← hn]
  have l4:w.heap.size ≤ n4:=by rw [hn];exact E.size
  have q4:=Zr hw hn
  replace E:=Z2 E hw
  clear hw hn
  refine Zy rfl rfl (ZB rfl Try.zeroValue100) (by simp only [ls,lz];exact rfl) fun w2 hw=>?_
  obtain ⟨n8,hn⟩:∃ n,n = w1.heap.size:=⟨_,rfl⟩
  rw [← hn]
  have l8:w.heap.size ≤ n8:=by rw [hn];exact E.size
  have m8_4:n4 < n8:=by rw [hn];exact Z7 q4
  replace q4:=Z1 hw q4
  have q8:=Zr hw hn
  replace E:=Z2 E hw
  clear hw hn
  refine Zy rfl rfl (ZB rfl Try.zeroValue105) (by simp only [ls,lz];exact rfl) fun w3 hw=>?_
  obtain ⟨n9,hn⟩:∃ n,n = w2.heap.size:=⟨_,rfl⟩
  rw [← hn]
  have l9:w.heap.size ≤ n9:=by rw [hn];exact E.size
  have m9_4:n4 < n9:=by rw [hn];exact Z7 q4
  have m9_8:n8 < n9:=by rw [hn];exact Z7 q8
  replace q4:=Z1 hw q4
  replace q8:=Z1 hw q8
  have q9:=Zr hw hn
  replace E:=Z2 E hw
  clear hw hn
  refine Z3 rfl rfl (Z8 (v:=.int .i64 _) rfl rfl) (by simp only [ls,lz];exact rfl) ?_
  refine wpList_nil ?_
  go_upto_region 1 with (fail)
  refine wp_region_lit ?_
  refine Z3 rfl rfl (Zt rfl rfl Try.underlying28 rfl (by kernel_rfl) q4) (by simp only [ls,lz];exact rfl) ?_
  refine Z3 rfl rfl (Zi (v:=.slice _ _ _) rfl rfl) (by simp only [ls,lz];exact rfl) ?_
  refine Z3 rfl rfl (Zi (v:=.slice _ _ _) rfl rfl) (by simp only [ls,lz];exact rfl) ?_
  refine Z3 rfl rfl (Zi (v:=.slice _ _ _) rfl rfl) (by simp only [ls,lz];exact rfl) ?_
  refine ZC rfl rfl (by kernel_rfl) (HK.out _ E) fun e w4 hR=>?_
  obtain ⟨rfl,e1⟩:=hR
  refine ⟨_,_,rfl,(by simp only [ls,lz];exact rfl),?_⟩
  replace q4:=(e1).keep0 q4
  replace q8:=(e1).keep0 q8
  replace q9:=(e1).keep0 q9
  replace E:=Z4 E (e1)
  refine Z3 rfl rfl (Zi (v:=.tuple _) rfl rfl) (by simp only [ls,lz];exact rfl) ?_
  refine Z3 rfl rfl (Zm rfl rfl (get0)) (by simp only [ls,lz];exact rfl) ?_
  refine Z3 rfl rfl (Zm rfl rfl (getS (get0))) (by simp only [ls,lz];exact rfl) ?_
  refine Zy rfl rfl (ZB rfl Try.zeroValue100) (by simp only [ls,lz];exact rfl) fun w5 hw=>?_
  obtain ⟨n11,hn⟩:∃ n,n = w4.heap.size:=⟨_,rfl⟩
  rw [← hn]
  have l11:w.heap.size ≤ n11:=by rw [hn];exact E.size
  have m11_4:n4 < n11:=by rw [hn];exact Z7 q4
  have m11_8:n8 < n11:=by rw [hn];exact Z7 q8
  have m11_9:n9 < n11:=by rw [hn];exact Z7 q9
  replace q4:=Z1 hw q4
  replace q8:=Z1 hw q8
  replace q9:=Z1 hw q9
  have q11:=Zr hw hn
  replace E:=Z2 E hw
  clear hw hn
  refine ZY rfl rfl (Zg rfl rfl rfl (by kernel_rfl) (Z0S hone) q11 rfl) fun w6 hw=>?_
  replace q4:=Z5 hw q4 (by omega)
  replace q8:=Z5 hw q8 (by omega)
  replace q9:=Z5 hw q9 (by omega)
  replace q11:=Zz hw q11 rfl
  replace E:=Za E hw (fun h=>by first | exact absurd h (by omega) | simp)
  clear hw
  refine Z3 rfl rfl (Z8 (v:=.int .i64 _) rfl rfl) (by simp only [ls,lz];exact rfl) ?_
  refine wpList_nil ?_
  clear e1
  go_upto_region 4 with (fail)
  refine wp_region_lit ?_
  refine Z3 rfl rfl (Zt rfl rfl Try.underlying100 rfl (by kernel_rfl) q11) (by simp only [ls,lz];exact rfl) ?_
  refine ZC rfl rfl (by kernel_rfl) (HS.out _ E) fun e w7 hR=>?_
  obtain ⟨rfl,e1⟩:=hR
  refine ⟨_,_,rfl,(by simp only [ls,lz];exact rfl),?_⟩
  replace q4:=(e1).keep0 q4
  replace q8:=(e1).keep0 q8
  replace q9:=(e1).keep0 q9
  replace q11:=(e1).keep0 q11
  replace E:=Z4 E (e1)
  refine Z3 rfl rfl (Zi (v:=.tuple _) rfl rfl) (by simp only [ls,lz];exact rfl) ?_
  refine Z3 rfl rfl (Zm rfl rfl (get0)) (by simp only [ls,lz];exact rfl) ?_
  refine Z3 rfl rfl (Zm rfl rfl (getS (get0))) (by simp only [ls,lz];exact rfl) ?_
  refine Zy rfl rfl (ZB rfl Try.zeroValue105) (by simp only [ls,lz];exact rfl) fun w8 hw=>?_
  obtain ⟨n13,hn⟩:∃ n,n = w7.heap.size:=⟨_,rfl⟩
  rw [← hn]
  have l13:w.heap.size ≤ n13:=by rw [hn];exact E.size
  have m13_4:n4 < n13:=by rw [hn];exact Z7 q4
  have m13_8:n8 < n13:=by rw [hn];exact Z7 q8
  have m13_9:n9 < n13:=by rw [hn];exact Z7 q9
  have m13_11:n11 < n13:=by rw [hn];exact Z7 q11
  replace q4:=Z1 hw q4
  replace q8:=Z1 hw q8
  replace q9:=Z1 hw q9
  replace q11:=Z1 hw q11
  have q13:=Zr hw hn
  replace E:=Z2 E hw
  clear hw hn
  refine ZY rfl rfl (Zg rfl rfl rfl (by rw [Zj];kernel_rfl) (by rw [← ZI];exact all_oneCell_toArray (Z05 _)) q13 (by show Try.zeroCells105.size = _;rw [Try.zeroCells105_size,Zj])) fun w9 hw=>?_
  replace q4:=Z5 hw q4 (by omega)
  replace q8:=Z5 hw q8 (by omega)
  replace q9:=Z5 hw q9 (by omega)
  replace q11:=Z5 hw q11 (by omega)
  replace q13:=Zz hw q13 (by show Try.zeroCells105.size = _;rw [Try.zeroCells105_size,Zj])
  replace E:=Za E hw (fun h=>by first | exact absurd h (by omega) | simp)
  clear hw
  refine Z3 rfl rfl (Z8 (v:=.bool _) rfl rfl) (by simp only [ls,lz];exact rfl) ?_
  refine wpList_nil ?_
  clear e1
  cases b
  ·skip
   go_upto_region 6 with (fail)
   refine Z11 (Ext [n8,n9] w9) follows fun w10 hh eS=>?_
   have q4_:=q4
   have q8_:=q8
   have q9_:=q9
   have q11_:=q11
   have q13_:=q13
   replace q4:=Zn hh q4
   replace q8:=Zn hh q8
   replace q9:=Zn hh q9
   replace q11:=Zn hh q11
   replace q13:=Zn hh q13
   replace E:=Z4 E eS
   replace eS:=eS.mono (Y:=[n8,n9]) (by simp)
   refine Zf (i:=0) rfl (by kernel_rfl) (by kernel_rfl) (by kernel_rfl) (fun _ _ _ h=>h) rfl rfl (fun w' hS=>Zt rfl rfl Try.underlying100 rfl (by kernel_rfl) (hS.keep q11_ (by simp;omega))) eS (by simp only [ls,lz];exact rfl) ?_
   refine Zf (i:=1) rfl (by kernel_rfl) (by kernel_rfl) (by kernel_rfl) (fun _ _ _ h=>h) rfl rfl (fun w' hS=>Zt rfl rfl Try.underlying105 rfl (by rw [Zj];kernel_rfl) (hS.keep q13_ (by simp;omega))) eS (by simp only [ls,lz];exact rfl) ?_
   refine Z5s (i:=2) rfl (by kernel_rfl) rfl rfl (Zg rfl rfl rfl (by kernel_rfl) (Z0S hone) q8 rfl) fun w11 hw=>?_
   replace eS:=Za eS hw (fun _=>by simp)
   replace q4:=Z5 hw q4 (by omega)
   replace q8:=Zz hw q8 rfl
   replace q9:=Z5 hw q9 (by omega)
   replace q11:=Z5 hw q11 (by omega)
   replace q13:=Z5 hw q13 (by omega)
   replace E:=Za E hw (fun h=>by first | exact absurd h (by omega) | simp)
   clear hw
   refine ⟨eS,?_⟩
   refine Z5s (i:=3) rfl (by kernel_rfl) rfl rfl (Zg rfl rfl rfl (by rw [Zj];kernel_rfl) (by rw [← ZI];exact all_oneCell_toArray (Z05 _)) q9 (by show Try.zeroCells105.size = _;rw [Try.zeroCells105_size,Zj])) fun w12 hw=>?_
   replace eS:=Za eS hw (fun _=>by simp)
   replace q4:=Z5 hw q4 (by omega)
   replace q8:=Z5 hw q8 (by omega)
   replace q9:=Zz hw q9 (by show Try.zeroCells105.size = _;rw [Try.zeroCells105_size,Zj])
   replace q11:=Z5 hw q11 (by omega)
   replace q13:=Z5 hw q13 (by omega)
   replace E:=Za E hw (fun h=>by first | exact absurd h (by omega) | simp)
   clear hw
   refine ⟨eS,?_⟩
   refine Zf (i:=4) rfl (by kernel_rfl) (by kernel_rfl) (by kernel_rfl) (fun _ _ _ h=>h) rfl rfl (fun w' hS=>Z8 (v:=.int .i64 _) rfl rfl) eS (by simp only [ls,lz];exact rfl) ?_
   refine wpAnyH_done (by kernel_rfl) ?_ _
   clear q4_ q8_ q9_ q11_ q13_ hh eS
   go_wp2
   refine bodyPost_ret (Z6Y rfl rfl Try.underlying100 rfl (by kernel_rfl) q8 rfl Try.underlying105 rfl (Z2P m) q9 rfl) rfl ⟨rfl,E⟩
  ·skip
   go_upto_region 7 with (fail)
   refine Z11 (Ext [n8,n9] w9) follows fun w10 hh eS=>?_
   have q4_:=q4
   have q8_:=q8
   have q9_:=q9
   have q11_:=q11
   have q13_:=q13
   replace q4:=Zn hh q4
   replace q8:=Zn hh q8
   replace q9:=Zn hh q9
   replace q11:=Zn hh q11
   replace q13:=Zn hh q13
   replace E:=Z4 E eS
   replace eS:=eS.mono (Y:=[n8,n9]) (by simp)
   refine Zf (i:=0) rfl (by kernel_rfl) (by kernel_rfl) (by kernel_rfl) (fun _ _ _ h=>h) rfl rfl (fun w' hS=>Zt rfl rfl Try.underlying100 rfl (by kernel_rfl) (hS.keep q11_ (by simp;omega))) eS (by simp only [ls,lz];exact rfl) ?_
   refine Zf (i:=1) rfl (by kernel_rfl) (by kernel_rfl) (by kernel_rfl) (fun _ _ _ h=>h) rfl rfl (fun w' hS=>Zt rfl rfl Try.underlying105 rfl (by rw [Zj];kernel_rfl) (hS.keep q13_ (by simp;omega))) eS (by simp only [ls,lz];exact rfl) ?_
   refine Z5s (i:=2) rfl (by kernel_rfl) rfl rfl (Zg rfl rfl rfl (by kernel_rfl) (Z0S hone) q8 rfl) fun w11 hw=>?_
   replace eS:=Za eS hw (fun _=>by simp)
   replace q4:=Z5 hw q4 (by omega)
   replace q8:=Zz hw q8 rfl
   replace q9:=Z5 hw q9 (by omega)
   replace q11:=Z5 hw q11 (by omega)
   replace q13:=Z5 hw q13 (by omega)
   replace E:=Za E hw (fun h=>by first | exact absurd h (by omega) | simp)
   clear hw
   refine ⟨eS,?_⟩
   refine Z5s (i:=3) rfl (by kernel_rfl) rfl rfl (Zg rfl rfl rfl (by rw [Zj];kernel_rfl) (by rw [← ZI];exact all_oneCell_toArray (Z05 _)) q9 (by show Try.zeroCells105.size = _;rw [Try.zeroCells105_size,Zj])) fun w12 hw=>?_
   replace eS:=Za eS hw (fun _=>by simp)
   replace q4:=Z5 hw q4 (by omega)
   replace q8:=Z5 hw q8 (by omega)
   replace q9:=Zz hw q9 (by show Try.zeroCells105.size = _;rw [Try.zeroCells105_size,Zj])
   replace q11:=Z5 hw q11 (by omega)
   replace q13:=Z5 hw q13 (by omega)
   replace E:=Za E hw (fun h=>by first | exact absurd h (by omega) | simp)
   clear hw
   refine ⟨eS,?_⟩
   refine Zf (i:=4) rfl (by kernel_rfl) (by kernel_rfl) (by kernel_rfl) (fun _ _ _ h=>h) rfl rfl (fun w' hS=>Z8 (v:=.int .i64 _) rfl rfl) eS (by simp only [ls,lz];exact rfl) ?_
   refine wpAnyH_done (by kernel_rfl) ?_ _
   clear q4_ q8_ q9_ q11_ q13_ hh eS
   go_wp2
   refine bodyPost_ret (Z6Y rfl rfl Try.underlying100 rfl (by kernel_rfl) q8 rfl Try.underlying105 rfl (Z2P m) q9 rfl) rfl ⟨rfl,E⟩
 ·simp only [Z3e h,show Z1g t xs = (fun _ _=>0) from if_neg h,show Z0j t xs = Z1o t xs by rw [Z0j,if_pos h]] at HK ⊢
  obtain ⟨ce,hce⟩:∃ ce,ce = Z1o t xs:=⟨_,rfl⟩
  rw [← hce] at h HK ⊢
  clear hce
  have hb:(ce != 0) = true:=by simpa using h
  unfold tpV at HK ⊢
  go_enter Try.func90,Try.ntmps90
  go_upto_region 0 with (fail)
  refine wp_region_lit ?_
  refine Zy rfl rfl (Z0z (v:=.agg _) rfl rfl) (by simp only [ls,lz];exact rfl) fun w1 hw=>?_
  obtain ⟨n4,hn⟩:∃ n,n = w.heap.size:=⟨_,rfl⟩
  rw [← hn]
  have l4:w.heap.size ≤ n4:=by rw [hn];exact E.size
  have q4:=Zr hw hn
  replace E:=Z2 E hw
  clear hw hn
  refine Zy rfl rfl (ZB rfl Try.zeroValue100) (by simp only [ls,lz];exact rfl) fun w2 hw=>?_
  obtain ⟨n8,hn⟩:∃ n,n = w1.heap.size:=⟨_,rfl⟩
  rw [← hn]
  have l8:w.heap.size ≤ n8:=by rw [hn];exact E.size
  have m8_4:n4 < n8:=by rw [hn];exact Z7 q4
  replace q4:=Z1 hw q4
  have q8:=Zr hw hn
  replace E:=Z2 E hw
  clear hw hn
  refine Zy rfl rfl (ZB rfl Try.zeroValue105) (by simp only [ls,lz];exact rfl) fun w3 hw=>?_
  obtain ⟨n9,hn⟩:∃ n,n = w2.heap.size:=⟨_,rfl⟩
  rw [← hn]
  have l9:w.heap.size ≤ n9:=by rw [hn];exact E.size
  have m9_4:n4 < n9:=by rw [hn];exact Z7 q4
  have m9_8:n8 < n9:=by rw [hn];exact Z7 q8
  replace q4:=Z1 hw q4
  replace q8:=Z1 hw q8
  have q9:=Zr hw hn
  replace E:=Z2 E hw
  clear hw hn
  refine Z3 rfl rfl (Z8 (v:=.int .i64 _) rfl rfl) (by simp only [ls,lz];exact rfl) ?_
  refine wpList_nil ?_
  go_upto_region 1 with (fail)
  refine wp_region_lit ?_
  refine Z3 rfl rfl (Zt rfl rfl Try.underlying28 rfl (by kernel_rfl) q4) (by simp only [ls,lz];exact rfl) ?_
  refine Z3 rfl rfl (Zi (v:=.slice _ _ _) rfl rfl) (by simp only [ls,lz];exact rfl) ?_
  refine Z3 rfl rfl (Zi (v:=.slice _ _ _) rfl rfl) (by simp only [ls,lz];exact rfl) ?_
  refine Z3 rfl rfl (Zi (v:=.slice _ _ _) rfl rfl) (by simp only [ls,lz];exact rfl) ?_
  refine ZC rfl rfl (by kernel_rfl) (HK.out _ E) fun e w4 hR=>?_
  obtain ⟨rfl,e1⟩:=hR
  refine ⟨_,_,rfl,(by simp only [ls,lz];exact rfl),?_⟩
  replace q4:=(e1).keep0 q4
  replace q8:=(e1).keep0 q8
  replace q9:=(e1).keep0 q9
  replace E:=Z4 E (e1)
  refine Z3 rfl rfl (Zi (v:=.tuple _) rfl rfl) (by simp only [ls,lz];exact rfl) ?_
  refine Z3 rfl rfl (Zm rfl rfl (get0)) (by simp only [ls,lz];exact rfl) ?_
  refine Z3 rfl rfl (Zm rfl rfl (getS (get0))) (by simp only [ls,lz];exact rfl) ?_
  refine Zy rfl rfl (ZB rfl Try.zeroValue100) (by simp only [ls,lz];exact rfl) fun w5 hw=>?_
  obtain ⟨n11,hn⟩:∃ n,n = w4.heap.size:=⟨_,rfl⟩
  rw [← hn]
  have l11:w.heap.size ≤ n11:=by rw [hn];exact E.size
  have m11_4:n4 < n11:=by rw [hn];exact Z7 q4
  have m11_8:n8 < n11:=by rw [hn];exact Z7 q8
  have m11_9:n9 < n11:=by rw [hn];exact Z7 q9
  replace q4:=Z1 hw q4
  replace q8:=Z1 hw q8
  replace q9:=Z1 hw q9
  have q11:=Zr hw hn
  replace E:=Z2 E hw
  clear hw hn
  refine ZY rfl rfl (Zg rfl rfl rfl (by kernel_rfl) Z2n q11 rfl) fun w6 hw=>?_
  replace q4:=Z5 hw q4 (by omega)
  replace q8:=Z5 hw q8 (by omega)
  replace q9:=Z5 hw q9 (by omega)
  replace q11:=Zz hw q11 rfl
  replace E:=Za E hw (fun h=>by first | exact absurd h (by omega) | simp)
  clear hw
  refine Z3 rfl rfl (Z8 (v:=.int .i64 _) rfl rfl) (by simp only [ls,lz];exact rfl) ?_
  refine wpList_nil ?_
  clear e1
  go_upto_region 3 with (fail)
  refine wp_region_lit ?_
  refine Z3 rfl rfl (Zt rfl rfl Try.underlying100 rfl (by kernel_rfl) q11) (by simp only [ls,lz];exact rfl) ?_
  refine Z3 rfl rfl (ZZ rfl (cells:=ZD fun _ _=>0) (by kernel_rfl)) (by simp only [ls,lz];exact rfl) ?_
  refine Z3 rfl rfl (Zi (v:=.int .i64 _) rfl rfl) (by simp only [ls,lz];exact rfl) ?_
  refine ZY rfl rfl (Zg rfl rfl rfl (by kernel_rfl) Z2n q8 rfl) fun w7 hw=>?_
  replace q4:=Z5 hw q4 (by omega)
  replace q8:=Zz hw q8 rfl
  replace q9:=Z5 hw q9 (by omega)
  replace q11:=Z5 hw q11 (by omega)
  replace E:=Za E hw (fun h=>by first | exact absurd h (by omega) | simp)
  clear hw
  refine ZY rfl rfl (Zg rfl rfl rfl (by rw [Zj];kernel_rfl) (by rw [← ZI];exact all_oneCell_toArray (Z05 _)) q9 (by show Try.zeroCells105.size = _;rw [Try.zeroCells105_size,Zj])) fun w8 hw=>?_
  replace q4:=Z5 hw q4 (by omega)
  replace q8:=Z5 hw q8 (by omega)
  replace q9:=Zz hw q9 (by show Try.zeroCells105.size = _;rw [Try.zeroCells105_size,Zj])
  replace q11:=Z5 hw q11 (by omega)
  replace E:=Za E hw (fun h=>by first | exact absurd h (by omega) | simp)
  clear hw
  refine Z3 rfl rfl (Z8 (v:=.int .i64 _) rfl rfl) (by simp only [ls,lz];exact rfl) ?_
  refine wpList_nil ?_
  go_wp2
  refine bodyPost_ret (Z6Y rfl rfl Try.underlying100 rfl (by kernel_rfl) q8 rfl Try.underlying105 rfl (Z2P _) q9 rfl) rfl ⟨rfl,E⟩
def sel3 {α:Type} (x y z:α):Nat → α
 | 0=>x
 | 1=>y
 | _=>z
theorem Z0M (w:World) (cap sz:Nat):Z0E w (.slice none 0 cap) sz []:=⟨none,cap,rfl,by simp,fun h=>absurd rfl h⟩
theorem Z2b {w:World} {b:Nat} {T:TypeId} {fz:Nat × Nat} (xs:List Int) (cap:Nat) (h:w.heap[b]? = some (.cells (xs.map (Value.int .i64)).toArray T fz)):Z0E w (.slice (some ⟨b,0,none⟩) xs.length cap) 1 (xs.map Z0Q):=by
 refine ⟨some ⟨b,0,none⟩,cap,by simp,by simp [Z0Q],fun _=>⟨b,0,rfl,Z7 h,fun i j x hi hj=>?_⟩⟩
 obtain rfl:j = 0:=by omega
 rw [Z0 h]
 simp only [List.getElem?_map,Option.map_eq_some_iff] at hi
 obtain ⟨y,hy,rfl⟩:=hi
 simp [hy,Z0Q]
theorem Za7 {w:World} {x y z:List Int} {a b c:Option Addr} {p q r:Nat} (h0:Z0E w (.slice a x.length p) 1 (x.map Z0Q)) (h1:Z0E w (.slice b y.length q) 1 (y.map Z0Q)) (h2:Z0E w (.slice c z.length r) 1 (z.map Z0Q)) :
  ∀ i,i < 3 → Z0E w (.slice (sel3 a b c i) (sel3 x y z i).length (sel3 p q r i)) 1 ((sel3 x y z i).map Z0Q):=fun i hi=>by
 rcases i with _ | _ | _ | i
 ·exact h0
 ·exact h1
 ·exact h2
 ·omega
theorem Z2G (t:Tp) (xs:Nat → List Int) (gv rv lv:Value):(Z2E t xs gv rv lv).size = 11:=by
 unfold Z2E;split <;> rfl
theorem Z32 {t:Tp} {xs:Nat → List Int} {gv rv lv:Value} (h:gv.oneCell' = true ∧ rv.oneCell' = true ∧ lv.oneCell' = true):(Z2E t xs gv rv lv).all (·.oneCell') = true:=by
 unfold Z2E;split
 ·exact Z0S h
 ·exact Z2n
theorem Z3c {t:Tp} {out:Int} {y:Nat → Nat → Int} (h:kTo (Z0D t out) 13 = some y):bdV t out = y:=by rw [bdV,h];rfl
theorem Z3m {t:Tp} {out:Int} {y:Nat → Nat → Int} (h:kTo (Z0D t out) 13 = some y):bdB t out = true:=by rw [bdB,h];rfl
theorem Z5i {t:Tp} {out:Int} (h:kTo (Z0D t out) 13 = none):bdB t out = false:=by rw [bdB,h];rfl
theorem Z6E {t:Tp} {out:Int} (h:bdB t out = true):kTo (Z0D t out) 13 = some (bdV t out):=by
 unfold bdB at h
 unfold bdV
 cases e:kTo (Z0D t out) 13 with
 | none=>rw [e] at h;cases h
 | some y=>rfl
theorem Z47 {t:Tp} (ok:t.Ok) (out:Int) {p q:Nat} (hp:p < 13) (hq:q < 13):-1000000000000000000 ≤ bdV t out p q ∧ bdV t out p q ≤ 1000000000000000000:=by
 unfold bdV
 cases e:kTo (Z0D t out) 13 with
 | none=>simp
 | some y =>
  have h:=fun p q (_:p < 13) (_:q < 13)=>(Z1D ok out).1 p q
  have l:=Z5l (L:=1048576) (by omega) (fun p q hp hq=>(h p q hp hq).1) 13 (Nat.le_refl _) y e p q hp hq
  have u:=Int.le_trans (Z53 p q e) (h p q hp hq).2
  have hpw:(6:Int) ^ 13 = 13060694016:=by decide
  rw [hpw] at l
  simp only [Option.getD_some]
  constructor <;> omega
def noX:Nat → List Int:=fun _=>[]
theorem Z2v (t:Tp):Z1o t noX = Z08 t:=by
 unfold Z1o
 split
 ·rfl
 ·rename_i h
  have:Z08 t = 0:=by simpa using h
  rw [this]
  refine Z1M.2 fun i _=>?_
  rfl
def canB (t:Tp):Bool:=if Z08 t = 0 then bdB t 0 else false
set_option maxRecDepth 100000 in
set_option maxHeartbeats 2000000 in
theorem Zaq (t:Tp) (gv rv lv:Value) (w:World) (ht:IsTp w gv rv lv t) (hl1:t.gr.length ≤ 1000) (hl2:t.rd.length ≤ 1000) (hl3:t.lk.length ≤ 1000) :
  Calls Try.prog 29 #[tpV t gv rv lv] w fun e w'=>e = .returned (.tuple #[.bool (canB t),.int .i64 (Z08 t)]) ∧ Ext [] w w':=by
 have hone:=Z3E ht
 have HK:Hid (∀ W:World,Ext [] w W → Calls Try.prog 79 #[tpV t gv rv lv,.slice none 0 0,.slice none 0 0,.slice none 0 0] W fun e w'=>e = .returned (.tuple #[.agg (Z2E t noX gv rv lv),.int .i64 (Z1o t noX)]) ∧ Ext [] W w'):=
  fun W e=>Z5z t gv rv lv noX (fun _=>none) (fun _=>0) W (ht.ext e (by simp)) hl1 hl2 hl3 (fun i hi=>Z0M _ _ _) (fun i hi=>by simp [noX])
 have Ht:=Lib.hid ht;clear ht
 have E:Ext [] w w:=Ext.refl _ _
 rw [Z2v] at HK
 by_cases h:Z08 t = 0
 ·have ok:=(Z0x.1 h).1
  have HS:Hid (∀ W:World,Ext [] w W → Calls Try.prog 80 #[tpV t gv rv lv,.int .u16 0] W fun e w'=>e = .returned (.tuple #[.agg (ZD (bdV t 0)),.bool (bdB t 0)]) ∧ Ext [] W w'):=
   fun W e=>Z5j t ok gv rv lv 0 (by omega) (by omega) W (Ht.out.ext e (by simp))
  rw [Z2V ((Z2v t).trans h),h] at HK
  rw [show canB t = bdB t 0 from if_pos h,h]
  clear h ok
  obtain ⟨m,hm⟩:∃ m,m = bdV t 0:=⟨_,rfl⟩
  obtain ⟨b,hb⟩:∃ b,b = bdB t 0:=⟨_,rfl⟩
  rw [← hm,← hb] at HS
  rw [← hb]
  clear hm hb
  unfold tpV at HK HS ⊢
  go_enter Try.func29,Try.ntmps29
  go_upto_region 0 with (fail)
  refine wp_region_lit ?_
  refine Zy rfl rfl (Z0z (v:=.agg _) rfl rfl) (by simp only [ls,lz];exact rfl) fun w1 hw=>?_
  obtain ⟨n1,hn⟩:∃ n,n = w.heap.size:=⟨_,rfl⟩
  rw [← hn]
  have l1:w.heap.size ≤ n1:=by rw [hn];exact E.size
  have q1:=Zr hw hn
  replace E:=Z2 E hw
  clear hw hn
  refine Z3 rfl rfl (Z8 (v:=.bool _) rfl rfl) (by simp only [ls,lz];exact rfl) ?_
  refine Z3 rfl rfl (Z8 (v:=.int .i64 _) rfl rfl) (by simp only [ls,lz];exact rfl) ?_
  refine wpList_nil ?_
  go_upto_region 1 with (fail)
  refine wp_region_lit ?_
  refine Z3 rfl rfl (Zt rfl rfl Try.underlying28 rfl (by kernel_rfl) q1) (by simp only [ls,lz];exact rfl) ?_
  refine ZC rfl rfl (by kernel_rfl) (HK.out _ E) fun e w2 hR=>?_
  obtain ⟨rfl,e1⟩:=hR
  refine ⟨_,_,rfl,(by simp only [ls,lz];exact rfl),?_⟩
  replace q1:=(e1).keep0 q1
  replace E:=Z4 E (e1)
  refine Z3 rfl rfl (Zi (v:=.tuple _) rfl rfl) (by simp only [ls,lz];exact rfl) ?_
  refine Z3 rfl rfl (Zm rfl rfl (get0)) (by simp only [ls,lz];exact rfl) ?_
  refine Z3 rfl rfl (Zm rfl rfl (getS (get0))) (by simp only [ls,lz];exact rfl) ?_
  refine Zy rfl rfl (ZB rfl Try.zeroValue100) (by simp only [ls,lz];exact rfl) fun w3 hw=>?_
  obtain ⟨n4,hn⟩:∃ n,n = w2.heap.size:=⟨_,rfl⟩
  rw [← hn]
  have l4:w.heap.size ≤ n4:=by rw [hn];exact E.size
  have m4_1:n1 < n4:=by rw [hn];exact Z7 q1
  replace q1:=Z1 hw q1
  have q4:=Zr hw hn
  replace E:=Z2 E hw
  clear hw hn
  refine ZY rfl rfl (Zg rfl rfl rfl (by kernel_rfl) (Z0S hone) q4 rfl) fun w4 hw=>?_
  replace q1:=Z5 hw q1 (by omega)
  replace q4:=Zz hw q4 rfl
  replace E:=Za E hw (fun h=>by first | exact absurd h (by omega) | simp)
  clear hw
  refine Z3 rfl rfl (Z8 (v:=.int .i64 _) rfl rfl) (by simp only [ls,lz];exact rfl) ?_
  refine wpList_nil ?_
  clear e1
  go_upto_region 4 with (fail)
  refine wp_region_lit ?_
  refine Z3 rfl rfl (Zt rfl rfl Try.underlying100 rfl (by kernel_rfl) q4) (by simp only [ls,lz];exact rfl) ?_
  refine ZC rfl rfl (by kernel_rfl) (HS.out _ E) fun e w5 hR=>?_
  obtain ⟨rfl,e1⟩:=hR
  refine ⟨_,_,rfl,(by simp only [ls,lz];exact rfl),?_⟩
  replace q1:=(e1).keep0 q1
  replace q4:=(e1).keep0 q4
  replace E:=Z4 E (e1)
  refine Z3 rfl rfl (Zi (v:=.tuple _) rfl rfl) (by simp only [ls,lz];exact rfl) ?_
  refine Z3 rfl rfl (Zm rfl rfl (get0)) (by simp only [ls,lz];exact rfl) ?_
  refine Z3 rfl rfl (Zm rfl rfl (getS (get0))) (by simp only [ls,lz];exact rfl) ?_
  refine Zy rfl rfl (ZB rfl Try.zeroValue105) (by simp only [ls,lz];exact rfl) fun w6 hw=>?_
  obtain ⟨n6,hn⟩:∃ n,n = w5.heap.size:=⟨_,rfl⟩
  rw [← hn]
  have l6:w.heap.size ≤ n6:=by rw [hn];exact E.size
  have m6_1:n1 < n6:=by rw [hn];exact Z7 q1
  have m6_4:n4 < n6:=by rw [hn];exact Z7 q4
  replace q1:=Z1 hw q1
  replace q4:=Z1 hw q4
  have q6:=Zr hw hn
  replace E:=Z2 E hw
  clear hw hn
  refine ZY rfl rfl (Zg rfl rfl rfl (by rw [Zj];kernel_rfl) (by rw [← ZI];exact all_oneCell_toArray (Z05 _)) q6 (by show Try.zeroCells105.size = _;rw [Try.zeroCells105_size,Zj])) fun w7 hw=>?_
  replace q1:=Z5 hw q1 (by omega)
  replace q4:=Z5 hw q4 (by omega)
  replace q6:=Zz hw q6 (by show Try.zeroCells105.size = _;rw [Try.zeroCells105_size,Zj])
  replace E:=Za E hw (fun h=>by first | exact absurd h (by omega) | simp)
  clear hw
  refine Z3 rfl rfl (Z8 (v:=.bool _) rfl rfl) (by simp only [ls,lz];exact rfl) ?_
  refine wpList_nil ?_
  clear e1
  go_wp2
  go_ret2
  exact ⟨rfl,E⟩
 ·rw [Z3e (by rw [Z2v];exact h)] at HK
  rw [show canB t = false from if_neg h]
  obtain ⟨ce,hce⟩:∃ ce,ce = Z08 t:=⟨_,rfl⟩
  rw [← hce] at h HK ⊢
  clear hce
  have hb:(ce != 0) = true:=by simpa using h
  unfold tpV at HK ⊢
  go_enter Try.func29,Try.ntmps29
  go_upto_region 0 with (fail)
  refine wp_region_lit ?_
  refine Zy rfl rfl (Z0z (v:=.agg _) rfl rfl) (by simp only [ls,lz];exact rfl) fun w1 hw=>?_
  obtain ⟨n1,hn⟩:∃ n,n = w.heap.size:=⟨_,rfl⟩
  rw [← hn]
  have l1:w.heap.size ≤ n1:=by rw [hn];exact E.size
  have q1:=Zr hw hn
  replace E:=Z2 E hw
  clear hw hn
  refine Z3 rfl rfl (Z8 (v:=.bool _) rfl rfl) (by simp only [ls,lz];exact rfl) ?_
  refine Z3 rfl rfl (Z8 (v:=.int .i64 _) rfl rfl) (by simp only [ls,lz];exact rfl) ?_
  refine wpList_nil ?_
  go_upto_region 1 with (fail)
  refine wp_region_lit ?_
  refine Z3 rfl rfl (Zt rfl rfl Try.underlying28 rfl (by kernel_rfl) q1) (by simp only [ls,lz];exact rfl) ?_
  refine ZC rfl rfl (by kernel_rfl) (HK.out _ E) fun e w2 hR=>?_
  obtain ⟨rfl,e1⟩:=hR
  refine ⟨_,_,rfl,(by simp only [ls,lz];exact rfl),?_⟩
  replace q1:=(e1).keep0 q1
  replace E:=Z4 E (e1)
  refine Z3 rfl rfl (Zi (v:=.tuple _) rfl rfl) (by simp only [ls,lz];exact rfl) ?_
  refine Z3 rfl rfl (Zm rfl rfl (get0)) (by simp only [ls,lz];exact rfl) ?_
  refine Z3 rfl rfl (Zm rfl rfl (getS (get0))) (by simp only [ls,lz];exact rfl) ?_
  refine Zy rfl rfl (ZB rfl Try.zeroValue100) (by simp only [ls,lz];exact rfl) fun w3 hw=>?_
  obtain ⟨n4,hn⟩:∃ n,n = w2.heap.size:=⟨_,rfl⟩
  rw [← hn]
  have l4:w.heap.size ≤ n4:=by rw [hn];exact E.size
  have m4_1:n1 < n4:=by rw [hn];exact Z7 q1
  replace q1:=Z1 hw q1
  have q4:=Zr hw hn
  replace E:=Z2 E hw
  clear hw hn
  refine ZY rfl rfl (Zg rfl rfl rfl (by kernel_rfl) Z2n q4 rfl) fun w4 hw=>?_
  replace q1:=Z5 hw q1 (by omega)
  replace q4:=Zz hw q4 rfl
  replace E:=Za E hw (fun h=>by first | exact absurd h (by omega) | simp)
  clear hw
  refine Z3 rfl rfl (Z8 (v:=.int .i64 _) rfl rfl) (by simp only [ls,lz];exact rfl) ?_
  refine wpList_nil ?_
  clear e1
  go_wp2
  go_ret2
  exact ⟨rfl,E⟩
def Z3p (t:Tp) (s a:Int):Int:=Z0j t (sel3 [s] [a] [])
def Z5Z (t:Tp) (s a:Int):Int × Int:=if Z3p t s a = 0 then (-(bdV t 0 (ZO s a) 0),bdV t 0 0 (ZO s a)) else (0,0)
theorem Z2q {t:Tp} {xs:Nat → List Int} (h:Z0j t xs = 0):Z1o t xs = 0 ∧ bdB t 0 = true:=by
 unfold Z0j at h
 by_cases c:Z1o t xs = 0
 ·rw [if_neg (by simpa using c)] at h
  refine ⟨c,?_⟩
  cases e:bdB t 0
  ·rw [e] at h;cases h
  ·rfl
 ·rw [if_pos c] at h;exact absurd h c
theorem Z1O {t:Tp} {xs:Nat → List Int} (h:Z1o t xs = 0) {i:Nat} (hi:i < 3) {n:Int} (hn:n ∈ xs i):0 ≤ n ∧ n < lim t i:=by
 have hc:=Z1B h
 unfold Z1o at h
 rw [if_neg (by simpa using hc)] at h
 have:=Z1M.1 h i (by simpa using hi)
 exact Z1S.1 (Z1M.1 this n hn)
set_option maxRecDepth 100000 in
set_option maxHeartbeats 2000000 in
theorem Z6I (t:Tp) (gv rv lv:Value) (s a:Int) (w:World) (ht:IsTp w gv rv lv t) (hl1:t.gr.length ≤ 1000) (hl2:t.rd.length ≤ 1000) (hl3:t.lk.length ≤ 1000) :
  Calls Try.prog 33 #[tpV t gv rv lv,.int .i64 s,.int .i64 a] w fun e w'=>e = .returned (.tuple #[.agg #[.int .i64 (Z5Z t s a).1,.int .i64 (Z5Z t s a).2],.int .i64 (Z3p t s a)]) ∧ Ext [] w w':=by
 have hone:=Z3E ht
 have HK:Hid (∀ (W:World) (b1 b2:Nat),Ext [] w W → W.heap[b1]? = some (.cells #[.int .i64 s] 3 (0,0)) → W.heap[b2]? = some (.cells #[.int .i64 a] 3 (0,0)) → Calls Try.prog 90 #[tpV t gv rv lv,.slice (some ⟨b1,0,none⟩) 1 1,.slice (some ⟨b2,0,none⟩) 1 1,.slice none 0 0] W fun e w'=>e = .returned (.tuple #[.agg (Z2E t (sel3 [s] [a] []) gv rv lv),.agg (ZD (Z1g t (sel3 [s] [a] []))),.int .i64 (Z3p t s a)]) ∧ Ext [] W w'):=
  fun W b1 b2 e h1 h2=>Z1R t gv rv lv (sel3 [s] [a] []) (sel3 (some ⟨b1,0,none⟩) (some ⟨b2,0,none⟩) none) (sel3 1 1 0) W (ht.ext e (by simp)) hl1 hl2 hl3 (Za7 (Z2b [s] 1 h1) (Z2b [a] 1 h2) (Z0M _ _ _)) (fun i hi=>by rcases i with _ | _ | i <;> simp [sel3])
 clear ht
 have E:Ext [] w w:=Ext.refl _ _
 have hVs:=Z2G t (sel3 [s] [a] []) gv rv lv
 have hVo:=Z32 (t:=t) (xs:=sel3 [s] [a] []) hone
 generalize Z2E t (sel3 [s] [a] []) gv rv lv = X at HK hVs hVo
 by_cases h:Z3p t s a = 0
 ·obtain ⟨h1,h2⟩:=Z2q h
  have ok:=(Z0x.1 (Z1B h1)).1
  have ks:=Z1O h1 (i:=0) (by omega) (n:=s) (by simp [sel3])
  have ka:=Z1O h1 (i:=1) (by omega) (n:=a) (by simp [sel3])
  have k1:=ok.S3
  have k2:=ok.A3
  rw [show lim t 0 = t.S from rfl] at ks
  rw [show lim t 1 = t.A from rfl] at ka
  rw [show Z1g t (sel3 [s] [a] []) = bdV t 0 from if_pos h1,h] at HK
  rw [show Z5Z t s a = (-(bdV t 0 (ZO s a) 0),bdV t 0 0 (ZO s a)) from if_pos h,h]
  have big:=Z47 ok 0 (p:=ZO s a) (q:=0) (by unfold ZO;omega) (by omega)
  clear h h1 h2 ok
  obtain ⟨m,hm⟩:∃ m,m = bdV t 0:=⟨_,rfl⟩
  rw [← hm] at HK big ⊢
  clear hm
  unfold ZO at big ⊢
  unfold tpV at HK ⊢
  go_enter Try.func33,Try.ntmps33
  go_upto_region 0 with (fail)
  refine wp_region_lit ?_
  refine Zy rfl rfl (Z0z (v:=.agg _) rfl rfl) (by simp only [ls,lz];exact rfl) fun w1 hw=>?_
  obtain ⟨n3,hn⟩:∃ n,n = w.heap.size:=⟨_,rfl⟩
  rw [← hn]
  have l3:w.heap.size ≤ n3:=by rw [hn];exact E.size
  have q3:=Zr hw hn
  replace E:=Z2 E hw
  clear hw hn
  refine Zy rfl rfl (ZB rfl Try.zeroValue23) (by simp only [ls,lz];exact rfl) fun w2 hw=>?_
  obtain ⟨n6,hn⟩:∃ n,n = w1.heap.size:=⟨_,rfl⟩
  rw [← hn]
  have l6:w.heap.size ≤ n6:=by rw [hn];exact E.size
  have m6_3:n3 < n6:=by rw [hn];exact Z7 q3
  replace q3:=Z1 hw q3
  have q6:=Zr hw hn
  replace E:=Z2 E hw
  clear hw hn
  refine Z3 rfl rfl (Z8 (v:=.int .i64 _) rfl rfl) (by simp only [ls,lz];exact rfl) ?_
  refine wpList_nil ?_
  go_upto_region 1 with (fail)
  refine wp_region_lit ?_
  refine Z3 rfl rfl (Zt rfl rfl Try.underlying28 rfl (by kernel_rfl) q3) (by simp only [ls,lz];exact rfl) ?_
  refine Z3 rfl rfl (Zi (v:=.int .i64 _) rfl rfl) (by simp only [ls,lz];exact rfl) ?_
  refine Zy rfl rfl (ZE rfl Try.underlying29 (size:=1) (by kernel_rfl) (by decide) (by decide) Try.zeroValue3 (cells:=#[.int .i64 s]) (by kernel_rfl)) (by simp only [ls,lz];exact rfl) fun w3 hw=>?_
  obtain ⟨n14,hn⟩:∃ n,n = w2.heap.size:=⟨_,rfl⟩
  rw [← hn]
  have l14:w.heap.size ≤ n14:=by rw [hn];exact E.size
  have m14_3:n3 < n14:=by rw [hn];exact Z7 q3
  have m14_6:n6 < n14:=by rw [hn];exact Z7 q6
  replace q3:=Z1 hw q3
  replace q6:=Z1 hw q6
  have q14:=Zw hw hn
  replace E:=Z2 E hw
  clear hw hn
  refine Z3 rfl rfl (Zi (v:=.int .i64 _) rfl rfl) (by simp only [ls,lz];exact rfl) ?_
  refine Zy rfl rfl (ZE rfl Try.underlying29 (size:=1) (by kernel_rfl) (by decide) (by decide) Try.zeroValue3 (cells:=#[.int .i64 a]) (by kernel_rfl)) (by simp only [ls,lz];exact rfl) fun w4 hw=>?_
  obtain ⟨n16,hn⟩:∃ n,n = w3.heap.size:=⟨_,rfl⟩
  rw [← hn]
  have l16:w.heap.size ≤ n16:=by rw [hn];exact E.size
  have m16_3:n3 < n16:=by rw [hn];exact Z7 q3
  have m16_6:n6 < n16:=by rw [hn];exact Z7 q6
  have m16_14:n14 < n16:=by rw [hn];exact Z7 q14
  replace q3:=Z1 hw q3
  replace q6:=Z1 hw q6
  replace q14:=Z1 hw q14
  have q16:=Zw hw hn
  replace E:=Z2 E hw
  clear hw hn
  refine ZC rfl rfl (by kernel_rfl) (HK.out _ n14 n16 E q14 q16) fun e w5 hR=>?_
  obtain ⟨rfl,e1⟩:=hR
  refine ⟨_,_,rfl,(by simp only [ls,lz];exact rfl),?_⟩
  replace q3:=(e1).keep0 q3
  replace q6:=(e1).keep0 q6
  replace q14:=(e1).keep0 q14
  replace q16:=(e1).keep0 q16
  replace E:=Z4 E (e1)
  refine Z3 rfl rfl (Zi (v:=.tuple _) rfl rfl) (by simp only [ls,lz];exact rfl) ?_
  refine Z3 rfl rfl (Zm rfl rfl (get0)) (by simp only [ls,lz];exact rfl) ?_
  refine Z3 rfl rfl (Zm rfl rfl (getS (get0))) (by simp only [ls,lz];exact rfl) ?_
  refine Z3 rfl rfl (Zm rfl rfl (getS (getS (get0)))) (by simp only [ls,lz];exact rfl) ?_
  refine Zy rfl rfl (ZB rfl Try.zeroValue100) (by simp only [ls,lz];exact rfl) fun w6 hw=>?_
  obtain ⟨n8,hn⟩:∃ n,n = w5.heap.size:=⟨_,rfl⟩
  rw [← hn]
  have l8:w.heap.size ≤ n8:=by rw [hn];exact E.size
  have m8_3:n3 < n8:=by rw [hn];exact Z7 q3
  have m8_6:n6 < n8:=by rw [hn];exact Z7 q6
  have m8_14:n14 < n8:=by rw [hn];exact Z7 q14
  have m8_16:n16 < n8:=by rw [hn];exact Z7 q16
  replace q3:=Z1 hw q3
  replace q6:=Z1 hw q6
  replace q14:=Z1 hw q14
  replace q16:=Z1 hw q16
  have q8:=Zr hw hn
  replace E:=Z2 E hw
  clear hw hn
  refine Zy rfl rfl (ZB rfl Try.zeroValue105) (by simp only [ls,lz];exact rfl) fun w7 hw=>?_
  obtain ⟨n9,hn⟩:∃ n,n = w6.heap.size:=⟨_,rfl⟩
  rw [← hn]
  have l9:w.heap.size ≤ n9:=by rw [hn];exact E.size
  have m9_3:n3 < n9:=by rw [hn];exact Z7 q3
  have m9_6:n6 < n9:=by rw [hn];exact Z7 q6
  have m9_14:n14 < n9:=by rw [hn];exact Z7 q14
  have m9_16:n16 < n9:=by rw [hn];exact Z7 q16
  have m9_8:n8 < n9:=by rw [hn];exact Z7 q8
  replace q3:=Z1 hw q3
  replace q6:=Z1 hw q6
  replace q14:=Z1 hw q14
  replace q16:=Z1 hw q16
  replace q8:=Z1 hw q8
  have q9:=Zr hw hn
  replace E:=Z2 E hw
  clear hw hn
  refine ZY rfl rfl (Zg rfl rfl rfl (by rw [hVs];kernel_rfl) hVo q8 (by rw [hVs];rfl)) fun w8 hw=>?_
  replace q3:=Z5 hw q3 (by omega)
  replace q6:=Z5 hw q6 (by omega)
  replace q14:=Z5 hw q14 (by omega)
  replace q16:=Z5 hw q16 (by omega)
  replace q8:=Zz hw q8 (by rw [hVs];rfl)
  replace q9:=Z5 hw q9 (by omega)
  replace E:=Za E hw (fun h=>by first | exact absurd h (by omega) | simp)
  clear hw
  refine ZY rfl rfl (Zg rfl rfl rfl (by rw [Zj];kernel_rfl) (by rw [← ZI];exact all_oneCell_toArray (Z05 _)) q9 (by show Try.zeroCells105.size = _;rw [Try.zeroCells105_size,Zj])) fun w9 hw=>?_
  replace q3:=Z5 hw q3 (by omega)
  replace q6:=Z5 hw q6 (by omega)
  replace q14:=Z5 hw q14 (by omega)
  replace q16:=Z5 hw q16 (by omega)
  replace q8:=Z5 hw q8 (by omega)
  replace q9:=Zz hw q9 (by show Try.zeroCells105.size = _;rw [Try.zeroCells105_size,Zj])
  replace E:=Za E hw (fun h=>by first | exact absurd h (by omega) | simp)
  clear hw
  refine Z3 rfl rfl (Z8 (v:=.int .i64 _) rfl rfl) (by simp only [ls,lz];exact rfl) ?_
  refine wpList_nil ?_
  clear e1
  go_upto_region 4 with (fail)
  refine Z0g 4 follows (by kernel_rfl) fun w10 hw10 ew10=>?_
  replace q3:=Zn hw10 q3
  replace q6:=Zn hw10 q6
  replace q14:=Zn hw10 q14
  replace q16:=Zn hw10 q16
  replace q8:=Zn hw10 q8
  replace q9:=Zn hw10 q9
  replace E:=Z4 E ew10
  clear hw10 ew10
  refine Zp rfl rfl (Zt rfl rfl Try.underlying105 rfl (by rw [Zj];kernel_rfl) q9) (by simp only [ls,lz];exact rfl) ?_
  refine Zp rfl rfl (Zi (v:=.int .i64 _) rfl rfl) (by simp only [ls,lz];exact rfl) ?_
  refine Zp rfl rfl (Zi (v:=.int .i64 _) rfl rfl) (by simp only [ls,lz];exact rfl) ?_
  refine Z0Z rfl rfl (by kernel_rfl) (Z1W s a _ (by omega) (by omega) (by omega) (by omega)) (by simp only [ls,lz];exact rfl) ?_
  refine wpStill_nil ?_
  refine ZC rfl rfl (by kernel_rfl) (Z3N m 0 (1 + s * 3 + a) _ (by omega) (by omega) (by omega) (by omega) big.1 big.2) fun e w11 hR=>?_
  obtain ⟨rfl,hb⟩:=hR
  refine ⟨_,_,rfl,(by simp only [ls,lz];exact rfl),?_⟩
  replace q3:=(Ext.of_below hb).keep0 q3
  replace q6:=(Ext.of_below hb).keep0 q6
  replace q14:=(Ext.of_below hb).keep0 q14
  replace q16:=(Ext.of_below hb).keep0 q16
  replace q8:=(Ext.of_below hb).keep0 q8
  replace q9:=(Ext.of_below hb).keep0 q9
  replace E:=Z4 E (Ext.of_below hb)
  refine ZY rfl rfl (Zg rfl rfl rfl (by kernel_rfl) (by simp [Value.oneCell']) q6 rfl) fun w12 hw=>?_
  replace q3:=Z5 hw q3 (by omega)
  replace q6:=Zz hw q6 rfl
  replace q14:=Z5 hw q14 (by omega)
  replace q16:=Z5 hw q16 (by omega)
  replace q8:=Z5 hw q8 (by omega)
  replace q9:=Z5 hw q9 (by omega)
  replace E:=Za E hw (fun h=>by first | exact absurd h (by omega) | simp)
  clear hw
  refine Z3 rfl rfl (Z8 (v:=.int .i64 _) rfl rfl) (by simp only [ls,lz];exact rfl) ?_
  refine wpList_nil ?_
  go_wp2
  refine bodyPost_ret (Z3T rfl rfl Try.underlying23 rfl (by kernel_rfl) q6 rfl) rfl ⟨rfl,E⟩
 ·rw [show Z5Z t s a = (0,0) from if_neg h]
  obtain ⟨ce,hce⟩:∃ ce,ce = Z3p t s a:=⟨_,rfl⟩
  rw [← hce] at h HK ⊢
  clear hce
  have hb:(ce != 0) = true:=by simpa using h
  generalize Z1g t (sel3 [s] [a] []) = m at HK
  unfold tpV at HK ⊢
  go_enter Try.func33,Try.ntmps33
  go_upto_region 0 with (fail)
  refine wp_region_lit ?_
  refine Zy rfl rfl (Z0z (v:=.agg _) rfl rfl) (by simp only [ls,lz];exact rfl) fun w1 hw=>?_
  obtain ⟨n3,hn⟩:∃ n,n = w.heap.size:=⟨_,rfl⟩
  rw [← hn]
  have l3:w.heap.size ≤ n3:=by rw [hn];exact E.size
  have q3:=Zr hw hn
  replace E:=Z2 E hw
  clear hw hn
  refine Zy rfl rfl (ZB rfl Try.zeroValue23) (by simp only [ls,lz];exact rfl) fun w2 hw=>?_
  obtain ⟨n6,hn⟩:∃ n,n = w1.heap.size:=⟨_,rfl⟩
  rw [← hn]
  have l6:w.heap.size ≤ n6:=by rw [hn];exact E.size
  have m6_3:n3 < n6:=by rw [hn];exact Z7 q3
  replace q3:=Z1 hw q3
  have q6:=Zr hw hn
  replace E:=Z2 E hw
  clear hw hn
  refine Z3 rfl rfl (Z8 (v:=.int .i64 _) rfl rfl) (by simp only [ls,lz];exact rfl) ?_
  refine wpList_nil ?_
  go_upto_region 1 with (fail)
  refine wp_region_lit ?_
  refine Z3 rfl rfl (Zt rfl rfl Try.underlying28 rfl (by kernel_rfl) q3) (by simp only [ls,lz];exact rfl) ?_
  refine Z3 rfl rfl (Zi (v:=.int .i64 _) rfl rfl) (by simp only [ls,lz];exact rfl) ?_
  refine Zy rfl rfl (ZE rfl Try.underlying29 (size:=1) (by kernel_rfl) (by decide) (by decide) Try.zeroValue3 (cells:=#[.int .i64 s]) (by kernel_rfl)) (by simp only [ls,lz];exact rfl) fun w3 hw=>?_
  obtain ⟨n14,hn⟩:∃ n,n = w2.heap.size:=⟨_,rfl⟩
  rw [← hn]
  have l14:w.heap.size ≤ n14:=by rw [hn];exact E.size
  have m14_3:n3 < n14:=by rw [hn];exact Z7 q3
  have m14_6:n6 < n14:=by rw [hn];exact Z7 q6
  replace q3:=Z1 hw q3
  replace q6:=Z1 hw q6
  have q14:=Zw hw hn
  replace E:=Z2 E hw
  clear hw hn
  refine Z3 rfl rfl (Zi (v:=.int .i64 _) rfl rfl) (by simp only [ls,lz];exact rfl) ?_
  refine Zy rfl rfl (ZE rfl Try.underlying29 (size:=1) (by kernel_rfl) (by decide) (by decide) Try.zeroValue3 (cells:=#[.int .i64 a]) (by kernel_rfl)) (by simp only [ls,lz];exact rfl) fun w4 hw=>?_
  obtain ⟨n16,hn⟩:∃ n,n = w3.heap.size:=⟨_,rfl⟩
  rw [← hn]
  have l16:w.heap.size ≤ n16:=by rw [hn];exact E.size
  have m16_3:n3 < n16:=by rw [hn];exact Z7 q3
  have m16_6:n6 < n16:=by rw [hn];exact Z7 q6
  have m16_14:n14 < n16:=by rw [hn];exact Z7 q14
  replace q3:=Z1 hw q3
  replace q6:=Z1 hw q6
  replace q14:=Z1 hw q14
  have q16:=Zw hw hn
  replace E:=Z2 E hw
  clear hw hn
  refine ZC rfl rfl (by kernel_rfl) (HK.out _ n14 n16 E q14 q16) fun e w5 hR=>?_
  obtain ⟨rfl,e1⟩:=hR
  refine ⟨_,_,rfl,(by simp only [ls,lz];exact rfl),?_⟩
  replace q3:=(e1).keep0 q3
  replace q6:=(e1).keep0 q6
  replace q14:=(e1).keep0 q14
  replace q16:=(e1).keep0 q16
  replace E:=Z4 E (e1)
  refine Z3 rfl rfl (Zi (v:=.tuple _) rfl rfl) (by simp only [ls,lz];exact rfl) ?_
  refine Z3 rfl rfl (Zm rfl rfl (get0)) (by simp only [ls,lz];exact rfl) ?_
  refine Z3 rfl rfl (Zm rfl rfl (getS (get0))) (by simp only [ls,lz];exact rfl) ?_
  refine Z3 rfl rfl (Zm rfl rfl (getS (getS (get0)))) (by simp only [ls,lz];exact rfl) ?_
  refine Zy rfl rfl (ZB rfl Try.zeroValue100) (by simp only [ls,lz];exact rfl) fun w6 hw=>?_
  obtain ⟨n8,hn⟩:∃ n,n = w5.heap.size:=⟨_,rfl⟩
  rw [← hn]
  have l8:w.heap.size ≤ n8:=by rw [hn];exact E.size
  have m8_3:n3 < n8:=by rw [hn];exact Z7 q3
  have m8_6:n6 < n8:=by rw [hn];exact Z7 q6
  have m8_14:n14 < n8:=by rw [hn];exact Z7 q14
  have m8_16:n16 < n8:=by rw [hn];exact Z7 q16
  replace q3:=Z1 hw q3
  replace q6:=Z1 hw q6
  replace q14:=Z1 hw q14
  replace q16:=Z1 hw q16
  have q8:=Zr hw hn
  replace E:=Z2 E hw
  clear hw hn
  refine Zy rfl rfl (ZB rfl Try.zeroValue105) (by simp only [ls,lz];exact rfl) fun w7 hw=>?_
  obtain ⟨n9,hn⟩:∃ n,n = w6.heap.size:=⟨_,rfl⟩
  rw [← hn]
  have l9:w.heap.size ≤ n9:=by rw [hn];exact E.size
  have m9_3:n3 < n9:=by rw [hn];exact Z7 q3
  have m9_6:n6 < n9:=by rw [hn];exact Z7 q6
  have m9_14:n14 < n9:=by rw [hn];exact Z7 q14
  have m9_16:n16 < n9:=by rw [hn];exact Z7 q16
  have m9_8:n8 < n9:=by rw [hn];exact Z7 q8
  replace q3:=Z1 hw q3
  replace q6:=Z1 hw q6
  replace q14:=Z1 hw q14
  replace q16:=Z1 hw q16
  replace q8:=Z1 hw q8
  have q9:=Zr hw hn
  replace E:=Z2 E hw
  clear hw hn
  refine ZY rfl rfl (Zg rfl rfl rfl (by rw [hVs];kernel_rfl) hVo q8 (by rw [hVs];rfl)) fun w8 hw=>?_
  replace q3:=Z5 hw q3 (by omega)
  replace q6:=Z5 hw q6 (by omega)
  replace q14:=Z5 hw q14 (by omega)
  replace q16:=Z5 hw q16 (by omega)
  replace q8:=Zz hw q8 (by rw [hVs];rfl)
  replace q9:=Z5 hw q9 (by omega)
  replace E:=Za E hw (fun h=>by first | exact absurd h (by omega) | simp)
  clear hw
  refine ZY rfl rfl (Zg rfl rfl rfl (by rw [Zj];kernel_rfl) (by rw [← ZI];exact all_oneCell_toArray (Z05 _)) q9 (by show Try.zeroCells105.size = _;rw [Try.zeroCells105_size,Zj])) fun w9 hw=>?_
  replace q3:=Z5 hw q3 (by omega)
  replace q6:=Z5 hw q6 (by omega)
  replace q14:=Z5 hw q14 (by omega)
  replace q16:=Z5 hw q16 (by omega)
  replace q8:=Z5 hw q8 (by omega)
  replace q9:=Zz hw q9 (by show Try.zeroCells105.size = _;rw [Try.zeroCells105_size,Zj])
  replace E:=Za E hw (fun h=>by first | exact absurd h (by omega) | simp)
  clear hw
  refine Z3 rfl rfl (Z8 (v:=.int .i64 _) rfl rfl) (by simp only [ls,lz];exact rfl) ?_
  refine wpList_nil ?_
  clear e1
  go_upto_region 3 with (fail)
  refine wp_region_lit ?_
  refine Z3 rfl rfl (ZZ rfl (cells:=#[.int .i64 0,.int .i64 0]) (by kernel_rfl)) (by simp only [ls,lz];exact rfl) ?_
  refine Z3 rfl rfl (Zi (v:=.int .i64 _) rfl rfl) (by simp only [ls,lz];exact rfl) ?_
  refine ZY rfl rfl (Zg rfl rfl rfl (by kernel_rfl) (by simp [Value.oneCell']) q6 rfl) fun w10 hw=>?_
  replace q3:=Z5 hw q3 (by omega)
  replace q6:=Zz hw q6 rfl
  replace q14:=Z5 hw q14 (by omega)
  replace q16:=Z5 hw q16 (by omega)
  replace q8:=Z5 hw q8 (by omega)
  replace q9:=Z5 hw q9 (by omega)
  replace E:=Za E hw (fun h=>by first | exact absurd h (by omega) | simp)
  clear hw
  refine Z3 rfl rfl (Z8 (v:=.int .i64 _) rfl rfl) (by simp only [ls,lz];exact rfl) ?_
  refine wpList_nil ?_
  go_wp2
  refine bodyPost_ret (Z3T rfl rfl Try.underlying23 rfl (by kernel_rfl) q6 rfl) rfl ⟨rfl,E⟩
section
variable {P:Program} {md:Region.Mode} {ops:Array Oper} {Q:Exit → Act → World → Prop} {T:World → Prop} {last:Nat}
def Z1i (P:Program) (md:Region.Mode) (ops:Array Oper) (Q:Exit → Act → World → Prop) (T:World → Prop) (last:Nat):Nat → Array Bool → Act → World → Prop
 | 0,listed,a,w=>Region.ready md ops listed = [] ∧ Q .normal a w
 | fuel + 1,listed,a,w =>
  (Region.ready md ops listed = [] → Q .normal a w) ∧
  ∀ i ∈ Region.ready md ops listed,wpOp P ops Q i (fun a' w'=>((listed.setIfInBounds i true).getD last true = false → T w') ∧ Z1i P md ops Q T last fuel (listed.setIfInBounds i true) a' w') a w
theorem Z77:∀ (fuel:Nat) (listed:Array Bool) (a:Act) (w:World),Z1i P md ops Q T last fuel listed a w → wpAny P md ops Q fuel listed a w
 | 0,_,_,_,h=>h
 | fuel + 1,_,_,_,h=>⟨h.1,fun i hi=>wpOp_mono (fun a' w' h'=>Z77 fuel _ a' w' h'.2) (h.2 i hi)⟩
theorem Z7Z {i:Nat} {oi ol:Oper} {v:Value} (hi:ops[i]? = some oi) (hil:i ≠ last) (hol:ops[last]? = some ol) (hwait:∃ e ∈ ol.after,Region.binds md e = true ∧ e.on = i) (hsel:∀ (j:Nat) (o:Oper) cs b,ops[j]? = some o → o.op ≠ .select cs b)
  (hQ:∀ c a w,Q (.panic c) (a.put oi.dst v) w → Q (.panic c) a w) :
  ∀ (fuel:Nat) (listed:Array Bool) (a:Act) (w:World),
   (∀ j oj,ops[j]? = some oj → j ≠ i → listed.getD j true = false → (∀ e ∈ oj.after,Region.binds md e = true → e.on ≠ i) → oi.apart ops oj = true) →
   i ∈ Region.ready md ops listed → YieldsIf P ops T oi v a → listed.getD last true = false → T w →
   Z1i P md ops Q T last fuel (listed.setIfInBounds i true) (a.put oi.dst v) w → Z1i P md ops Q T last (fuel + 1) listed a w:=by
 intro fuel
 induction fuel with
 | zero =>
  intro listed a w _ hr hy hl hT H
  refine ⟨fun h=>(by rw [h] at hr;cases hr),fun j hj=>?_⟩
  by_cases hji:j = i
  ·subst hji;exact hy.wpOp hi hT ⟨fun _=>hT,H⟩
  ·have:=ready_mono hj hji
   rw [H.1] at this
   cases this
 | succ fuel ih =>
  intro listed a w hfree hr hy hl hT H
  refine ⟨fun h=>(by rw [h] at hr;cases hr),fun j hj=>?_⟩
  by_cases hji:j = i
  ·subst hji;exact hy.wpOp hi hT ⟨fun _=>hT,H⟩
  ·have h1:=H.2 j (ready_mono hj hji)
   obtain ⟨hjun,oj,hoj,hall⟩:=mem_ready.1 hj
   have hnot:∀ e ∈ oj.after,Region.binds md e = true → e.on ≠ i:=fun e he hb heq=>by
    have h1:=hall e he hb
    have h0:=(mem_ready.1 hr).1
    rw [heq] at h1
    rcases Nat.lt_or_ge i listed.size with h' | h'
    ·simp [h'] at h0 h1;rw [h0] at h1;cases h1
    ·simp [Array.getElem?_eq_none h'] at h1
   have hjl:j ≠ last:=fun e=>by
    subst e
    rw [hoj] at hol;cases hol
    obtain ⟨e,he,hb,heq⟩:=hwait
    exact hnot e he hb heq
   have h2:=wpOp_putIf hoj (hfree j oj hoj hji hjun hnot) (fun cs b=>hsel i oi cs b hi) (fun cs b=>hsel j oj cs b hoj) hQ hy h1
   have hfree':∀ k ok,ops[k]? = some ok → k ≠ i → (listed.setIfInBounds j true).getD k true = false →
     (∀ e ∈ ok.after,Region.binds md e = true → e.on ≠ i) → oi.apart ops ok = true:=fun k ok hk hki hun hno=>by
    refine hfree k ok hk hki ?_ hno
    by_cases hjk:j = k
    ·subst hjk;exact hjun
    ·rw [getD_set_ne true hjk] at hun;exact hun
   have hl2:(listed.setIfInBounds j true).getD last true = false:=by rw [getD_set_ne true hjl];exact hl
   have hl3:((listed.setIfInBounds i true).setIfInBounds j true).getD last true = false:=by rw [getD_set_ne true hjl,getD_set_ne true hil];exact hl
   refine wpOp_mono (fun a' w' h3=>⟨fun _=>h3.2.1 hl3,ih (listed.setIfInBounds j true) a' w' hfree' (ready_mono hr (Ne.symm hji)) h3.1 hl2 (h3.2.1 hl3) ?_⟩) h2
   rw [Array.setIfInBounds_comm _ _ hji]
   exact h3.2.2
theorem Zk {i d:Nat} {oi ol:Oper} {v:Value} {fuel:Nat} {listed:Array Bool} {l l':List Value} {ds:List Deferred} {w:World} (hi:ops[i]? = some oi) (hol:ops[last]? = some ol) (hil:i ≠ last)
  (hwait:(ol.after.any fun e=>Region.binds md e && e.on == i) = true) (hs:Region.noSelect ops = true) (hf:Region.free md ops listed i = true) (hr:(Region.ready md ops listed).contains i = true) (hll:listed.getD last true = false)
  (hQ:∀ c a w,Q (.panic c) (a.put oi.dst v) w → Q (.panic c) a w) (hd:oi.dst = some d) (hw:Region.wanted oi (yielded ops l.toArray) = true) (hrun:∀ w,T w → (execOp (Act.eval ⟨l.toArray,ds⟩) oi).run P w = .ok (.value v) w) (hT:T w) (hl:l.set d v = l')
  (h:Z1i P md ops Q T last fuel (listed.setIfInBounds i true) ⟨l'.toArray,ds⟩ w):Z1i P md ops Q T last (fuel + 1) listed ⟨l.toArray,ds⟩ w:=by
 refine Z7Z hi hil hol ?_ (Region.noSelect_spec hs) hQ fuel listed _ w (Region.free_spec hi hf) (by simpa using hr) (.inl ⟨hw,hrun⟩) hll hT (by rw [Z1T _ hd,hl];exact h)
 obtain ⟨e,he,hb⟩:=Array.any_eq_true'.1 hwait
 simp only [Bool.and_eq_true,beq_iff_eq] at hb
 exact ⟨e,he,hb.1,hb.2⟩
theorem Z6A {i:Nat} {o:Oper} {fuel:Nat} {listed:Array Bool} {a:Act} {w:World} (hi:ops[i]? = some o) (hr:Region.ready md ops listed = [i])
  (hw:Region.wanted o (yielded ops a.tmps) = true) (h:o.wp P a w (fun a' w'=>((listed.setIfInBounds i true).getD last true = false → T w') ∧ Z1i P md ops Q T last fuel (listed.setIfInBounds i true) a' w') Q):Z1i P md ops Q T last (fuel + 1) listed a w:=by
 refine ⟨fun h0=>(by rw [hr] at h0;cases h0),fun j hj=>?_⟩
 rw [hr] at hj
 obtain rfl:j = i:=by simpa using hj
 unfold wpOp
 simp only [hi,hw,if_true]
 exact .inl h
theorem Z1z {i d:Nat} {o:Oper} {v:Value} {fuel:Nat} {listed:Array Bool} {l l':List Value} {ds:List Deferred} {w w':World} (hi:ops[i]? = some o) (hr:Region.ready md ops listed = [i])
  (hd:o.dst = some d) (hw:Region.wanted o (yielded ops l.toArray) = true) (hrun:(execOp (Act.eval ⟨l.toArray,ds⟩) o).run P w = .ok (.value v) w') (hl:l.set d v = l')
  (h:∀ W2,W2 = w' → ((listed.setIfInBounds i true).getD last true = false → T W2) ∧ Z1i P md ops Q T last fuel (listed.setIfInBounds i true) ⟨l'.toArray,ds⟩ W2):Z1i P md ops Q T last (fuel + 1) listed ⟨l.toArray,ds⟩ w:=by
 refine Z6A hi hr hw ?_
 unfold Oper.wp
 simp only [hrun,Oper.upon]
 rw [Z1T _ hd,hl]
 exact h _ rfl
theorem Z0e {i d:Nat} {o:Oper} {f:FuncId} {args:Array Value} {R:Ending → World → Prop} {fuel:Nat} {listed:Array Bool} {l:List Value} {ds:List Deferred} {w:World} (hi:ops[i]? = some o) (hr:Region.ready md ops listed = [i])
  (hd:o.dst = some d) (hw:Region.wanted o (yielded ops l.toArray) = true) (hrun:(execOp (Act.eval ⟨l.toArray,ds⟩) o).run P w = .ok (.enter f args) w) (hc:Calls P f args w R)
  (h:∀ e w',R e w' → ∃ v l',e = .returned v ∧ l.set d v = l' ∧ T w' ∧ Z1i P md ops Q T last fuel (listed.setIfInBounds i true) ⟨l'.toArray,ds⟩ w'):Z1i P md ops Q T last (fuel + 1) listed ⟨l.toArray,ds⟩ w:=by
 refine Z6A hi hr hw ?_
 unfold Oper.wp
 simp only [hrun,Oper.upon]
 refine hc.mono fun e w' hR=>?_
 obtain ⟨v,l',rfl,hl,h3,h4⟩:=h e w' hR
 show _ ∧ _
 rw [Z1T _ hd,hl]
 exact ⟨fun _=>h3,h4⟩
theorem Z0o {o:Oper} {fuel:Nat} {listed:Array Bool} {l:List Value} {ds:List Deferred} {w w':World} (hi:ops[last]? = some o) (hr:Region.ready md ops listed = [last])
  (hd:o.dst = none) (hw:Region.wanted o (yielded ops l.toArray) = true) (hrun:(execOp (Act.eval ⟨l.toArray,ds⟩) o).run P w = .ok .skip w') (hlast:(listed.setIfInBounds last true).getD last true = true)
  (h:∀ W2,W2 = w' → Z1i P md ops Q T last fuel (listed.setIfInBounds last true) ⟨l.toArray,ds⟩ W2):Z1i P md ops Q T last (fuel + 1) listed ⟨l.toArray,ds⟩ w:=by
 refine Z6A hi hr hw ?_
 unfold Oper.wp
 simp only [hrun,Oper.upon,hd,Act.put]
 exact ⟨fun h0=>(by rw [hlast] at h0;cases h0),h _ rfl⟩
theorem Z0X {i j:Nat} {fuel:Nat} {listed:Array Bool} {a:Act} {w:World} (hr:Region.ready md ops listed = [i,j])
  (h1:wpOp P ops Q i (fun a' w'=>((listed.setIfInBounds i true).getD last true = false → T w') ∧ Z1i P md ops Q T last fuel (listed.setIfInBounds i true) a' w') a w)
  (h2:wpOp P ops Q j (fun a' w'=>((listed.setIfInBounds j true).getD last true = false → T w') ∧ Z1i P md ops Q T last fuel (listed.setIfInBounds j true) a' w') a w):Z1i P md ops Q T last (fuel + 1) listed a w:=by
 refine ⟨fun h0=>(by rw [hr] at h0;cases h0),fun k hk=>?_⟩
 rw [hr] at hk
 simp only [List.mem_cons,List.not_mem_nil,or_false] at hk
 rcases hk with rfl | rfl
 ·exact h1
 ·exact h2
theorem Z1l {i d:Nat} {o:Oper} {v:Value} {l l':List Value} {ds:List Deferred} {w w':World} {K:Act → World → Prop} (hi:ops[i]? = some o)
  (hd:o.dst = some d) (hw:Region.wanted o (yielded ops l.toArray) = true) (hrun:(execOp (Act.eval ⟨l.toArray,ds⟩) o).run P w = .ok (.value v) w') (hl:l.set d v = l')
  (h:∀ W2,W2 = w' → K ⟨l'.toArray,ds⟩ W2):wpOp P ops Q i K ⟨l.toArray,ds⟩ w:=by
 unfold wpOp
 simp only [hi,hw,if_true,Oper.wp,hrun,Oper.upon]
 rw [Z1T _ hd,hl]
 exact .inl (h _ rfl)
theorem Z1A {i d:Nat} {o:Oper} {f:FuncId} {args:Array Value} {R:Ending → World → Prop} {l:List Value} {ds:List Deferred} {w:World} {K:Act → World → Prop} (hi:ops[i]? = some o)
  (hd:o.dst = some d) (hw:Region.wanted o (yielded ops l.toArray) = true) (hrun:(execOp (Act.eval ⟨l.toArray,ds⟩) o).run P w = .ok (.enter f args) w) (hc:Calls P f args w R)
  (h:∀ e w',R e w' → ∃ v l',e = .returned v ∧ l.set d v = l' ∧ K ⟨l'.toArray,ds⟩ w'):wpOp P ops Q i K ⟨l.toArray,ds⟩ w:=by
 unfold wpOp
 simp only [hi,hw,if_true,Oper.wp,hrun,Oper.upon]
 refine .inl (hc.mono fun e w' hR=>?_)
 obtain ⟨v,l',rfl,hl,h4⟩:=h e w' hR
 show K _ _
 rw [Z1T _ hd,hl]
 exact h4
theorem Z9x {i d:Nat} {o:Oper} {v:Value} {fuel:Nat} {listed:Array Bool} {l l':List Value} {ds:List Deferred} {w:World} (hi:ops[i]? = some o) (hr:Region.ready md ops listed = [i])
  (hd:o.dst = some d) (hw:Region.wanted o (yielded ops l.toArray) = true) (hrun:∀ w,T w → (execOp (Act.eval ⟨l.toArray,ds⟩) o).run P w = .ok (.value v) w) (hT:T w) (hl:l.set d v = l')
  (h:Z1i P md ops Q T last fuel (listed.setIfInBounds i true) ⟨l'.toArray,ds⟩ w):Z1i P md ops Q T last (fuel + 1) listed ⟨l.toArray,ds⟩ w:=
 Z1z hi hr hd hw (hrun w hT) hl fun W2 e=>by subst e;exact ⟨fun _=>hT,h⟩
theorem Z0p {listed:Array Bool} {a:Act} {w:World} (hr:Region.ready md ops listed = []) (h:Q .normal a w):∀ fuel,Z1i P md ops Q T last fuel listed a w
 | 0=>⟨hr,h⟩
 | _ + 1=>⟨fun _=>h,by rw [hr];simp⟩
theorem Z16 {l:List Oper} {L:List Value} {ds:List Deferred} {id:Nat} {w:World} (T:World → Prop) (last:Nat) (hm:P.follows .mixedOrders = true)
  (h:∀ W:World,W.heap = w.heap → Ext [] w W → Z1i P .any l.toArray Q T last l.toArray.size (Array.replicate l.toArray.size false) ⟨L.toArray,ds⟩ W):(Code.region id l.toArray true).wp P Q ⟨L.toArray,ds⟩ w:=
 wp_region_any hm (Z77 _ _ _ _ (h _ rfl ⟨rfl,rfl,rfl,Nat.le_refl _,fun _ _ _=>rfl⟩))
end
end Go.Proofs.Ytholfdgebdlgjaa
