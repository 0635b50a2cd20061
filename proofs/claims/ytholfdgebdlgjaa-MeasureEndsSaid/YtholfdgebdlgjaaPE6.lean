/- Parts of a proof: Rng, Nxt, Ap, Cmp. No conditions. -/
import Derived.Laws.BitsAllLaws
import Derived.Laws.StructEq
import Derived.ScopeJumps
import Derived.Test.YtholfdgebdlgjaaPE1
import Derived.Test.YtholfdgebdlgjaaPE2
import Derived.Test.YtholfdgebdlgjaaPE4
import Derived.Test.YtholfdgebdlgjaaPE5
set_option linter.unusedVariables false
set_option linter.unusedSimpArgs false
namespace Go.Proofs.Ytholfdgebdlgjaa
open Go.RowKit
def Z2i (s:Int) (k:Nat):List Int:=((List.range k).filter (hasB s)).map Int.ofNat
theorem Z81 {s:Int} {k:Nat} (h:hasB s k = true):Z2i s (k + 1) = Z2i s k ++ [(k:Int)]:=by
 simp [Z2i,List.range_succ,List.filter_append,h]
theorem Z8J {s:Int} {k:Nat} (h:hasB s k = false):Z2i s (k + 1) = Z2i s k:=by
 simp [Z2i,List.range_succ,List.filter_append,h]
theorem Z7G (s:Int) (k:Nat):(Z2i s k).length ≤ k:=by
 unfold Z2i
 rw [List.length_map]
 exact Nat.le_trans (List.length_filter_le _ _) (by simp)
def Z9H (xs:List Int):List Value:=(xs.map Z0Q).flatten
theorem Z87 (xs:List Int) (x:Int):Z9H (xs ++ [x]) = Z9H xs ++ [.int .i64 x]:=by simp [Z9H,Z0Q]
set_option maxRecDepth 100000 in
set_option maxHeartbeats 2000000 in
theorem Z9K (s:Int) (w:World) (h1:0 ≤ s) (h2:s < 65536) :
  Calls Try.prog 113 #[.int .u16 s] w fun e w'=>∃ a cap,e = .returned (.slice a (Z2i s 8).length cap) ∧ Z0E w' (.slice a (Z2i s 8).length cap) 1 ((Z2i s 8).map Z0Q) ∧ Ext [] w w':=by
 have E:Ext [] w w:=Ext.refl _ _
 go_enter Try.func113,Try.ntmps113
 go_wp2_with fail
 go_loopw [5,3] (fun iv v wr=>∃ k:Nat,k ≤ 8 ∧ iv = .int .i64 k ∧ wr.ownsRow w.heap.size 3 1 v (Z2i s k).length (Z9H (Z2i s k)) ∧ Ext [] w wr) (fun iv _ _=>8 - (intOf iv).toNat)
 case atStart=>exact ⟨0,Nat.zero_le _,rfl,World.ownsRow_nil _ _ _ _,E⟩
 case round =>
  clear E
  obtain ⟨k,hk,rfl,ho,E⟩:=hrel
  obtain ⟨sa,sc,rfl⟩:=Zs ho
  by_cases hlt:(k:Int) < 8
  ·have hc:=Z9e s k wr h1 h2 (by omega) (by omega)
   rw [Int.toNat_natCast] at hc
   cases hh:hasB s k
   ·rw [hh] at hc
    have H1:=Lib.hid (Z8J hh)
    go_wp2_with (go_at_call 126;refine hc.mono ?_;clear hc;rintro e w2 ⟨rfl,rfl⟩)
    go_roundw
    case rel=>exact ⟨k + 1,by omega,by go_num,by rw [H1.out];exact ho,E⟩
    case measure=>simp [intOf];omega
   ·rw [hh] at hc
    have H1:=Lib.hid (Z81 hh)
    have hlen:=Z7G s k
    go_upto_region 6 with (go_at_call 126;refine hc.mono ?_;clear hc;rintro e w2 ⟨rfl,rfl⟩)
    refine wp_region_lit ?_
    refine Z3 rfl rfl (Zi (v:=.slice _ _ _) rfl rfl) (by simp only [ls,lz];exact rfl) ?_
    refine Z3 rfl rfl (Zi (v:=.int .i64 _) rfl rfl) (by simp only [ls,lz];exact rfl) ?_
    refine Zy rfl rfl (ZE rfl Try.underlying29 (size:=1) (by kernel_rfl) (by decide) (by decide) Try.zeroValue3 (cells:=#[.int .i64 k]) (by kernel_rfl)) (by simp only [ls,lz];exact rfl) fun w1 hw=>?_
    obtain ⟨n13,hn⟩:∃ n,n = wr.heap.size:=⟨_,rfl⟩
    rw [← hn]
    have l13:w.heap.size ≤ n13:=by rw [hn];exact E.size
    replace ho:=Zc hw ho
    have q13:=Zw hw hn
    replace E:=Z2 E hw
    clear hw hn
    refine Z1G rfl rfl rfl (w.heap.size) (e:=3) (size:=1) (bytes:=8) Try.underlying29 (by kernel_rfl) (by decide) rfl ho rfl q13 rfl (by simp [Value.oneCell']) (by omega) (by omega) (by have:=E.size;omega) fun v' w2 hown' hg=>?_
    obtain ⟨va14,vc14,rfl⟩:=Zs hown'
    refine ⟨_,(by simp only [ls,lz];exact rfl),?_⟩
    replace E:=Z42 E ho hg (by omega)
    replace ho:=hown'
    clear hg
    refine Z3 rfl rfl (Z8 (v:=.slice _ _ _) rfl rfl) (by simp only [ls,lz];exact rfl) ?_
    refine wpList_nil ?_
    go_wp2
    go_roundw
    case rel=>exact ⟨k + 1,by omega,by go_num,by rw [H1.out,Z87,List.length_append];exact ho,E⟩
    case measure=>simp [intOf];omega
  ·obtain rfl:k = 8:=by omega
   go_wp2
   go_ret
   exact ⟨sa,sc,rfl,Z13 ho (fun _=>rfl),E⟩
theorem Z98 (many:Nat) (hm:many ≤ 15):∀ (more s from_:Nat),s < 65536 → ∀ x ∈ Z23 many more s from_,x < 65536
 | 0,s,_,hs,x,hx=>by simp [Z23] at hx;omega
 | more + 1,s,from_,hs,x,hx=>by
  simp only [Z23,List.mem_flatMap,List.mem_range] at hx
  obtain ⟨k,hk,hx⟩:=hx
  exact Z98 many hm more _ _ (Z8P hs (by omega)) x hx
theorem Zax {many:Nat} (hm:many ≤ 15) {x:Nat} (hx:x ∈ Z3q many):x < 65536:=by
 simp only [Z3q,List.mem_flatMap,List.mem_range] at hx
 obtain ⟨k,hk,hx⟩:=hx
 exact Z98 many hm k 0 0 (by omega) x hx
def outN (all s:Nat):Nat:=all &&& (65535 - s)
theorem ZaA {all s:Nat} (h:all < 65536):outN all s < 65536:=Nat.lt_of_le_of_lt Nat.and_le_left h
theorem Z83 {P:Program} {ρ:Operand → Value} {o:Oper} {w:World} {x y:Operand} {t t':TypeId} {a b:Nat} (ho:o.op = .binOp .andNot t x y t') (hx:ρ x = .int .u16 a) (hy:ρ y = .int .u16 b) (ha:a < 65536) (hb:b < 65536) :
  (execOp ρ o).run P w = .ok (.value (.int .u16 (outN a b:Nat))) w:=by
 rw [Z9V ho hx hy,u16_andNot_nat a b ha hb];rfl
set_option maxRecDepth 100000 in
set_option maxHeartbeats 2000000 in
theorem Z9j (t:Tp) (ok:t.Ok) (gv rv lv:Value) (b1 b2 all x:Nat) (w:World) (ht:IsTp w gv rv lv t) (h1:w.heap[b1]? = some (.cells (Z26 t gv rv lv) 100 (0,0))) (h2:w.heap[b2]? = some (.cells #[.int .u16 all] 109 (0,0))) (ha:all < 65536) (hx:x < 65536) :
  Calls Try.prog 112 #[.int .u16 x,.pointer (some ⟨b1,0,none⟩),.pointer (some ⟨b2,0,none⟩)] w fun e w'=>e = .returned (.bool (!bdB t (outN all x))) ∧ Ext [] w w':=by
 have HS:Hid (∀ W:World,Ext [] w W → Calls Try.prog 80 #[tpV t gv rv lv,.int .u16 (outN all x:Nat)] W fun e w'=>e = .returned (.tuple #[.agg (ZD (bdV t (outN all x:Nat))),.bool (bdB t (outN all x:Nat))]) ∧ Ext [] W w'):=
  fun W e=>Z5j t ok gv rv lv (outN all x:Nat) (by omega) (by have:=ZaA (s:=x) ha;omega) W (ht.ext e (by simp))
 clear ht
 obtain ⟨m,hm⟩:∃ m,m = bdV t (outN all x:Nat):=⟨_,rfl⟩
 obtain ⟨b,hb⟩:∃ b,b = bdB t (outN all x:Nat):=⟨_,rfl⟩
 rw [← hm,← hb] at HS
 rw [← hb]
 clear hm hb
 have E:Ext [] w w:=Ext.refl _ _
 unfold tpV at HS
 unfold Z26 at h1
 go_enter Try.func112,Try.ntmps112
 go_upto_region 1 with (fail)
 refine wp_region_lit ?_
 refine Z3 rfl rfl (Zt rfl rfl Try.underlying100 rfl (by kernel_rfl) h1) (by simp only [ls,lz];exact rfl) ?_
 refine Z3 rfl rfl (Zh rfl rfl Try.underlying109 rfl ((Z0 h2 0).trans (get0))) (by simp only [ls,lz];exact rfl) ?_
 refine Z3 rfl rfl (Zi (v:=.int .u16 _) rfl rfl) (by simp only [ls,lz];exact rfl) ?_
 refine Z3 rfl rfl (Z83 rfl rfl rfl ha hx) (by simp only [ls,lz];exact rfl) ?_
 refine ZC rfl rfl (by kernel_rfl) (HS.out _ E) fun e w1 hR=>?_
 obtain ⟨rfl,e1⟩:=hR
 refine ⟨_,_,rfl,(by simp only [ls,lz];exact rfl),?_⟩
 replace h1:=(e1).keep0 h1
 replace h2:=(e1).keep0 h2
 replace E:=Z4 E (e1)
 refine Z3 rfl rfl (Zi (v:=.tuple _) rfl rfl) (by simp only [ls,lz];exact rfl) ?_
 refine Z3 rfl rfl (Zm rfl rfl (get0)) (by simp only [ls,lz];exact rfl) ?_
 refine Z3 rfl rfl (Zm rfl rfl (getS (get0))) (by simp only [ls,lz];exact rfl) ?_
 refine Zy rfl rfl (ZB rfl Try.zeroValue105) (by simp only [ls,lz];exact rfl) fun w2 hw=>?_
 obtain ⟨n5,hn⟩:∃ n,n = w1.heap.size:=⟨_,rfl⟩
 rw [← hn]
 have l5:w.heap.size ≤ n5:=by rw [hn];exact E.size
 have m5_1:b1 < n5:=by rw [hn];exact Z7 h1
 have m5_2:b2 < n5:=by rw [hn];exact Z7 h2
 replace h1:=Z1 hw h1
 replace h2:=Z1 hw h2
 have q5:=Zr hw hn
 replace E:=Z2 E hw
 clear hw hn
 refine ZY rfl rfl (Zg rfl rfl rfl (by rw [Zj];kernel_rfl) (by rw [← ZI];exact all_oneCell_toArray (Z05 _)) q5 (by show Try.zeroCells105.size = _;rw [Try.zeroCells105_size,Zj])) fun w3 hw=>?_
 replace h1:=Z5 hw h1 (by omega)
 replace h2:=Z5 hw h2 (by omega)
 replace q5:=Zz hw q5 (by show Try.zeroCells105.size = _;rw [Try.zeroCells105_size,Zj])
 replace E:=Za E hw (fun h=>by first | exact absurd h (by omega) | simp)
 clear hw
 refine Z3 rfl rfl (Z8 (v:=.bool _) rfl rfl) (by simp only [ls,lz];exact rfl) ?_
 refine wpList_nil ?_
 clear e1
 go_wp2
 go_ret
 exact ⟨rfl,E⟩
theorem Z7t (n:Nat) (w:World) (h:n < 16) :
  Calls Try.prog 109 #[.int .i64 n] w fun e w'=>e = .returned (.int .u16 ((2 ^ n - 1:Nat):Int)) ∧ w = w':=by
 refine (Za6 n w (by omega) (by omega)).mono fun e w' hh=>⟨hh.1.trans (ZM ?_),hh.2⟩
 rw [Int.toNat_natCast]
 have:=Nat.two_pow_pos n
 rw [Int.natCast_sub (by omega)];simp
def Z4i (t:Tp):Option Nat:=(Z3q t.rd.length).find? fun x=>!bdB t (outN (2 ^ t.rd.length - 1) x)
def Z6B (t:Tp):Int:=if Z08 t ≠ 0 then Z08 t else if (Z4i t).isSome then 0 else 11
def Z5r (t:Tp):List Int:=if Z08 t ≠ 0 then [] else if (Z4i t).isSome then Z2i ((Z4i t).getD 0) 8 else []
set_option maxRecDepth 100000 in
set_option maxHeartbeats 2000000 in
theorem Z9B (t:Tp) (gv rv lv:Value) (w:World) (ht:IsTp w gv rv lv t) (hl1:t.gr.length ≤ 1000) (hl2:t.rd.length ≤ 1000) (hl3:t.lk.length ≤ 1000) :
  Calls Try.prog 47 #[tpV t gv rv lv] w fun e w'=>∃ a cap,e = .returned (.tuple #[.slice a (Z5r t).length cap,.int .i64 (Z6B t)]) ∧ Z0E w' (.slice a (Z5r t).length cap) 1 ((Z5r t).map Z0Q) ∧ Ext [] w w':=by
 have hone:=Z3E ht
 obtain ⟨ra,rcap,hrv⟩:=Z1U ht.rd
 have HK:Hid (∀ W:World,Ext [] w W → Calls Try.prog 79 #[tpV t gv rv lv,.slice none 0 0,.slice none 0 0,.slice none 0 0] W fun e w'=>e = .returned (.tuple #[.agg (Z2E t noX gv rv lv),.int .i64 (Z1o t noX)]) ∧ Ext [] W w'):=
  fun W e=>Z5z t gv rv lv noX (fun _=>none) (fun _=>0) W (ht.ext e (by simp)) hl1 hl2 hl3 (fun i hi=>Z0M _ _ _) (fun i hi=>by simp [noX])
 have E:Ext [] w w:=Ext.refl _ _
 rw [Z2v] at HK
 by_cases h:Z08 t = 0
 ·obtain ⟨ok,h8⟩:=Z0x.1 h
  rw [Z2V ((Z2v t).trans h),h] at HK
  rw [show Z6B t = if (Z4i t).isSome then 0 else 11 by rw [Z6B,if_neg (by simpa using h)],show Z5r t = if (Z4i t).isSome then Z2i ((Z4i t).getD 0) 8 else [] by rw [Z5r,if_neg (by simpa using h)]]
  have hpw:2 ^ t.rd.length - 1 < 65536:=by
   have:=Nat.pow_le_pow_right (n:=2) (by decide) (show t.rd.length ≤ 16 by omega)
   omega
  have HF:Hid (∀ (W:World) (mb b1 b2:Nat),Ext [] w W → W.heap[mb]? = some (.cells #[.int .i64 t.rd.length] 3 (0,0)) → W.heap[b1]? = some (.cells (Z26 t gv rv lv) 100 (0,0)) → W.heap[b2]? = some (.cells #[.int .u16 ((2 ^ t.rd.length - 1:Nat):Int)] 109 (0,0)) →
    Calls Try.prog 110 #[.func (.func 138) #[] #[.pointer (some ⟨mb,0,none⟩)],.func (.func 112) #[] #[.pointer (some ⟨b1,0,none⟩),.pointer (some ⟨b2,0,none⟩)]] W fun e w'=>e = .returned (.tuple #[.int .u16 ((Z4i t).getD 0:Nat),.bool (Z4i t).isSome]) ∧ Ext [] W w'):=
   fun W mb b1 b2 e h1 h2 h3=>Z9g t.rd.length mb (by omega) b1 b2 _ W h1 fun x W2 hx e2=>Z9j t ok gv rv lv b1 b2 _ x W2 (ht.ext (e.nil e2) (by simp)) (e2.keep0 h2) (e2.keep0 h3) hpw hx
  have hR:∀ s,Z4i t = some s → s < 65536:=fun s hs=>Zax (many:=t.rd.length) (by omega) (List.mem_of_find?_eq_some hs)
  clear h ht ok
  subst hrv
  cases hrr:Z4i t with
  | none =>
   rw [hrr] at HF
   simp only [Option.isSome_none,Bool.false_eq_true,if_false,Option.getD_none]
   simp only [Option.isSome_none,Option.getD_none] at HF
   clear hR hrr
   unfold Z26 at HK HF
   unfold tpV at HK ⊢
   go_enter Try.func47,Try.ntmps47
   go_upto_region 0 with (fail)
   refine wp_region_lit ?_
   refine Zy rfl rfl (Z0z (v:=.agg _) rfl rfl) (by simp only [ls,lz];exact rfl) fun w1 hw=>?_
   obtain ⟨n1,hn⟩:∃ n,n = w.heap.size:=⟨_,rfl⟩
   rw [← hn]
   have l1:w.heap.size ≤ n1:=by rw [hn];exact E.size
   have q1:=Zr hw hn
   replace E:=Z2 E hw
   clear hw hn
   refine Z3 rfl rfl (Z8 (v:=.slice _ _ _) rfl rfl) (by simp only [ls,lz];exact rfl) ?_
   refine Z3 rfl rfl (Z8 (v:=.int .i64 _) rfl rfl) (by simp only [ls,lz];exact rfl) ?_
   refine wpList_nil ?_
   go_upto_region 1 with (fail)
   refine wp_region_lit ?_
   refine Z3 rfl rfl (Zt rfl rfl Try.underlying28 rfl (by kernel_rfl) q1) (by simp only [ls,lz];exact rfl) ?_
   refine ZC rfl rfl (by kernel_rfl) (HK.out _ E) fun e w2 hR=>?_
   obtain ⟨rfl,e1⟩:=hR
   refine ⟨_,_,rfl,(by simp only [ls,lz];exact rfl),?_⟩
   replace q1:=(e1).keep0 q1
   replace E:=Z4 E (e1)
   refine Z3 rfl rfl (Zi (v:=.tuple _) rfl rfl) (by simp only [ls,lz];exact rfl) ?_
   refine Z3 rfl rfl (Zm rfl rfl (get0)) (by simp only [ls,lz];exact rfl) ?_
   refine Z3 rfl rfl (Zm rfl rfl (getS (get0))) (by simp only [ls,lz];exact rfl) ?_
   refine Zy rfl rfl (ZB rfl Try.zeroValue100) (by simp only [ls,lz];exact rfl) fun w3 hw=>?_
   obtain ⟨n4,hn⟩:∃ n,n = w2.heap.size:=⟨_,rfl⟩
   rw [← hn]
   have l4:w.heap.size ≤ n4:=by rw [hn];exact E.size
   have m4_1:n1 < n4:=by rw [hn];exact Z7 q1
   replace q1:=Z1 hw q1
   have q4:=Zr hw hn
   replace E:=Z2 E hw
   clear hw hn
   refine ZY rfl rfl (Zg rfl rfl rfl (by kernel_rfl) (Z0S hone) q4 rfl) fun w4 hw=>?_
   replace q1:=Z5 hw q1 (by omega)
   replace q4:=Zz hw q4 rfl
   replace E:=Za E hw (fun h=>by first | exact absurd h (by omega) | simp)
   clear hw
   refine Z3 rfl rfl (Z8 (v:=.int .i64 _) rfl rfl) (by simp only [ls,lz];exact rfl) ?_
   refine wpList_nil ?_
   clear e1
   go_upto_region 4 with (fail)
   refine wp_region_lit ?_
   refine Z3 rfl rfl (Z9 rfl rfl Try.underlying28 rfl (n:=9) (sz:=1) rfl (by kernel_rfl) (by decide)) (by simp only [ls,lz];exact rfl) ?_
   refine Z3 rfl rfl (Zh rfl rfl Try.underlying25 rfl ((Z0 q1 9).trans (getS (getS (getS (getS (getS (getS (getS (getS (getS (get0)))))))))))) (by simp only [ls,lz];exact rfl) ?_
   refine Z3 rfl rfl (Z1c rfl rfl rfl Try.underlying25) (by simp only [ls,lz];exact rfl) ?_
   refine ZC rfl rfl (by kernel_rfl) (Z7t t.rd.length _ (by omega)) fun e w' hR=>?_
   obtain ⟨rfl,rfl⟩:=hR
   refine ⟨_,_,rfl,(by simp only [ls,lz];exact rfl),?_⟩
   refine Zy rfl rfl (ZB rfl Try.zeroValue109) (by simp only [ls,lz];exact rfl) fun w5 hw=>?_
   obtain ⟨n6,hn⟩:∃ n,n = w4.heap.size:=⟨_,rfl⟩
   rw [← hn]
   have l6:w.heap.size ≤ n6:=by rw [hn];exact E.size
   have m6_1:n1 < n6:=by rw [hn];exact Z7 q1
   have m6_4:n4 < n6:=by rw [hn];exact Z7 q4
   replace q1:=Z1 hw q1
   replace q4:=Z1 hw q4
   have q6:=Z4v hw rfl hn
   replace E:=Z2 E hw
   clear hw hn
   refine ZY rfl rfl (ZR (v:=.int .u16 _) rfl rfl rfl rfl (by kernel_rfl) ((Z0 q6 0).trans rfl) (Zl q6 0)) fun w6 hw=>?_
   replace q1:=ZA hw q1 (by omega)
   replace q4:=ZA hw q4 (by omega)
   replace q6:=ZK hw q6 (by simp only [List.setIfInBounds_toArray,ls,lz];exact rfl)
   replace E:=ZF E hw (fun h=>by first | exact absurd h (by omega) | simp)
   clear hw
   refine wpList_nil ?_
   go_upto_region 5 with (fail)
   refine wp_region_lit ?_
   refine Z3 rfl rfl (Z9 rfl rfl Try.underlying28 rfl (n:=9) (sz:=1) rfl (by kernel_rfl) (by decide)) (by simp only [ls,lz];exact rfl) ?_
   refine Z3 rfl rfl (Zh rfl rfl Try.underlying25 rfl ((Z0 q1 9).trans (getS (getS (getS (getS (getS (getS (getS (getS (getS (get0)))))))))))) (by simp only [ls,lz];exact rfl) ?_
   refine Z3 rfl rfl (Z1c rfl rfl rfl Try.underlying25) (by simp only [ls,lz];exact rfl) ?_
   refine ZC rfl rfl (by kernel_rfl) (Z7e t.rd.length _) fun e w7 hR=>?_
   obtain ⟨mb,rfl,hmb,qm,e1⟩:=hR
   refine ⟨_,_,rfl,(by simp only [ls,lz];exact rfl),?_⟩
   replace q1:=(e1).keep0 q1
   replace q4:=(e1).keep0 q4
   replace q6:=(e1).keep0 q6
   replace E:=Z4 E (e1)
   refine Z3 rfl rfl (Z3k (us:=#[]) (vs:=#[.pointer (some ⟨n4,0,none⟩),.pointer (some ⟨n6,0,none⟩)]) rfl (by kernel_rfl) (by kernel_rfl)) (by simp only [ls,lz];exact rfl) ?_
   refine ZC rfl rfl (by kernel_rfl) (HF.out _ mb n4 n6 E qm q4 q6) fun e w8 hR=>?_
   obtain ⟨rfl,e2⟩:=hR
   refine ⟨_,_,rfl,(by simp only [ls,lz];exact rfl),?_⟩
   replace q1:=(e2).keep0 q1
   replace q4:=(e2).keep0 q4
   replace q6:=(e2).keep0 q6
   replace E:=Z4 E (e2)
   refine Z3 rfl rfl (Zi (v:=.tuple _) rfl rfl) (by simp only [ls,lz];exact rfl) ?_
   refine Z3 rfl rfl (Zm rfl rfl (get0)) (by simp only [ls,lz];exact rfl) ?_
   refine Z3 rfl rfl (Zm rfl rfl (getS (get0))) (by simp only [ls,lz];exact rfl) ?_
   refine Z3 rfl rfl (Z8 (v:=.int .u16 _) rfl rfl) (by simp only [ls,lz];exact rfl) ?_
   refine Z3 rfl rfl (Z8 (v:=.bool _) rfl rfl) (by simp only [ls,lz];exact rfl) ?_
   refine wpList_nil ?_
   clear e1 e2
   go_wp2
   go_ret2
   exact ⟨none,0,rfl,Z0M _ _ _,E⟩
  | some s =>
   have hs:=hR s hrr
   rw [hrr] at HF
   simp only [Option.isSome_some,if_true,Option.getD_some]
   simp only [Option.isSome_some,Option.getD_some] at HF
   clear hR hrr
   unfold Z26 at HK HF
   unfold tpV at HK ⊢
   go_enter Try.func47,Try.ntmps47
   go_upto_region 0 with (fail)
   refine wp_region_lit ?_
   refine Zy rfl rfl (Z0z (v:=.agg _) rfl rfl) (by simp only [ls,lz];exact rfl) fun w1 hw=>?_
   obtain ⟨n1,hn⟩:∃ n,n = w.heap.size:=⟨_,rfl⟩
   rw [← hn]
   have l1:w.heap.size ≤ n1:=by rw [hn];exact E.size
   have q1:=Zr hw hn
   replace E:=Z2 E hw
   clear hw hn
   refine Z3 rfl rfl (Z8 (v:=.slice _ _ _) rfl rfl) (by simp only [ls,lz];exact rfl) ?_
   refine Z3 rfl rfl (Z8 (v:=.int .i64 _) rfl rfl) (by simp only [ls,lz];exact rfl) ?_
   refine wpList_nil ?_
   go_upto_region 1 with (fail)
   refine wp_region_lit ?_
   refine Z3 rfl rfl (Zt rfl rfl Try.underlying28 rfl (by kernel_rfl) q1) (by simp only [ls,lz];exact rfl) ?_
   refine ZC rfl rfl (by kernel_rfl) (HK.out _ E) fun e w2 hR=>?_
   obtain ⟨rfl,e1⟩:=hR
   refine ⟨_,_,rfl,(by simp only [ls,lz];exact rfl),?_⟩
   replace q1:=(e1).keep0 q1
   replace E:=Z4 E (e1)
   refine Z3 rfl rfl (Zi (v:=.tuple _) rfl rfl) (by simp only [ls,lz];exact rfl) ?_
   refine Z3 rfl rfl (Zm rfl rfl (get0)) (by simp only [ls,lz];exact rfl) ?_
   refine Z3 rfl rfl (Zm rfl rfl (getS (get0))) (by simp only [ls,lz];exact rfl) ?_
   refine Zy rfl rfl (ZB rfl Try.zeroValue100) (by simp only [ls,lz];exact rfl) fun w3 hw=>?_
   obtain ⟨n4,hn⟩:∃ n,n = w2.heap.size:=⟨_,rfl⟩
   rw [← hn]
   have l4:w.heap.size ≤ n4:=by rw [hn];exact E.size
   have m4_1:n1 < n4:=by rw [hn];exact Z7 q1
   replace q1:=Z1 hw q1
   have q4:=Zr hw hn
   replace E:=Z2 E hw
   clear hw hn
   refine ZY rfl rfl (Zg rfl rfl rfl (by kernel_rfl) (Z0S hone) q4 rfl) fun w4 hw=>?_
   replace q1:=Z5 hw q1 (by omega)
   replace q4:=Zz hw q4 rfl
   replace E:=Za E hw (fun h=>by first | exact absurd h (by omega) | simp)
   clear hw
   refine Z3 rfl rfl (Z8 (v:=.int .i64 _) rfl rfl) (by simp only [ls,lz];exact rfl) ?_
   refine wpList_nil ?_
   clear e1
   go_upto_region 4 with (fail)
   refine wp_region_lit ?_
   refine Z3 rfl rfl (Z9 rfl rfl Try.underlying28 rfl (n:=9) (sz:=1) rfl (by kernel_rfl) (by decide)) (by simp only [ls,lz];exact rfl) ?_
   refine Z3 rfl rfl (Zh rfl rfl Try.underlying25 rfl ((Z0 q1 9).trans (getS (getS (getS (getS (getS (getS (getS (getS (getS (get0)))))))))))) (by simp only [ls,lz];exact rfl) ?_
   refine Z3 rfl rfl (Z1c rfl rfl rfl Try.underlying25) (by simp only [ls,lz];exact rfl) ?_
   refine ZC rfl rfl (by kernel_rfl) (Z7t t.rd.length _ (by omega)) fun e w' hR=>?_
   obtain ⟨rfl,rfl⟩:=hR
   refine ⟨_,_,rfl,(by simp only [ls,lz];exact rfl),?_⟩
   refine Zy rfl rfl (ZB rfl Try.zeroValue109) (by simp only [ls,lz];exact rfl) fun w5 hw=>?_
   obtain ⟨n6,hn⟩:∃ n,n = w4.heap.size:=⟨_,rfl⟩
   rw [← hn]
   have l6:w.heap.size ≤ n6:=by rw [hn];exact E.size
   have m6_1:n1 < n6:=by rw [hn];exact Z7 q1
   have m6_4:n4 < n6:=by rw [hn];exact Z7 q4
   replace q1:=Z1 hw q1
   replace q4:=Z1 hw q4
   have q6:=Z4v hw rfl hn
   replace E:=Z2 E hw
   clear hw hn
   refine ZY rfl rfl (ZR (v:=.int .u16 _) rfl rfl rfl rfl (by kernel_rfl) ((Z0 q6 0).trans rfl) (Zl q6 0)) fun w6 hw=>?_
   replace q1:=ZA hw q1 (by omega)
   replace q4:=ZA hw q4 (by omega)
   replace q6:=ZK hw q6 (by simp only [List.setIfInBounds_toArray,ls,lz];exact rfl)
   replace E:=ZF E hw (fun h=>by first | exact absurd h (by omega) | simp)
   clear hw
   refine wpList_nil ?_
   go_upto_region 5 with (fail)
   refine wp_region_lit ?_
   refine Z3 rfl rfl (Z9 rfl rfl Try.underlying28 rfl (n:=9) (sz:=1) rfl (by kernel_rfl) (by decide)) (by simp only [ls,lz];exact rfl) ?_
   refine Z3 rfl rfl (Zh rfl rfl Try.underlying25 rfl ((Z0 q1 9).trans (getS (getS (getS (getS (getS (getS (getS (getS (getS (get0)))))))))))) (by simp only [ls,lz];exact rfl) ?_
   refine Z3 rfl rfl (Z1c rfl rfl rfl Try.underlying25) (by simp only [ls,lz];exact rfl) ?_
   refine ZC rfl rfl (by kernel_rfl) (Z7e t.rd.length _) fun e w7 hR=>?_
   obtain ⟨mb,rfl,hmb,qm,e1⟩:=hR
   refine ⟨_,_,rfl,(by simp only [ls,lz];exact rfl),?_⟩
   replace q1:=(e1).keep0 q1
   replace q4:=(e1).keep0 q4
   replace q6:=(e1).keep0 q6
   replace E:=Z4 E (e1)
   refine Z3 rfl rfl (Z3k (us:=#[]) (vs:=#[.pointer (some ⟨n4,0,none⟩),.pointer (some ⟨n6,0,none⟩)]) rfl (by kernel_rfl) (by kernel_rfl)) (by simp only [ls,lz];exact rfl) ?_
   refine ZC rfl rfl (by kernel_rfl) (HF.out _ mb n4 n6 E qm q4 q6) fun e w8 hR=>?_
   obtain ⟨rfl,e2⟩:=hR
   refine ⟨_,_,rfl,(by simp only [ls,lz];exact rfl),?_⟩
   replace q1:=(e2).keep0 q1
   replace q4:=(e2).keep0 q4
   replace q6:=(e2).keep0 q6
   replace E:=Z4 E (e2)
   refine Z3 rfl rfl (Zi (v:=.tuple _) rfl rfl) (by simp only [ls,lz];exact rfl) ?_
   refine Z3 rfl rfl (Zm rfl rfl (get0)) (by simp only [ls,lz];exact rfl) ?_
   refine Z3 rfl rfl (Zm rfl rfl (getS (get0))) (by simp only [ls,lz];exact rfl) ?_
   refine Z3 rfl rfl (Z8 (v:=.int .u16 _) rfl rfl) (by simp only [ls,lz];exact rfl) ?_
   refine Z3 rfl rfl (Z8 (v:=.bool _) rfl rfl) (by simp only [ls,lz];exact rfl) ?_
   refine wpList_nil ?_
   clear e1 e2
   go_upto_region 8 with (fail)
   refine wp_region_lit ?_
   refine Z3 rfl rfl (Zi (v:=.int .u16 _) rfl rfl) (by simp only [ls,lz];exact rfl) ?_
   refine ZC rfl rfl (by kernel_rfl) (Z9K s _ (by omega) (by omega)) fun e w9 hR=>?_
   obtain ⟨la,lc,rfl,hrows,e3⟩:=hR
   refine ⟨_,_,rfl,(by simp only [ls,lz];exact rfl),?_⟩
   replace q1:=(e3).keep0 q1
   replace q4:=(e3).keep0 q4
   replace q6:=(e3).keep0 q6
   replace E:=Z4 E (e3)
   refine Z3 rfl rfl (Z8 (v:=.slice _ _ _) rfl rfl) (by simp only [ls,lz];exact rfl) ?_
   refine Z3 rfl rfl (Z8 (v:=.int .i64 _) rfl rfl) (by simp only [ls,lz];exact rfl) ?_
   refine wpList_nil ?_
   go_wp2
   go_ret2
   exact ⟨la,lc,rfl,hrows,E⟩
 ·rw [Z3e (by rw [Z2v];exact h)] at HK
  rw [show Z6B t = Z08 t by rw [Z6B,if_pos h],show Z5r t = [] by rw [Z5r,if_pos h]]
  obtain ⟨ce,hce⟩:∃ ce,ce = Z08 t:=⟨_,rfl⟩
  rw [← hce] at h HK ⊢
  clear hce ht
  have hb:(ce != 0) = true:=by simpa using h
  unfold tpV at HK ⊢
  go_enter Try.func47,Try.ntmps47
  go_upto_region 0 with (fail)
  refine wp_region_lit ?_
  refine Zy rfl rfl (Z0z (v:=.agg _) rfl rfl) (by simp only [ls,lz];exact rfl) fun w1 hw=>?_
  obtain ⟨n1,hn⟩:∃ n,n = w.heap.size:=⟨_,rfl⟩
  rw [← hn]
  have l1:w.heap.size ≤ n1:=by rw [hn];exact E.size
  have q1:=Zr hw hn
  replace E:=Z2 E hw
  clear hw hn
  refine Z3 rfl rfl (Z8 (v:=.slice _ _ _) rfl rfl) (by simp only [ls,lz];exact rfl) ?_
  refine Z3 rfl rfl (Z8 (v:=.int .i64 _) rfl rfl) (by simp only [ls,lz];exact rfl) ?_
  refine wpList_nil ?_
  go_upto_region 1 with (fail)
  refine wp_region_lit ?_
  refine Z3 rfl rfl (Zt rfl rfl Try.underlying28 rfl (by kernel_rfl) q1) (by simp only [ls,lz];exact rfl) ?_
  refine ZC rfl rfl (by kernel_rfl) (HK.out _ E) fun e w2 hR=>?_
  obtain ⟨rfl,e1⟩:=hR
  refine ⟨_,_,rfl,(by simp only [ls,lz];exact rfl),?_⟩
  replace q1:=(e1).keep0 q1
  replace E:=Z4 E (e1)
  refine Z3 rfl rfl (Zi (v:=.tuple _) rfl rfl) (by simp only [ls,lz];exact rfl) ?_
  refine Z3 rfl rfl (Zm rfl rfl (get0)) (by simp only [ls,lz];exact rfl) ?_
  refine Z3 rfl rfl (Zm rfl rfl (getS (get0))) (by simp only [ls,lz];exact rfl) ?_
  refine Zy rfl rfl (ZB rfl Try.zeroValue100) (by simp only [ls,lz];exact rfl) fun w3 hw=>?_
  obtain ⟨n4,hn⟩:∃ n,n = w2.heap.size:=⟨_,rfl⟩
  rw [← hn]
  have l4:w.heap.size ≤ n4:=by rw [hn];exact E.size
  have m4_1:n1 < n4:=by rw [hn];exact Z7 q1
  replace q1:=Z1 hw q1
  have q4:=Zr hw hn
  replace E:=Z2 E hw
  clear hw hn
  refine ZY rfl rfl (Zg rfl rfl rfl (by kernel_rfl) Z2n q4 rfl) fun w4 hw=>?_
  replace q1:=Z5 hw q1 (by omega)
  replace q4:=Zz hw q4 rfl
  replace E:=Za E hw (fun h=>by first | exact absurd h (by omega) | simp)
  clear hw
  refine Z3 rfl rfl (Z8 (v:=.int .i64 _) rfl rfl) (by simp only [ls,lz];exact rfl) ?_
  refine wpList_nil ?_
  clear e1
  go_wp2
  go_ret2
  exact ⟨none,0,rfl,Z0M _ _ _,E⟩
def numB (t:Tp) (at_:Nat):Int:=bdV t 0 0 at_ + bdV t 0 at_ 0 + 1
def nxt1 (t:Tp) (s a:Int) (i:Nat) (left:Int):Nat → Int → Int → Option Int
 | 0,_,most=>some most
 | n + 1,tape,most =>
  if bdB (addR t (s,a,i,tape)) 0 = true then
   if left ≤ max most (numB (addR t (s,a,i,tape)) (ZO s a)) then none
   else nxt1 t s a i left n (tape + 1) (max most (numB (addR t (s,a,i,tape)) (ZO s a)))
  else nxt1 t s a i left n (tape + 1) most
def Z1E (t:Tp) (s a:Int) (i:Nat):Int:=-(bdV t 0 (ZO s a) (Z0q i)) - t.sl
def Z6c (t:Tp) (s a:Int) (i:Nat):Int:=bdV t 0 (Z0q i) (ZO s a) + t.sl
def Z6M (r:Option Int) (old:Int × Int) (i:Nat):Int × Int:=match r with
 | none=>old
 | some m=>((i:Int),m)
def Z2p (t:Tp) (s a:Int):Nat → Int × Int
 | 0=>(-1,numB t (ZO s a))
 | i + 1=>Z6M (nxt1 t s a i (Z2p t s a i).2 (Z6c t s a i - Z1E t s a i + 1).toNat (Z1E t s a i) 0) (Z2p t s a i) i
theorem Z40 (t:Tp) (s a:Int) (i:Nat):Z2p t s a (i + 1) = Z6M (nxt1 t s a i (Z2p t s a i).2 (Z6c t s a i - Z1E t s a i + 1).toNat (Z1E t s a i) 0) (Z2p t s a i) i:=by rw [Z2p]
def Z4g (t:Tp) (s a:Int):Int:=if Z3p t s a ≠ 0 then Z3p t s a else if (Z2p t s a t.T.toNat).1 < 0 then 11 else 0
def Z4X (t:Tp) (s a:Int):Int × Int:=if Z4g t s a = 0 then Z2p t s a t.T.toNat else (0,0)
theorem Zbc {t:Tp} (ok:t.Ok) (hb:bdB t 0 = true) {s a i:Nat} (hs:(s:Int) < t.S) (ha:(a:Int) < t.A) (hi:(i:Int) < t.T) :
  11 ≤ -(bdV t 0 (ZO s a) (Z0q i)) ∧ bdV t 0 (Z0q i) (ZO s a) ≤ 209:=by
 have hy:=Z6E hb
 have k1:=ok.bl1
 have k2:=ok.bm1
 have k3:=ok.pl1
 have k4:=ok.pm1
 constructor
 ·obtain ⟨r,r0⟩:=Z2S ok hy (Z2U ok (Z1r hs ha))
  have c:=(r.cell s a hs ha).lo
  have d:=(r.tail i hi).hi
  try simp only at c d
  omega
 ·obtain ⟨r,r0⟩:=Z2S ok hy (Z2U ok (Z2K hi))
  have c:=(r.cell s a hs ha).hi
  have d:=(r.tail i hi).lo
  try simp only at c d
  omega
theorem Z8v {t:Tp} (ok:t.Ok) (h8:t.rd.length ≤ 8) {s a i tape:Int} (h:0 ≤ s ∧ s < t.S) (h2:0 ≤ a ∧ a < t.A) (h3:0 ≤ i ∧ i < t.T) (h4:0 ≤ tape ∧ tape ≤ 250):(addR t (s,a,i,tape)).Ok:=
 { ok with
  rdl:=by simp [addR];omega
  rd:=fun r hr=>by
   simp only [addR,List.mem_append,List.mem_cons,List.not_mem_nil,or_false] at hr
   rcases hr with hr | rfl
   ·exact ok.rd r hr
   ·exact ⟨h.1,h.2,h2.1,h2.2,h3.1,h3.2,h4.1,h4.2⟩ }
theorem Z5J {l:Nat} {J:Act → World → Prop} {Q:Exit → Act → World → Prop} {a:Act} {w:World} (h:Q .ret a w):Exit.jump l J Q .ret a w:=h
theorem Z4q (m:Nat → Nat → Int) (l h:Nat) (hl:l < 13) (hh:h < 13) (big:-1000000000000000000 ≤ m h l ∧ m h l ≤ 1000000000000000000) (w:World) :
  Calls Try.prog 91 #[.agg (ZD m),.int .i64 l,.int .i64 h] w fun e w'=>e = .returned (.agg #[.int .i64 (-(m h l)),.int .i64 (m l h)]) ∧ Ext [] w w':=by
 refine (Z3N m l h w (by omega) (by omega) (by omega) (by omega) (by simpa using big.1) (by simpa using big.2)).mono fun e w' hr=>⟨?_,Ext.of_below hr.2⟩
 rw [hr.1,Int.toNat_natCast,Int.toNat_natCast]
theorem Z7q (s a:Nat) (h1:s ≤ 1000) (h2:a ≤ 1000) (w:World) :
  Calls Try.prog 92 #[.int .i64 s,.int .i64 a] w fun e w'=>e = .returned (.int .i64 (ZO s a:Nat)) ∧ w = w':=by
 refine (Z1W s a w (by omega) (by omega) (by omega) (by omega)).mono fun e w' hr=>⟨hr.1.trans (ZM ?_),hr.2⟩
 unfold ZO;omega
theorem Zbd (i:Nat) (h1:i ≤ 1000) (w:World) :
  Calls Try.prog 101 #[.int .i64 i] w fun e w'=>e = .returned (.int .i64 (Z0q i:Nat)) ∧ w = w':=by
 refine (Z5k i w (by omega) (by omega)).mono fun e w' hr=>⟨hr.1.trans (ZM ?_),hr.2⟩
 unfold Z0q;omega
theorem Zb1 (t:Tp) (c:Nat) (b1:-1000000000000000000 ≤ bdV t 0 c 0 ∧ bdV t 0 c 0 ≤ 1000000000000000000) (b2:-1000000000000000000 ≤ bdV t 0 0 c ∧ bdV t 0 0 c ≤ 1000000000000000000) (w:World) :
  Calls Try.prog 100 #[.agg #[.int .i64 (-(bdV t 0 c 0)),.int .i64 (bdV t 0 0 c)]] w fun e w'=>e = .returned (.int .i64 (numB t c)) ∧ Ext [] w w':=by
 refine (Z6W _ _ w (by omega) (by omega) (by omega) (by omega)).mono fun e w' hr=>⟨hr.1.trans (ZM ?_),hr.2⟩
 unfold numB;omega
set_option maxRecDepth 100000 in
set_option maxHeartbeats 4000000 in
theorem Z9J (t:Tp) (gv lv:Value) (ra:Option Addr) (rcap:Nat) (s a:Int) (w:World) (ht:IsTp w gv (.slice ra t.rd.length rcap) lv t) (hl1:t.gr.length ≤ 1000) (hl2:t.rd.length ≤ 1000) (hl3:t.lk.length ≤ 1000) (hrc:t.rd.length ≤ rcap) :
  Calls Try.prog 38 #[tpV t gv (.slice ra t.rd.length rcap) lv,.int .i64 s,.int .i64 a] w fun e w'=>e = .returned (.tuple #[.int .i64 (Z4X t s a).1,.int .i64 (Z4X t s a).2,.int .i64 (Z4g t s a)]) ∧ Ext [] w w':=by
 obtain ⟨rv,hrv⟩:∃ rv,rv = Value.slice ra t.rd.length rcap:=⟨_,rfl⟩
 have ht0:=ht
 rw [← hrv] at ht
 have hone:=Z3E ht
 have HK:Hid (∀ (W:World) (b1 b2:Nat),Ext [] w W → W.heap[b1]? = some (.cells #[.int .i64 s] 3 (0,0)) → W.heap[b2]? = some (.cells #[.int .i64 a] 3 (0,0)) → Calls Try.prog 90 #[tpV t gv rv lv,.slice (some ⟨b1,0,none⟩) 1 1,.slice (some ⟨b2,0,none⟩) 1 1,.slice none 0 0] W fun e w'=>e = .returned (.tuple #[.agg (Z2E t (sel3 [s] [a] []) gv rv lv),.agg (ZD (Z1g t (sel3 [s] [a] []))),.int .i64 (Z3p t s a)]) ∧ Ext [] W w'):=
  fun W b1 b2 e h1 h2=>Z1R t gv rv lv (sel3 [s] [a] []) (sel3 (some ⟨b1,0,none⟩) (some ⟨b2,0,none⟩) none) (sel3 1 1 0) W (ht.ext e (by simp)) hl1 hl2 hl3 (Za7 (Z2b [s] 1 h1) (Z2b [a] 1 h2) (Z0M _ _ _)) (fun i hi=>by rcases i with _ | _ | i <;> simp [sel3])
 have E:Ext [] w w:=Ext.refl _ _
 have hVs:=Z2G t (sel3 [s] [a] []) gv rv lv
 have hVo:=Z32 (t:=t) (xs:=sel3 [s] [a] []) hone
 by_cases h:Z3p t s a = 0
 ·obtain ⟨h1,h2⟩:=Z2q h
  obtain ⟨ok,h8⟩:=Z0x.1 (Z1B h1)
  have ks:=Z1O h1 (i:=0) (by omega) (n:=s) (by simp [sel3])
  have ka:=Z1O h1 (i:=1) (by omega) (n:=a) (by simp [sel3])
  have k1:=ok.S3
  have k2:=ok.A3
  have k3:=ok.T3
  have k4:=ok.T1
  have k5:=ok.sl0
  have k6:=ok.sl5
  rw [show lim t 0 = t.S from rfl] at ks
  rw [show lim t 1 = t.A from rfl] at ka
  rw [Z2V h1,show Z1g t (sel3 [s] [a] []) = bdV t 0 from if_pos h1,h] at HK
  have HE:Hid (Z4g t s a = if (Z2p t s a t.T.toNat).1 < 0 then 11 else 0):=by show _ = _;rw [Z4g,if_neg (by simpa using h)]
  obtain ⟨s,rfl⟩:=Int.eq_ofNat_of_zero_le ks.1
  obtain ⟨a,rfl⟩:=Int.eq_ofNat_of_zero_le ka.1
  have big:=fun p q hp hq=>Z47 ok 0 (p:=p) (q:=q) hp hq
  have HSum:=Lib.hid (fun i hi=>Zbc ok h2 (s:=s) (a:=a) (i:=i) ks.2 ka.2 hi)
  have HSol:Hid (∀ (i:Nat) (tape:Int) (W:World) (b cap:Nat),(i:Int) < t.T → 0 ≤ tape → tape ≤ 250 → IsTp W gv (.slice (some ⟨b,0,none⟩) (addR t (s,a,i,tape)).rd.length cap) lv (addR t (s,a,i,tape)) →
    Calls Try.prog 80 #[tpV (addR t (s,a,i,tape)) gv (.slice (some ⟨b,0,none⟩) (addR t (s,a,i,tape)).rd.length cap) lv,.int .u16 0] W fun e w'=>e = .returned (.tuple #[.agg (ZD (bdV (addR t (s,a,i,tape)) 0)),.bool (bdB (addR t (s,a,i,tape)) 0)]) ∧ Ext [] W w'):=
   fun i tape W b cap hi h0 h1 hT=>Z5j _ (Z8v ok h8 ⟨by omega,ks.2⟩ ⟨by omega,ka.2⟩ ⟨by omega,hi⟩ ⟨h0,h1⟩) _ _ _ 0 (by omega) (by omega) W hT
  have HBig:Hid (∀ (i:Nat) (tape:Int) (p q:Nat),(i:Int) < t.T → 0 ≤ tape → tape ≤ 250 → p < 13 → q < 13 → -1000000000000000000 ≤ bdV (addR t (s,a,i,tape)) 0 p q ∧ bdV (addR t (s,a,i,tape)) 0 p q ≤ 1000000000000000000):=
   fun i tape p q hi h0 h1 hp hq=>Z47 (Z8v ok h8 ⟨by omega,ks.2⟩ ⟨by omega,ka.2⟩ ⟨by omega,hi⟩ ⟨h0,h1⟩) 0 hp hq
  have HBg:=Lib.hid big
  have HRd:=Lib.hid (fun (r:Int × Int × Int × Int) (W:World) (e:Ext [] w W)=>Za2 t gv lv ra rcap r W (ht0.ext e (by simp)) hl2 hrc)
  clear big ht ht0 h1 h2 ok h hVs hVo
  subst hrv
  unfold tpV at HK HRd HSol ⊢
  go_enter Try.func38,Try.ntmps38
  go_upto_region 0 with (fail)
  refine wp_region_lit ?_
  refine Zy rfl rfl (Z0z (v:=.agg _) rfl rfl) (by simp only [ls,lz];exact rfl) fun w1 hw=>?_
  obtain ⟨n3,hn⟩:∃ n,n = w.heap.size:=⟨_,rfl⟩
  rw [← hn]
  have l3:w.heap.size ≤ n3:=by rw [hn];exact E.size
  have q3:=Zr hw hn
  replace E:=Z2 E hw
  clear hw hn
  refine Z3 rfl rfl (Z8 (v:=.int .i64 _) rfl rfl) (by simp only [ls,lz];exact rfl) ?_
  refine Z3 rfl rfl (Z8 (v:=.int .i64 _) rfl rfl) (by simp only [ls,lz];exact rfl) ?_
  refine Z3 rfl rfl (Z8 (v:=.int .i64 _) rfl rfl) (by simp only [ls,lz];exact rfl) ?_
  refine wpList_nil ?_
  go_upto_region 1 with (fail)
  refine wp_scope_jumps 0 (fun _ _=>False) (fun _ _=>0) (by exact rfl) ?_ (fun _ _ h=>h.elim)
  go_upto_region 1 with (fail)
  refine wp_region_lit ?_
  refine Z3 rfl rfl (Zt rfl rfl Try.underlying28 rfl (by kernel_rfl) q3) (by simp only [ls,lz];exact rfl) ?_
  refine Z3 rfl rfl (Zi (v:=.int .i64 _) rfl rfl) (by simp only [ls,lz];exact rfl) ?_
  refine Zy rfl rfl (ZE rfl Try.underlying29 (size:=1) (by kernel_rfl) (by decide) (by decide) Try.zeroValue3 (cells:=#[.int .i64 s]) (by kernel_rfl)) (by simp only [ls,lz];exact rfl) fun w2 hw=>?_
  obtain ⟨n25,hn⟩:∃ n,n = w1.heap.size:=⟨_,rfl⟩
  rw [← hn]
  have l25:w.heap.size ≤ n25:=by rw [hn];exact E.size
  have m25_3:n3 < n25:=by rw [hn];exact Z7 q3
  replace q3:=Z1 hw q3
  have q25:=Zw hw hn
  replace E:=Z2 E hw
  clear hw hn
  refine Z3 rfl rfl (Zi (v:=.int .i64 _) rfl rfl) (by simp only [ls,lz];exact rfl) ?_
  refine Zy rfl rfl (ZE rfl Try.underlying29 (size:=1) (by kernel_rfl) (by decide) (by decide) Try.zeroValue3 (cells:=#[.int .i64 a]) (by kernel_rfl)) (by simp only [ls,lz];exact rfl) fun w3 hw=>?_
  obtain ⟨n27,hn⟩:∃ n,n = w2.heap.size:=⟨_,rfl⟩
  rw [← hn]
  have l27:w.heap.size ≤ n27:=by rw [hn];exact E.size
  have m27_3:n3 < n27:=by rw [hn];exact Z7 q3
  have m27_25:n25 < n27:=by rw [hn];exact Z7 q25
  replace q3:=Z1 hw q3
  replace q25:=Z1 hw q25
  have q27:=Zw hw hn
  replace E:=Z2 E hw
  clear hw hn
  refine ZC rfl rfl (by kernel_rfl) (HK.out _ n25 n27 E q25 q27) fun e w4 hR=>?_
  obtain ⟨rfl,e1⟩:=hR
  refine ⟨_,_,rfl,(by simp only [ls,lz];exact rfl),?_⟩
  replace q3:=(e1).keep0 q3
  replace q25:=(e1).keep0 q25
  replace q27:=(e1).keep0 q27
  replace E:=Z4 E (e1)
  refine Z3 rfl rfl (Zi (v:=.tuple _) rfl rfl) (by simp only [ls,lz];exact rfl) ?_
  refine Z3 rfl rfl (Zm rfl rfl (get0)) (by simp only [ls,lz];exact rfl) ?_
  refine Z3 rfl rfl (Zm rfl rfl (getS (get0))) (by simp only [ls,lz];exact rfl) ?_
  refine Z3 rfl rfl (Zm rfl rfl (getS (getS (get0)))) (by simp only [ls,lz];exact rfl) ?_
  refine Zy rfl rfl (ZB rfl Try.zeroValue100) (by simp only [ls,lz];exact rfl) fun w5 hw=>?_
  obtain ⟨n9,hn⟩:∃ n,n = w4.heap.size:=⟨_,rfl⟩
  rw [← hn]
  have l9:w.heap.size ≤ n9:=by rw [hn];exact E.size
  have m9_3:n3 < n9:=by rw [hn];exact Z7 q3
  have m9_25:n25 < n9:=by rw [hn];exact Z7 q25
  have m9_27:n27 < n9:=by rw [hn];exact Z7 q27
  replace q3:=Z1 hw q3
  replace q25:=Z1 hw q25
  replace q27:=Z1 hw q27
  have q9:=Zr hw hn
  replace E:=Z2 E hw
  clear hw hn
  refine Zy rfl rfl (ZB rfl Try.zeroValue105) (by simp only [ls,lz];exact rfl) fun w6 hw=>?_
  obtain ⟨n10,hn⟩:∃ n,n = w5.heap.size:=⟨_,rfl⟩
  rw [← hn]
  have l10:w.heap.size ≤ n10:=by rw [hn];exact E.size
  have m10_3:n3 < n10:=by rw [hn];exact Z7 q3
  have m10_25:n25 < n10:=by rw [hn];exact Z7 q25
  have m10_27:n27 < n10:=by rw [hn];exact Z7 q27
  have m10_9:n9 < n10:=by rw [hn];exact Z7 q9
  replace q3:=Z1 hw q3
  replace q25:=Z1 hw q25
  replace q27:=Z1 hw q27
  replace q9:=Z1 hw q9
  have q10:=Zr hw hn
  replace E:=Z2 E hw
  clear hw hn
  refine ZY rfl rfl (Zg rfl rfl rfl (by kernel_rfl) (Z0S hone) q9 rfl) fun w7 hw=>?_
  replace q3:=Z5 hw q3 (by omega)
  replace q25:=Z5 hw q25 (by omega)
  replace q27:=Z5 hw q27 (by omega)
  replace q9:=Zz hw q9 rfl
  replace q10:=Z5 hw q10 (by omega)
  replace E:=Za E hw (fun h=>by first | exact absurd h (by omega) | simp)
  clear hw
  refine ZY rfl rfl (Zg rfl rfl rfl (by rw [Zj];kernel_rfl) (by rw [← ZI];exact all_oneCell_toArray (Z05 _)) q10 (by show Try.zeroCells105.size = _;rw [Try.zeroCells105_size,Zj])) fun w8 hw=>?_
  replace q3:=Z5 hw q3 (by omega)
  replace q25:=Z5 hw q25 (by omega)
  replace q27:=Z5 hw q27 (by omega)
  replace q9:=Z5 hw q9 (by omega)
  replace q10:=Zz hw q10 (by show Try.zeroCells105.size = _;rw [Try.zeroCells105_size,Zj])
  replace E:=Za E hw (fun h=>by first | exact absurd h (by omega) | simp)
  clear hw
  refine Z3 rfl rfl (Z8 (v:=.int .i64 _) rfl rfl) (by simp only [ls,lz];exact rfl) ?_
  refine wpList_nil ?_
  clear e1 q25 q27
  have hc:ZO s a < 13:=by unfold ZO;omega
  have HAp:Hid (∀ W:World,Calls Try.prog 91 #[.agg (ZD (bdV t 0)),.int .i64 0,.int .i64 (ZO s a:Nat)] W fun e w'=>e = .returned (.agg #[.int .i64 (-(bdV t 0 (ZO s a) 0)),.int .i64 (bdV t 0 0 (ZO s a))]) ∧ Ext [] W w'):=
   fun W=>Z4q (bdV t 0) 0 (ZO s a) (by omega) hc (HBg.out _ _ hc (by omega)) W
  have HNm:=Lib.hid (Zb1 t (ZO s a) (HBg.out _ _ hc (by omega)) (HBg.out _ _ (by omega) hc))
  go_upto_region 4 with (fail)
  refine wp_region_lit ?_
  refine Z3 rfl rfl (Zi (v:=.int .i64 _) rfl rfl) (by simp only [ls,lz];exact rfl) ?_
  refine Z3 rfl rfl (Zi (v:=.int .i64 _) rfl rfl) (by simp only [ls,lz];exact rfl) ?_
  refine ZC rfl rfl (by kernel_rfl) (Z7q s a (by omega) (by omega) _) fun e w' hR=>?_
  obtain ⟨rfl,rfl⟩:=hR
  refine ⟨_,_,rfl,(by simp only [ls,lz];exact rfl),?_⟩
  refine Z3 rfl rfl (Z8 (v:=.int .i64 _) rfl rfl) (by simp only [ls,lz];exact rfl) ?_
  refine wpList_nil ?_
  go_upto_region 5 with (fail)
  refine wp_region_lit ?_
  refine Z3 rfl rfl (Zt rfl rfl Try.underlying105 rfl (by rw [Zj];kernel_rfl) q10) (by simp only [ls,lz];exact rfl) ?_
  refine Z3 rfl rfl (Zi (v:=.int .i64 _) rfl rfl) (by simp only [ls,lz];exact rfl) ?_
  refine ZC rfl rfl (by kernel_rfl) (HAp.out _) fun e w9 hR=>?_
  obtain ⟨rfl,e1⟩:=hR
  refine ⟨_,_,rfl,(by simp only [ls,lz];exact rfl),?_⟩
  replace q3:=(e1).keep0 q3
  replace q9:=(e1).keep0 q9
  replace q10:=(e1).keep0 q10
  replace E:=Z4 E (e1)
  refine ZC rfl rfl (by kernel_rfl) (HNm.out _) fun e w10 hR=>?_
  obtain ⟨rfl,e2⟩:=hR
  refine ⟨_,_,rfl,(by simp only [ls,lz];exact rfl),?_⟩
  replace q3:=(e2).keep0 q3
  replace q9:=(e2).keep0 q9
  replace q10:=(e2).keep0 q10
  replace E:=Z4 E (e2)
  refine Z3 rfl rfl (Z8 (v:=.int .i64 _) rfl rfl) (by simp only [ls,lz];exact rfl) ?_
  refine Z3 rfl rfl (Z8 (v:=.int .i64 _) rfl rfl) (by simp only [ls,lz];exact rfl) ?_
  refine wpList_nil ?_
  clear e1 e2
  have ct:=(Z0 q9 2).trans (getS (getS get0))
  go_wp2_with fail
  refine wp_label ?_
  go_wp2_with fail
  clear ct
  go_loopw [45,13,14] (fun iv bv lv' wr=>∃ i:Nat,(i:Int) ≤ t.T ∧ iv = .int .i64 i ∧ bv = .int .i64 (Z2p t s a i).1 ∧ lv' = .int .i64 (Z2p t s a i).2 ∧
   wr.heap[n3]? = some (.cells #[.int .i64 t.S,.int .i64 t.A,.int .i64 t.T,.int .i64 t.bl,.int .i64 t.bm,.int .i64 t.pl,.int .i64 t.pm,.int .i64 t.sl,gv,.slice ra t.rd.length rcap,lv] 28 (0,0)) ∧
   wr.heap[n10]? = some (.cells (ZD (bdV t 0)) 105 (0,0)) ∧ Ext [] w wr) (fun iv _ _ _=>t.T.toNat - (intOf iv).toNat)
  case atStart=>exact ⟨0,by omega,rfl,rfl,rfl,q3,q10,E⟩
  case round =>
   clear q3 q9 q10 E
   obtain ⟨i,hi,rfl,rfl,rfl,q3,q10,E⟩:=hrel
   by_cases hlt:(i:Int) < t.T
   ·have hd:Z0q i < 13:=by unfold Z0q;omega
    have hap:=fun W=>Z4q (bdV t 0) (Z0q i) (ZO s a) hd hc (HBg.out _ _ hc hd) W
    have hsum:=HSum.out i hlt
    have bgd:=HBg.out (ZO s a) (Z0q i) hc hd
    have bgd2:=HBg.out (Z0q i) (ZO s a) hd hc
    go_upto_region 10 with (fail)
    refine Z16 (Ext [] wr) 6 follows fun w11 hh eS=>?_
    have q3_:=q3
    have q10_:=q10
    replace q3:=Zn hh q3
    replace q10:=Zn hh q10
    replace E:=Z4 E eS
    refine Zk (i:=0) (last:=6) rfl rfl (by decide) (by kernel_rfl) (by kernel_rfl) (by kernel_rfl) (by kernel_rfl) (by kernel_rfl) (fun _ _ _ h=>h) rfl rfl (fun w' hS=>Zt rfl rfl Try.underlying105 rfl (by rw [Zj];kernel_rfl) (hS.keep q10_ (by simp))) eS (by simp only [ls,lz];exact rfl) ?_
    refine Zk (i:=1) (last:=6) rfl rfl (by decide) (by kernel_rfl) (by kernel_rfl) (by kernel_rfl) (by kernel_rfl) (by kernel_rfl) (fun _ _ _ h=>h) rfl rfl (fun w' hS=>Zi (v:=.int .i64 _) rfl rfl) eS (by simp only [ls,lz];exact rfl) ?_
    refine Zk (i:=3) (last:=6) rfl rfl (by decide) (by kernel_rfl) (by kernel_rfl) (by kernel_rfl) (by kernel_rfl) (by kernel_rfl) (fun _ _ _ h=>h) rfl rfl (fun w' hS=>Zi (v:=.int .i64 _) rfl rfl) eS (by simp only [ls,lz];exact rfl) ?_
    refine Z0X (i:=2) (j:=5) (by kernel_rfl) ?_ ?_
    refine Z1A rfl rfl rfl (by kernel_rfl) (Zbd i (by omega) _) fun e w' hR=>?_
    obtain ⟨rfl,rfl⟩:=hR
    refine ⟨_,_,rfl,(by simp only [ls,lz];exact rfl),fun _=>eS,?_⟩
    refine Z0X (i:=4) (j:=5) (by kernel_rfl) ?_ ?_
    refine Z1A rfl rfl rfl (by kernel_rfl) (hap _) fun e w13 hR=>?_
    obtain ⟨rfl,e1⟩:=hR
    replace eS:=eS.nil (e1)
    replace q3:=(e1).keep0 q3
    replace q10:=(e1).keep0 q10
    replace E:=Z4 E (e1)
    refine ⟨_,_,rfl,(by simp only [ls,lz];exact rfl),fun _=>eS,?_⟩
    refine Z1z (i:=5) rfl (by kernel_rfl) rfl rfl (ZB rfl Try.zeroValue23) (by simp only [ls,lz];exact rfl) fun w14 hw=>?_
    replace eS:=Z2 eS hw
    obtain ⟨n17,hn⟩:∃ n,n = w13.heap.size:=⟨_,rfl⟩
    rw [← hn]
    have l17:w.heap.size ≤ n17:=by rw [hn];exact E.size
    have m17_3:n3 < n17:=by rw [hn];exact Z7 q3
    have m17_10:n10 < n17:=by rw [hn];exact Z7 q10
    replace q3:=Z1 hw q3
    replace q10:=Z1 hw q10
    have q17:=Zr hw hn
    replace E:=Z2 E hw
    clear hw hn
    refine ⟨fun _=>eS,?_⟩
    refine Z0o (o:=_) rfl (by kernel_rfl) rfl rfl (Zg rfl rfl rfl (by kernel_rfl) (by simp [Value.oneCell']) q17 rfl) (by kernel_rfl) fun w15 hw=>?_
    replace q3:=Z5 hw q3 (by omega)
    replace q10:=Z5 hw q10 (by omega)
    replace q17:=Zz hw q17 rfl
    replace E:=Za E hw (fun h=>by first | exact absurd h (by omega) | simp)
    clear hw
    refine Z0p (by kernel_rfl) ?_ _
    clear q3_ q10_ hh eS
    rotate_left
    refine Z1l rfl rfl rfl (ZB rfl Try.zeroValue23) (by simp only [ls,lz];exact rfl) fun w13 hw=>?_
    replace eS:=Z2 eS hw
    obtain ⟨n17,hn⟩:∃ n,n = w11.heap.size:=⟨_,rfl⟩
    rw [← hn]
    have l17:w.heap.size ≤ n17:=by rw [hn];exact E.size
    have m17_3:n3 < n17:=by rw [hn];exact Z7 q3
    have m17_10:n10 < n17:=by rw [hn];exact Z7 q10
    replace q3:=Z1 hw q3
    replace q10:=Z1 hw q10
    have q17:=Zr hw hn
    replace E:=Z2 E hw
    clear hw hn
    refine ⟨fun _=>eS,?_⟩
    refine Z0e (i:=4) rfl (by kernel_rfl) rfl rfl (by kernel_rfl) (hap _) fun e w14 hR=>?_
    obtain ⟨rfl,e1⟩:=hR
    replace eS:=eS.nil (e1)
    replace q3:=(e1).keep0 q3
    replace q10:=(e1).keep0 q10
    replace q17:=(e1).keep0 q17
    replace E:=Z4 E (e1)
    refine ⟨_,_,rfl,(by simp only [ls,lz];exact rfl),eS,?_⟩
    refine Z0o (o:=_) rfl (by kernel_rfl) rfl rfl (Zg rfl rfl rfl (by kernel_rfl) (by simp [Value.oneCell']) q17 rfl) (by kernel_rfl) fun w15 hw=>?_
    replace q3:=Z5 hw q3 (by omega)
    replace q10:=Z5 hw q10 (by omega)
    replace q17:=Zz hw q17 rfl
    replace E:=Za E hw (fun h=>by first | exact absurd h (by omega) | simp)
    clear hw
    refine Z0p (by kernel_rfl) ?_ _
    clear q3_ q10_ hh eS
    rotate_left
    refine Z1l rfl rfl rfl (ZB rfl Try.zeroValue23) (by simp only [ls,lz];exact rfl) fun w12 hw=>?_
    replace eS:=Z2 eS hw
    obtain ⟨n17,hn⟩:∃ n,n = w11.heap.size:=⟨_,rfl⟩
    rw [← hn]
    have l17:w.heap.size ≤ n17:=by rw [hn];exact E.size
    have m17_3:n3 < n17:=by rw [hn];exact Z7 q3
    have m17_10:n10 < n17:=by rw [hn];exact Z7 q10
    replace q3:=Z1 hw q3
    replace q10:=Z1 hw q10
    have q17:=Zr hw hn
    replace E:=Z2 E hw
    clear hw hn
    refine ⟨fun _=>eS,?_⟩
    refine Z0e (i:=2) rfl (by kernel_rfl) rfl rfl (by kernel_rfl) (Zbd i (by omega) _) fun e w' hR=>?_
    obtain ⟨rfl,rfl⟩:=hR
    refine ⟨_,_,rfl,(by simp only [ls,lz];exact rfl),eS,?_⟩
    refine Z0e (i:=4) rfl (by kernel_rfl) rfl rfl (by kernel_rfl) (hap _) fun e w14 hR=>?_
    obtain ⟨rfl,e1⟩:=hR
    replace eS:=eS.nil (e1)
    replace q3:=(e1).keep0 q3
    replace q10:=(e1).keep0 q10
    replace q17:=(e1).keep0 q17
    replace E:=Z4 E (e1)
    refine ⟨_,_,rfl,(by simp only [ls,lz];exact rfl),eS,?_⟩
    refine Z0o (o:=_) rfl (by kernel_rfl) rfl rfl (Zg rfl rfl rfl (by kernel_rfl) (by simp [Value.oneCell']) q17 rfl) (by kernel_rfl) fun w15 hw=>?_
    replace q3:=Z5 hw q3 (by omega)
    replace q10:=Z5 hw q10 (by omega)
    replace q17:=Zz hw q17 rfl
    replace E:=Za E hw (fun h=>by first | exact absurd h (by omega) | simp)
    clear hw
    refine Z0p (by kernel_rfl) ?_ _
    clear q3_ q10_ hh eS
    all_goals
     clear e1 hap
     go_upto_region 11 with (fail)
     refine wp_region_lit ?_
     refine Z3 rfl rfl (Z9 rfl rfl Try.underlying23 rfl (n:=0) (sz:=1) rfl (by kernel_rfl) (by decide)) (by simp only [ls,lz];exact rfl) ?_
     refine Z3 rfl rfl (Zh rfl rfl Try.underlying3 rfl ((Z0 q17 0).trans (get0))) (by simp only [ls,lz];exact rfl) ?_
     refine Z3 rfl rfl (Z9 rfl rfl Try.underlying28 rfl (n:=7) (sz:=1) rfl (by kernel_rfl) (by decide)) (by simp only [ls,lz];exact rfl) ?_
     refine Z3 rfl rfl (Zh rfl rfl Try.underlying3 rfl ((Z0 q3 7).trans (getS (getS (getS (getS (getS (getS (getS (get0)))))))))) (by simp only [ls,lz];exact rfl) ?_
     refine Z3 rfl rfl (Z1I rfl rfl rfl (by omega) (by omega)) (by simp only [ls,lz];exact rfl) ?_
     refine Z3 rfl rfl (Z8 (v:=.int .i64 _) rfl rfl) (by simp only [ls,lz];exact rfl) ?_
     refine wpList_nil ?_
     obtain ⟨left,hleft⟩:∃ left,left = (Z2p t s a i).2:=⟨_,rfl⟩
     obtain ⟨cnt,hcnt⟩:∃ cnt,cnt = (Z6c t s a i - Z1E t s a i + 1).toNat:=⟨_,rfl⟩
     have HR:=Lib.hid (show Z2p t s a (i + 1) = Z6M (nxt1 t s a i left cnt (Z1E t s a i) 0) (Z2p t s a i) i by rw [hcnt,hleft];exact Z40 _ _ _ _)
     rw [← hleft]
     have HL:=Lib.hid hleft
     clear hleft
     have hlo:-(bdV t 0 (ZO s a) (Z0q i)) - t.sl = Z1E t s a i:=rfl
     have hhi:bdV t 0 (Z0q i) (ZO s a) + t.sl = Z6c t s a i:=rfl
     rw [hlo]
     have Hcnt:=Lib.hid hcnt
     have Hlo:=Lib.hid hlo
     have Hhi:=Lib.hid hhi
     have Hsum:=Lib.hid hsum
     clear hcnt hlo hhi hsum
     generalize hbst:(Z2p t s a i).1 = bst
     go_wp2_with fail
     go_loopw [18,16] (fun tv mv wr=>∃ (k:Nat) (most:Int),k ≤ cnt ∧ tv = .int .i64 (Z1E t s a i + k) ∧ mv = .int .i64 most ∧
      nxt1 t s a i left (cnt - k) (Z1E t s a i + k) most = nxt1 t s a i left cnt (Z1E t s a i) 0 ∧
      wr.heap[n3]? = some (.cells #[.int .i64 t.S,.int .i64 t.A,.int .i64 t.T,.int .i64 t.bl,.int .i64 t.bm,.int .i64 t.pl,.int .i64 t.pm,.int .i64 t.sl,gv,.slice ra t.rd.length rcap,lv] 28 (0,0)) ∧
      wr.heap[n10]? = some (.cells (ZD (bdV t 0)) 105 (0,0)) ∧
      wr.heap[n17]? = some (.cells #[.int .i64 (-(bdV t 0 (ZO s a) (Z0q i))),.int .i64 (bdV t 0 (Z0q i) (ZO s a))] 23 (0,0)) ∧ Ext [] w wr) (fun tv _ _=>cnt - (intOf tv - Z1E t s a i).toNat)
     case atStart=>exact ⟨0,0,Nat.zero_le _,by simp,rfl,by simp,q3,q10,q17,E⟩
     case round =>
      clear q3 q10 q17 E
      obtain ⟨k,most,hk,rfl,rfl,hn,q3,q10,q17,E⟩:=hrel
      have HN:=Lib.hid hn;clear hn
      have hlo:=Hlo.out
      have hhi:=Hhi.out
      have hsum:=Hsum.out
      have hcn:=Hcnt.out
      go_upto_region 12 with (fail)
      refine wp_region_lit ?_
      refine Z3 rfl rfl (Zi (v:=.int .i64 _) rfl rfl) (by simp only [ls,lz];exact rfl) ?_
      refine Z3 rfl rfl (Z9 rfl rfl Try.underlying23 rfl (n:=1) (sz:=1) rfl (by kernel_rfl) (by decide)) (by simp only [ls,lz];exact rfl) ?_
      refine Z3 rfl rfl (Zh rfl rfl Try.underlying3 rfl ((Z0 q17 1).trans (getS (get0)))) (by simp only [ls,lz];exact rfl) ?_
      refine Z3 rfl rfl (Z9 rfl rfl Try.underlying28 rfl (n:=7) (sz:=1) rfl (by kernel_rfl) (by decide)) (by simp only [ls,lz];exact rfl) ?_
      refine Z3 rfl rfl (Zh rfl rfl Try.underlying3 rfl ((Z0 q3 7).trans (getS (getS (getS (getS (getS (getS (getS (get0)))))))))) (by simp only [ls,lz];exact rfl) ?_
      refine Z3 rfl rfl (Z0F rfl rfl rfl (by omega) (by omega)) (by simp only [ls,lz];exact rfl) ?_
      refine Z3 rfl rfl (Zb2 rfl rfl rfl) (by simp only [ls,lz];exact rfl) ?_
      refine wpList_nil ?_
      rw [hhi]
      by_cases hltk:k < cnt
      ·have hle:Z1E t s a i + (k:Int) ≤ Z6c t s a i:=by omega
       have g1:0 ≤ Z1E t s a i + (k:Int):=by omega
       have g2:Z1E t s a i + (k:Int) ≤ 250:=by omega
       obtain ⟨tape,htape⟩:∃ tape,tape = Z1E t s a i + (k:Int):=⟨_,rfl⟩
       rw [← htape] at hle g1 g2 HN ⊢
       go_upto_region 14 with (fail)
       refine wp_region_lit ?_
       refine Z3 rfl rfl (Zt rfl rfl Try.underlying28 rfl (by kernel_rfl) q3) (by simp only [ls,lz];exact rfl) ?_
       refine Z3 rfl rfl (Zi (v:=.int .i64 _) rfl rfl) (by simp only [ls,lz];exact rfl) ?_
       refine Z3 rfl rfl (Zi (v:=.int .i64 _) rfl rfl) (by simp only [ls,lz];exact rfl) ?_
       refine Z3 rfl rfl (Zi (v:=.int .i64 _) rfl rfl) (by simp only [ls,lz];exact rfl) ?_
       refine Z3 rfl rfl (Zi (v:=.int .i64 _) rfl rfl) (by simp only [ls,lz];exact rfl) ?_
       refine Z3 rfl rfl (ZZ rfl (cells:=#[.int .i64 s,.int .i64 a,.int .i64 i,.int .i64 tape]) (by kernel_rfl)) (by simp only [ls,lz];exact rfl) ?_
       refine ZC rfl rfl (by kernel_rfl) (HRd.out (s,a,i,tape) _ E) fun e w16 hR=>?_
       obtain ⟨rb,rc,hrcap,rfl,hT,e1⟩:=hR
       refine ⟨_,_,rfl,(by simp only [ls,lz];exact rfl),?_⟩
       replace q3:=(e1).keep0 q3
       replace q10:=(e1).keep0 q10
       replace q17:=(e1).keep0 q17
       replace E:=Z4 E (e1)
       have E2:Ext [] w16 w16:=Ext.refl _ _
       refine Z3 rfl rfl (ZZ rfl (cells:=(Z26 (addR t (s,a,i,tape)) gv (.slice (some ⟨rb,0,none⟩) (addR t (s,a,i,tape)).rd.length rc) lv)) (by kernel_rfl)) (by simp only [ls,lz];exact rfl) ?_
       refine Zy rfl rfl (ZB rfl Try.zeroValue100) (by simp only [ls,lz];exact rfl) fun w17 hw=>?_
       obtain ⟨n19,hn⟩:∃ n,n = w16.heap.size:=⟨_,rfl⟩
       rw [← hn]
       have l19:w.heap.size ≤ n19:=by rw [hn];exact E.size
       have l19_E2:w16.heap.size ≤ n19:=by rw [hn];exact E2.size
       have m19_3:n3 < n19:=by rw [hn];exact Z7 q3
       have m19_10:n10 < n19:=by rw [hn];exact Z7 q10
       have m19_17:n17 < n19:=by rw [hn];exact Z7 q17
       replace q3:=Z1 hw q3
       replace q10:=Z1 hw q10
       replace q17:=Z1 hw q17
       replace E2:=Z2 E2 hw
       have q19:=Zr hw hn
       replace E:=Z2 E hw
       clear hw hn
       refine ZY rfl rfl (Zg rfl rfl rfl (by kernel_rfl) (Z0S ⟨hone.1,rfl,hone.2.2⟩) q19 rfl) fun w18 hw=>?_
       replace q3:=Z5 hw q3 (by omega)
       replace q10:=Z5 hw q10 (by omega)
       replace q17:=Z5 hw q17 (by omega)
       replace q19:=Zz hw q19 rfl
       replace E2:=Za E2 hw (fun h=>by first | exact absurd h (by omega) | simp)
       replace E:=Za E hw (fun h=>by first | exact absurd h (by omega) | simp)
       clear hw
       refine wpList_nil ?_
       clear e1
       go_upto_region 15 with (fail)
       refine wp_region_lit ?_
       refine Z3 rfl rfl (Zt rfl rfl Try.underlying100 rfl (by kernel_rfl) q19) (by simp only [ls,lz];exact rfl) ?_
       refine ZC rfl rfl (by kernel_rfl) (HSol.out i tape _ rb rc hlt g1 g2 (hT.ext E2 (by simp))) fun e w19 hR=>?_
       obtain ⟨rfl,e1⟩:=hR
       refine ⟨_,_,rfl,(by simp only [ls,lz];exact rfl),?_⟩
       replace q3:=(e1).keep0 q3
       replace q10:=(e1).keep0 q10
       replace q17:=(e1).keep0 q17
       replace q19:=(e1).keep0 q19
       replace E2:=Z4 E2 (e1)
       replace E:=Z4 E (e1)
       refine Z3 rfl rfl (Zi (v:=.tuple _) rfl rfl) (by simp only [ls,lz];exact rfl) ?_
       refine Z3 rfl rfl (Zm rfl rfl (get0)) (by simp only [ls,lz];exact rfl) ?_
       refine Z3 rfl rfl (Zm rfl rfl (getS (get0))) (by simp only [ls,lz];exact rfl) ?_
       refine Zy rfl rfl (ZB rfl Try.zeroValue105) (by simp only [ls,lz];exact rfl) fun w20 hw=>?_
       obtain ⟨n20,hn⟩:∃ n,n = w19.heap.size:=⟨_,rfl⟩
       rw [← hn]
       have l20:w.heap.size ≤ n20:=by rw [hn];exact E.size
       have l20_E2:w16.heap.size ≤ n20:=by rw [hn];exact E2.size
       have m20_3:n3 < n20:=by rw [hn];exact Z7 q3
       have m20_10:n10 < n20:=by rw [hn];exact Z7 q10
       have m20_17:n17 < n20:=by rw [hn];exact Z7 q17
       have m20_19:n19 < n20:=by rw [hn];exact Z7 q19
       replace q3:=Z1 hw q3
       replace q10:=Z1 hw q10
       replace q17:=Z1 hw q17
       replace q19:=Z1 hw q19
       replace E2:=Z2 E2 hw
       have q20:=Zr hw hn
       replace E:=Z2 E hw
       clear hw hn
       refine ZY rfl rfl (Zg rfl rfl rfl (by rw [Zj];kernel_rfl) (by rw [← ZI];exact all_oneCell_toArray (Z05 _)) q20 (by show Try.zeroCells105.size = _;rw [Try.zeroCells105_size,Zj])) fun w21 hw=>?_
       replace q3:=Z5 hw q3 (by omega)
       replace q10:=Z5 hw q10 (by omega)
       replace q17:=Z5 hw q17 (by omega)
       replace q19:=Z5 hw q19 (by omega)
       replace q20:=Zz hw q20 (by show Try.zeroCells105.size = _;rw [Try.zeroCells105_size,Zj])
       replace E2:=Za E2 hw (fun h=>by first | exact absurd h (by omega) | simp)
       replace E:=Za E hw (fun h=>by first | exact absurd h (by omega) | simp)
       clear hw
       refine Z3 rfl rfl (Z8 (v:=.bool _) rfl rfl) (by simp only [ls,lz];exact rfl) ?_
       refine wpList_nil ?_
       clear e1 hT
       have hk1:cnt - k = (cnt - (k + 1)) + 1:=by omega
       have hap2:=fun W=>Z4q (bdV (addR t (s,a,i,tape)) 0) 0 (ZO s a) (by omega) hc (HBig.out i tape _ _ hlt g1 g2 hc (by omega)) W
       have hnm2:=Zb1 (addR t (s,a,i,tape)) (ZO s a) (HBig.out i tape _ _ hlt g1 g2 hc (by omega)) (HBig.out i tape _ _ hlt g1 g2 (by omega) hc)
       have HT:=Lib.hid htape
       clear hsum hcn hlo hhi htape
       cases hb:bdB (addR t (s,a,i,tape)) 0
       ·have H1:Hid (nxt1 t s a i left (cnt - (k + 1)) (Z1E t s a i + ((k + 1:Nat):Int)) most = nxt1 t s a i left cnt (Z1E t s a i) 0):=by
         show _ = _
         rw [← HN.out,hk1]
         simp only [nxt1,hb,Bool.false_eq_true,if_false]
         rw [HT.out,show Z1E t s a i + ((k + 1:Nat):Int) = Z1E t s a i + (k:Int) + 1 by omega]
        clear hap2 hnm2 hb
        go_wp2
        go_roundw
        case rel=>exact ⟨k + 1,most,by omega,by rw [HT.out,show Z1E t s a i + ((k + 1:Nat):Int) = Z1E t s a i + (k:Int) + 1 by omega],rfl,H1.out,q3,q10,q17,E⟩
        case measure=>simp [intOf,HT.out];omega
       ·go_upto_region 17 with (fail)
        refine wp_region_lit ?_
        refine Z3 rfl rfl (Zi (v:=.int .i64 _) rfl rfl) (by simp only [ls,lz];exact rfl) ?_
        refine Z3 rfl rfl (Zt rfl rfl Try.underlying105 rfl (by rw [Zj];kernel_rfl) q20) (by simp only [ls,lz];exact rfl) ?_
        refine Z3 rfl rfl (Zi (v:=.int .i64 _) rfl rfl) (by simp only [ls,lz];exact rfl) ?_
        refine ZC rfl rfl (by kernel_rfl) (hap2 _) fun e w22 hR=>?_
        obtain ⟨rfl,e1⟩:=hR
        refine ⟨_,_,rfl,(by simp only [ls,lz];exact rfl),?_⟩
        replace q3:=(e1).keep0 q3
        replace q10:=(e1).keep0 q10
        replace q17:=(e1).keep0 q17
        replace q19:=(e1).keep0 q19
        replace q20:=(e1).keep0 q20
        replace E2:=Z4 E2 (e1)
        replace E:=Z4 E (e1)
        refine ZC rfl rfl (by kernel_rfl) (hnm2 _) fun e w23 hR=>?_
        obtain ⟨rfl,e2⟩:=hR
        refine ⟨_,_,rfl,(by simp only [ls,lz];exact rfl),?_⟩
        replace q3:=(e2).keep0 q3
        replace q10:=(e2).keep0 q10
        replace q17:=(e2).keep0 q17
        replace q19:=(e2).keep0 q19
        replace q20:=(e2).keep0 q20
        replace E2:=Z4 E2 (e2)
        replace E:=Z4 E (e2)
        refine Z3 rfl rfl (Z7Q rfl rfl rfl rfl) (by simp only [ls,lz];exact rfl) ?_
        refine Z3 rfl rfl (Z8 (v:=.int .i64 _) rfl rfl) (by simp only [ls,lz];exact rfl) ?_
        refine wpList_nil ?_
        clear e1 e2 hap2 hnm2
        obtain ⟨m2,hm2⟩:∃ m2,m2 = max most (numB (addR t (s,a,i,tape)) (ZO s a)):=⟨_,rfl⟩
        rw [← hm2]
        have H0:Hid (nxt1 t s a i left cnt (Z1E t s a i) 0 = if left ≤ m2 then none else nxt1 t s a i left (cnt - (k + 1)) (tape + 1) m2):=by
         show _ = _
         rw [← HN.out,hk1]
         simp only [nxt1,hb,if_true,← hm2]
        clear hm2 hb
        by_cases hge:left ≤ m2
        ·have H1:Hid (Z2p t s a (i + 1) = Z2p t s a i):=by
          show _ = _
          rw [HR.out,H0.out,if_pos hge]
          rfl
         clear H0
         go_wp2
         go_roundw
         case rel=>exact ⟨i + 1,by omega,by go_num,by rw [H1.out,hbst],by rw [H1.out,← HL.out],q3,q10,E⟩
         case measure=>simp [intOf];omega
        ·have H1:Hid (nxt1 t s a i left (cnt - (k + 1)) (Z1E t s a i + ((k + 1:Nat):Int)) m2 = nxt1 t s a i left cnt (Z1E t s a i) 0):=by
          show _ = _
          rw [H0.out,if_neg hge,HT.out,show Z1E t s a i + ((k + 1:Nat):Int) = Z1E t s a i + (k:Int) + 1 by omega]
         clear H0
         go_wp2
         go_roundw
         case rel=>exact ⟨k + 1,m2,by omega,by rw [HT.out,show Z1E t s a i + ((k + 1:Nat):Int) = Z1E t s a i + (k:Int) + 1 by omega],rfl,H1.out,q3,q10,q17,E⟩
         case measure=>simp [intOf,HT.out];omega
      ·have hle:¬ Z1E t s a i + (k:Int) ≤ Z6c t s a i:=by omega
       have H1:Hid (Z2p t s a (i + 1) = ((i:Int),most)):=by
        show _ = _
        rw [HR.out,← HN.out,show cnt - k = 0 by omega]
        rfl
       clear hsum hcn hlo hhi
       go_wp2
       go_roundw
       case rel=>exact ⟨i + 1,by omega,by go_num,by rw [H1.out],by rw [H1.out],q3,q10,E⟩
       case measure=>simp [intOf];omega
   ·have hT:(i:Int) = t.T:=by omega
    have hTi:t.T.toNat = i:=by omega
    rw [hTi] at HE
    have HV:Hid (Z4X t s a = if Z4g t s a = 0 then Z2p t s a i else (0,0)):=by show _ = _;rw [Z4X,hTi]
    obtain ⟨⟨bst,left⟩,hbl⟩:∃ bl,bl = Z2p t s a i:=⟨_,rfl⟩
    rw [← hbl] at HE HV ⊢
    clear hbl hTi
    by_cases hb:bst < 0
    ·have h1:Z4g t s a = 11:=by rw [HE.out,if_pos hb]
     have h2:Z4X t s a = (0,0):=by rw [HV.out,h1];rfl
     clear HE HV
     have H1:=Lib.hid h1
     have H2:=Lib.hid h2
     clear h1 h2
     go_wp2
     refine Z5J ?_
     refine bodyPost_ret (v:=.tuple #[.int .i64 0,.int .i64 0,.int .i64 11]) (by simp [results,Try.results38]) rfl ⟨by rw [H1.out,H2.out],E⟩
    ·have h1:Z4g t s a = 0:=by rw [HE.out,if_neg hb]
     have h2:Z4X t s a = (bst,left):=by rw [HV.out,h1];rfl
     clear HE HV
     have H1:=Lib.hid h1
     have H2:=Lib.hid h2
     clear h1 h2
     go_wp2
     refine Z5J ?_
     refine bodyPost_ret (v:=.tuple #[.int .i64 bst,.int .i64 left,.int .i64 0]) (by simp [results,Try.results38]) rfl ⟨by rw [H1.out,H2.out],E⟩
 ·have h1:Z4g t s a = Z3p t s a:=by rw [Z4g,if_pos (by simpa using h)]
  have h2:Z4X t s a = (0,0):=by rw [Z4X,h1,if_neg h]
  rw [h1,h2]
  obtain ⟨ce,hce⟩:∃ ce,ce = Z3p t s a:=⟨_,rfl⟩
  rw [← hce] at h HK ⊢
  clear hce h1 h2 ht0 ht
  have hb:(ce != 0) = true:=by simpa using h
  generalize Z1g t (sel3 [s] [a] []) = m at HK
  generalize Z2E t (sel3 [s] [a] []) gv rv lv = X at HK hVs hVo
  subst hrv
  unfold tpV at HK ⊢
  go_enter Try.func38,Try.ntmps38
  go_upto_region 0 with (fail)
  refine wp_region_lit ?_
  refine Zy rfl rfl (Z0z (v:=.agg _) rfl rfl) (by simp only [ls,lz];exact rfl) fun w1 hw=>?_
  obtain ⟨n3,hn⟩:∃ n,n = w.heap.size:=⟨_,rfl⟩
  rw [← hn]
  have l3:w.heap.size ≤ n3:=by rw [hn];exact E.size
  have q3:=Zr hw hn
  replace E:=Z2 E hw
  clear hw hn
  refine Z3 rfl rfl (Z8 (v:=.int .i64 _) rfl rfl) (by simp only [ls,lz];exact rfl) ?_
  refine Z3 rfl rfl (Z8 (v:=.int .i64 _) rfl rfl) (by simp only [ls,lz];exact rfl) ?_
  refine Z3 rfl rfl (Z8 (v:=.int .i64 _) rfl rfl) (by simp only [ls,lz];exact rfl) ?_
  refine wpList_nil ?_
  go_upto_region 1 with (fail)
  refine wp_scope_jumps 0 (fun _ _=>False) (fun _ _=>0) (by exact rfl) ?_ (fun _ _ h=>h.elim)
  go_upto_region 1 with (fail)
  refine wp_region_lit ?_
  refine Z3 rfl rfl (Zt rfl rfl Try.underlying28 rfl (by kernel_rfl) q3) (by simp only [ls,lz];exact rfl) ?_
  refine Z3 rfl rfl (Zi (v:=.int .i64 _) rfl rfl) (by simp only [ls,lz];exact rfl) ?_
  refine Zy rfl rfl (ZE rfl Try.underlying29 (size:=1) (by kernel_rfl) (by decide) (by decide) Try.zeroValue3 (cells:=#[.int .i64 s]) (by kernel_rfl)) (by simp only [ls,lz];exact rfl) fun w2 hw=>?_
  obtain ⟨n25,hn⟩:∃ n,n = w1.heap.size:=⟨_,rfl⟩
  rw [← hn]
  have l25:w.heap.size ≤ n25:=by rw [hn];exact E.size
  have m25_3:n3 < n25:=by rw [hn];exact Z7 q3
  replace q3:=Z1 hw q3
  have q25:=Zw hw hn
  replace E:=Z2 E hw
  clear hw hn
  refine Z3 rfl rfl (Zi (v:=.int .i64 _) rfl rfl) (by simp only [ls,lz];exact rfl) ?_
  refine Zy rfl rfl (ZE rfl Try.underlying29 (size:=1) (by kernel_rfl) (by decide) (by decide) Try.zeroValue3 (cells:=#[.int .i64 a]) (by kernel_rfl)) (by simp only [ls,lz];exact rfl) fun w3 hw=>?_
  obtain ⟨n27,hn⟩:∃ n,n = w2.heap.size:=⟨_,rfl⟩
  rw [← hn]
  have l27:w.heap.size ≤ n27:=by rw [hn];exact E.size
  have m27_3:n3 < n27:=by rw [hn];exact Z7 q3
  have m27_25:n25 < n27:=by rw [hn];exact Z7 q25
  replace q3:=Z1 hw q3
  replace q25:=Z1 hw q25
  have q27:=Zw hw hn
  replace E:=Z2 E hw
  clear hw hn
  refine ZC rfl rfl (by kernel_rfl) (HK.out _ n25 n27 E q25 q27) fun e w4 hR=>?_
  obtain ⟨rfl,e1⟩:=hR
  refine ⟨_,_,rfl,(by simp only [ls,lz];exact rfl),?_⟩
  replace q3:=(e1).keep0 q3
  replace q25:=(e1).keep0 q25
  replace q27:=(e1).keep0 q27
  replace E:=Z4 E (e1)
  refine Z3 rfl rfl (Zi (v:=.tuple _) rfl rfl) (by simp only [ls,lz];exact rfl) ?_
  refine Z3 rfl rfl (Zm rfl rfl (get0)) (by simp only [ls,lz];exact rfl) ?_
  refine Z3 rfl rfl (Zm rfl rfl (getS (get0))) (by simp only [ls,lz];exact rfl) ?_
  refine Z3 rfl rfl (Zm rfl rfl (getS (getS (get0)))) (by simp only [ls,lz];exact rfl) ?_
  refine Zy rfl rfl (ZB rfl Try.zeroValue100) (by simp only [ls,lz];exact rfl) fun w5 hw=>?_
  obtain ⟨n9,hn⟩:∃ n,n = w4.heap.size:=⟨_,rfl⟩
  rw [← hn]
  have l9:w.heap.size ≤ n9:=by rw [hn];exact E.size
  have m9_3:n3 < n9:=by rw [hn];exact Z7 q3
  have m9_25:n25 < n9:=by rw [hn];exact Z7 q25
  have m9_27:n27 < n9:=by rw [hn];exact Z7 q27
  replace q3:=Z1 hw q3
  replace q25:=Z1 hw q25
  replace q27:=Z1 hw q27
  have q9:=Zr hw hn
  replace E:=Z2 E hw
  clear hw hn
  refine Zy rfl rfl (ZB rfl Try.zeroValue105) (by simp only [ls,lz];exact rfl) fun w6 hw=>?_
  obtain ⟨n10,hn⟩:∃ n,n = w5.heap.size:=⟨_,rfl⟩
  rw [← hn]
  have l10:w.heap.size ≤ n10:=by rw [hn];exact E.size
  have m10_3:n3 < n10:=by rw [hn];exact Z7 q3
  have m10_25:n25 < n10:=by rw [hn];exact Z7 q25
  have m10_27:n27 < n10:=by rw [hn];exact Z7 q27
  have m10_9:n9 < n10:=by rw [hn];exact Z7 q9
  replace q3:=Z1 hw q3
  replace q25:=Z1 hw q25
  replace q27:=Z1 hw q27
  replace q9:=Z1 hw q9
  have q10:=Zr hw hn
  replace E:=Z2 E hw
  clear hw hn
  refine ZY rfl rfl (Zg rfl rfl rfl (by rw [hVs];kernel_rfl) hVo q9 (by rw [hVs];rfl)) fun w7 hw=>?_
  replace q3:=Z5 hw q3 (by omega)
  replace q25:=Z5 hw q25 (by omega)
  replace q27:=Z5 hw q27 (by omega)
  replace q9:=Zz hw q9 (by rw [hVs];rfl)
  replace q10:=Z5 hw q10 (by omega)
  replace E:=Za E hw (fun h=>by first | exact absurd h (by omega) | simp)
  clear hw
  refine ZY rfl rfl (Zg rfl rfl rfl (by rw [Zj];kernel_rfl) (by rw [← ZI];exact all_oneCell_toArray (Z05 _)) q10 (by show Try.zeroCells105.size = _;rw [Try.zeroCells105_size,Zj])) fun w8 hw=>?_
  replace q3:=Z5 hw q3 (by omega)
  replace q25:=Z5 hw q25 (by omega)
  replace q27:=Z5 hw q27 (by omega)
  replace q9:=Z5 hw q9 (by omega)
  replace q10:=Zz hw q10 (by show Try.zeroCells105.size = _;rw [Try.zeroCells105_size,Zj])
  replace E:=Za E hw (fun h=>by first | exact absurd h (by omega) | simp)
  clear hw
  refine Z3 rfl rfl (Z8 (v:=.int .i64 _) rfl rfl) (by simp only [ls,lz];exact rfl) ?_
  refine wpList_nil ?_
  clear e1
  go_wp2
  refine Z5J ?_
  refine bodyPost_ret (v:=.tuple #[.int .i64 0,.int .i64 0,.int .i64 ce]) (by simp [results,Try.results38]) rfl ⟨rfl,E⟩
theorem Z6 {w:World} {base size n k:Nat} {e T:TypeId} {v:Value} {xs:List Value} {cs:Array Value} {fz:Nat × Nat} (ho:w.ownsRow base e size v n xs) (h:w.heap[k]? = some (.cells cs T fz)) (hT:T ≠ e):some k ≠ v.ownBlock:=by
 intro hk
 rcases ho.2 with ⟨hv,-⟩ | ⟨g,cap,cur,hv,-,hg,-⟩
 ·rw [hv] at hk;cases hk
 ·rw [hv] at hk
  have hkg:k = g:=by cases hk;rfl
  subst hkg
  rw [hg] at h
  cases h
  exact hT rfl
theorem Z0c {w0 w:World} {b k:Nat} {nv:Value} (h:Z0v w0 w b k nv):b < w.heap.size:=by
 obtain ⟨-,-,-,d,st,h,-⟩:=h
 exact Z7 h
theorem Zb {w w':World} {base n size b:Nat} {e T:TypeId} {v:Value} {xs:List Value} {cs:Array Value} {fz:Nat × Nat} (ho:w.ownsRow base e size v n xs) (hg:w.grownBy w' v.ownBlock) (q:w.heap[b]? = some (.cells cs T fz)) (hT:T ≠ e):w'.heap[b]? = some (.cells cs T fz):=
 (hg.block b (Z7 q) (Z6 ho q hT)).trans q
theorem Zx {w w':World} {base n size base2 n2 size2:Nat} {e e2:TypeId} {v v2:Value} {xs xs2:List Value} (h2:w.ownsRow base2 e2 size2 v2 n2 xs2) (ho:w.ownsRow base e size v n xs) (hg:w.grownBy w' v.ownBlock) (hT:e2 ≠ e):w'.ownsRow base2 e2 size2 v2 n2 xs2:=by
 refine ⟨h2.1,?_⟩
 rcases h2.2 with h | ⟨g,cap,cur,h1,hb,h3,h4⟩
 ·exact .inl h
 ·exact .inr ⟨g,cap,cur,h1,hb,Zb ho hg h3 hT,h4⟩
theorem Zd {X:List Nat} {w0 w w':World} {base:Nat} {e:TypeId} {size:Nat} {v:Value} {n:Nat} {xs:List Value} (E:Ext X w0 w) (h:w.ownsRow base e size v n xs) (hg:w.grownBy w' v.ownBlock) (hb:w0.heap.size ≤ base):Ext X w0 w':=
 ⟨hg.os.trans E.os,hg.tape.trans E.tape,hg.output.trans E.output,Nat.le_trans E.size hg.size,fun k hk hx=>(hg.block k (Nat.lt_of_lt_of_le hk E.size) (fun e=>by have:=h.lt k e.symm;omega)).trans (E.block k hk hx)⟩
theorem Z0O {w0 w w':World} {b k:Nat} {nv:Value} {base:Nat} {e:TypeId} {size:Nat} {v:Value} {n:Nat} {xs:List Value} (HL:Z0v w0 w b k nv) (h:w.ownsRow base e size v n xs) (hg:w.grownBy w' v.ownBlock) (hb:w0.heap.size ≤ base) (hT:98 ≠ e):Z0v w0 w' b k nv:=by
 obtain ⟨h1,h2,h3,d,st,h4,h5⟩:=HL
 exact ⟨h1,h2,Zd h3 h hg hb,d,st,Zb h hg h4 hT,h5⟩
theorem Zai {w:World} {base n size k:Nat} {e:TypeId} {v:Value} {xs:List Value} (ho:w.ownsRow base e size v n xs) (hk:some k = v.ownBlock):k < w.heap.size:=by
 rcases ho.2 with ⟨hv,-⟩ | ⟨g,cap,cur,hv,-,hg,-⟩
 ·rw [hv] at hk;cases hk
 ·rw [hv] at hk
  cases hk
  exact Z7 hg
theorem Zo {w:World} {base n size k:Nat} {e:TypeId} {v:Value} {xs:List Value} (ho:w.ownsRow base e size v n xs) (hk:k = w.heap.size):some k ≠ v.ownBlock:=fun h=>by
 have:=Zai ho h
 omega
theorem Z5f {w w':World} {base:Nat} {e:TypeId} {size:Nat} {v:Value} {n:Nat} {xs:List Value} (h:w.ownsRow base e size v n xs) (k:∀ (g:Nat) (o:Obj),some g = v.ownBlock → w.heap[g]? = some o → w'.heap[g]? = some o):w'.ownsRow base e size v n xs:=by
 refine ⟨h.1,?_⟩
 rcases h.2 with h | ⟨g,cap,cur,h1,h2,h3,h4⟩
 ·exact .inl h
 ·exact .inr ⟨g,cap,cur,h1,h2,k g _ (by rw [h1];rfl) h3,h4⟩
theorem Zu {w w2:World} {c o:Nat} {l:List Value} {base:Nat} {e:TypeId} {size:Nat} {v:Value} {n:Nat} {xs:List Value} (hw:w2 = w.setCells c o l) (h:w.ownsRow base e size v n xs) (hb:some c ≠ v.ownBlock):w2.ownsRow base e size v n xs:=
 Z5f h fun g x hg ho=>Z5 hw ho (fun e=>hb (by rw [← e];exact hg))
theorem Ze {w w2:World} {c o:Nat} {u:Value} {base:Nat} {e:TypeId} {size:Nat} {v:Value} {n:Nat} {xs:List Value} (hw:w2 = w.setCell ⟨c,o,none⟩ u) (h:w.ownsRow base e size v n xs) (hb:some c ≠ v.ownBlock):w2.ownsRow base e size v n xs:=
 Z5f h fun g x hg ho=>ZA hw ho (fun e=>hb (by rw [← e];exact hg))
theorem Z5F {w w2:World} {b o:Nat} {T:TypeId} {cs cs':Array Value} {x y:Value} (e:w2 = w.setCells b o [x,y]) (h:w.heap[b]? = some (.cells cs T (0,0))) (hc:(cs.setIfInBounds o x).setIfInBounds (o + 1) y = cs'):w2.heap[b]? = some (.cells cs' T (0,0)):=by
 subst hc
 have h1:=ZK (w2:=w.setCell ⟨b,o,none⟩ x) rfl h rfl
 have h2:=ZK (w2:=(w.setCell ⟨b,o,none⟩ x).setCell ⟨b,o + 1,none⟩ y) rfl h1 rfl
 rw [e]
 exact h2
theorem Z99 {w:World} {b o n:Nat} {cs:Array Value} {T:TypeId} (H:w.heap[b]? = some (.cells cs T (0,0))) (h:o + n ≤ cs.size):w.there b o n:=fun j hj=>by
 rw [Z0 H,Zl H]
 have:o + j < cs.size:=by omega
 simp [this]
section
variable {P:Program} {ρ:Operand → Value} {o:Oper} {w:World}
theorem Z3Z {x y:Operand} {t:TypeId} {b off:Nat} {cs:Array Value} (ho:o.op = .store t x y) (hx:ρ x = .pointer (some ⟨b,off,none⟩)) (hy:ρ y = .agg cs) (hi:(P.info? t).map (·.size) = some cs.size) (h1:cs.all (·.oneCell') = true) {old:Array Value} {T:TypeId} (H:w.heap[b]? = some (.cells old T (0,0))) (hs:off + cs.size ≤ old.size) :
  (execOp ρ o).run P w = .ok .skip (w.setCells b off cs.toList):=by
 unfold execOp
 simp only [ho,hx,hy,Instr.storeAt,Instr.sureAddr,Sem.run_bind,Sem.run_pure,Result.andThen_ok,run_storeVar_mid w b off t cs (Z99 H hs) hi h1]
end
section
variable {P:Program} {ops:Array Oper} {Q:Exit → Act → World → Prop} {md:Region.Mode} {S:World → Prop} {last:Nat}
theorem Z3s {o:Oper} {l:List Value} {ds:List Deferred} {w:World} {s x:Operand} {t:TypeId}
  (ho:o.op = .call { callee:=.builtin .append,args:=#[s,x],argTypes:=#[t,t] })
  (base:Nat) {e:TypeId} {size bytes:Nat} (ht:P.underlying t = some (.slice e)) (hi:(P.info? e).map (fun i=>(i.size,i.bytes,i.zero.map (·.cells.size))) = some (size,bytes,some size)) (hsz:0 < size)
  {v:Value} {n:Nat} {xs:List Value} (hs:(Act.mk l.toArray ds).eval s = v) (hown:w.ownsRow base e size v n xs)
  {g c:Nat} {T:TypeId} {fz:Nat × Nat} {news:List Value} (hx:(Act.mk l.toArray ds).eval x = .slice (some ⟨g,0,none⟩) 1 c) (hg:w.heap[g]? = some (.cells news.toArray T fz)) (hl:news.length = size) (h1:∀ u ∈ news,u.oneCell' = true)
  (hn:n ≤ 1000000) (hbytes:(n + 1) * bytes ≤ 140737488355328) (hbase:base ≤ w.heap.size) :
  ∃ v' w',(execOp (Act.eval ⟨l.toArray,ds⟩) o).run P w = .ok (.value v') w' ∧ w'.ownsRow base e size v' (n + 1) (xs ++ news) ∧ w.grownBy w' v.ownBlock:=by
 cases hq:P.info? e with
 | none=>simp [hq] at hi
 | some i =>
  simp only [hq,Option.map_some,Option.some.injEq,Prod.mk.injEq,Option.map_eq_some_iff] at hi
  obtain ⟨hi1,hi2,z,hz,hz2⟩:=hi
  obtain ⟨v',w',hr,h2,h3,-⟩:=run_append_own (P:=P) w base t o.type e i z size bytes ht hq hz hi1 hi2 hz2 hsz v n xs hown ⟨g,0,none⟩ 1 c news (by omega) (fun j u hu=>by
   rw [Addr.add_lit,Nat.zero_add,Z0 hg];simpa using hu) h1 (by simp only [maxLen];omega) hbytes hbase
  refine ⟨v',w',?_,h2,h3⟩
  unfold execOp
  simp only [ho,resolve,invoke,builtin,Sem.run_bind,Sem.run_pure,Result.andThen_ok,List.map_toArray,List.map_cons,List.map_nil,hs,hx,hr]
theorem Z2j {i d:Nat} {o:Oper} {fuel:Nat} {listed:Array Bool} {l:List Value} {ds:List Deferred} {w:World} (hio:ops[i]? = some o) (hr:Region.ready md ops listed = [i])
  (hd:o.dst = some d) (hw:Region.wanted o (yielded ops l.toArray) = true) {s x:Operand} {t:TypeId}
  (ho:o.op = .call { callee:=.builtin .append,args:=#[s,x],argTypes:=#[t,t] })
  (base:Nat) {e:TypeId} {size bytes:Nat} (ht:P.underlying t = some (.slice e)) (hi:(P.info? e).map (fun i=>(i.size,i.bytes,i.zero.map (·.cells.size))) = some (size,bytes,some size)) (hsz:0 < size)
  {v:Value} {n:Nat} {xs:List Value} (hs:(Act.mk l.toArray ds).eval s = v) (hown:w.ownsRow base e size v n xs)
  {g c:Nat} {T:TypeId} {fz:Nat × Nat} {news:List Value} (hx:(Act.mk l.toArray ds).eval x = .slice (some ⟨g,0,none⟩) 1 c) (hg:w.heap[g]? = some (.cells news.toArray T fz)) (hl:news.length = size) (h1:∀ u ∈ news,u.oneCell' = true)
  (hn:n ≤ 1000000) (hbytes:(n + 1) * bytes ≤ 140737488355328) (hbase:base ≤ w.heap.size)
  (h:∀ v' w',w'.ownsRow base e size v' (n + 1) (xs ++ news) → w.grownBy w' v.ownBlock → ∃ l',l.set d v' = l' ∧ S w' ∧ Z1i P md ops Q S last fuel (listed.setIfInBounds i true) ⟨l'.toArray,ds⟩ w'):Z1i P md ops Q S last (fuel + 1) listed ⟨l.toArray,ds⟩ w:=by
 obtain ⟨v',w',hrun,h2,h3⟩:=Z3s (l:=l) (ds:=ds) ho base ht hi hsz hs hown hx hg hl h1 hn hbytes hbase
 obtain ⟨l',hl',h4,h5⟩:=h v' w' h2 h3
 exact Z1z hio hr hd hw hrun hl' fun W2 hW2=>by subst hW2;exact ⟨fun _=>h4,h5⟩
theorem Z84 {i d:Nat} {o:Oper} {l:List Value} {ds:List Deferred} {w:World} {K:Act → World → Prop} (hio:ops[i]? = some o)
  (hd:o.dst = some d) (hw:Region.wanted o (yielded ops l.toArray) = true) {s x:Operand} {t:TypeId}
  (ho:o.op = .call { callee:=.builtin .append,args:=#[s,x],argTypes:=#[t,t] })
  (base:Nat) {e:TypeId} {size bytes:Nat} (ht:P.underlying t = some (.slice e)) (hi:(P.info? e).map (fun i=>(i.size,i.bytes,i.zero.map (·.cells.size))) = some (size,bytes,some size)) (hsz:0 < size)
  {v:Value} {n:Nat} {xs:List Value} (hs:(Act.mk l.toArray ds).eval s = v) (hown:w.ownsRow base e size v n xs)
  {g c:Nat} {T:TypeId} {fz:Nat × Nat} {news:List Value} (hx:(Act.mk l.toArray ds).eval x = .slice (some ⟨g,0,none⟩) 1 c) (hg:w.heap[g]? = some (.cells news.toArray T fz)) (hl:news.length = size) (h1:∀ u ∈ news,u.oneCell' = true)
  (hn:n ≤ 1000000) (hbytes:(n + 1) * bytes ≤ 140737488355328) (hbase:base ≤ w.heap.size)
  (h:∀ v' w',w'.ownsRow base e size v' (n + 1) (xs ++ news) → w.grownBy w' v.ownBlock → ∃ l',l.set d v' = l' ∧ K ⟨l'.toArray,ds⟩ w'):wpOp P ops Q i K ⟨l.toArray,ds⟩ w:=by
 obtain ⟨v',w',hrun,h2,h3⟩:=Z3s (l:=l) (ds:=ds) ho base ht hi hsz hs hown hx hg hl h1 hn hbytes hbase
 obtain ⟨l',hl',h5⟩:=h v' w' h2 h3
 exact Z1l hio hd hw hrun hl' fun W2 hW2=>by subst hW2;exact h5
end
section
variable {P:Program} {ρ:Operand → Value} {o:Oper} {w:World}
theorem Z3S {x y:Operand} {t t':TypeId} {k:IntKind} {n m:Int} {b:Bool} (ho:o.op = .binOp .gtr t x y t') (hx:ρ x = .int k n) (hy:ρ y = .int k m) (hb:decide (m < n) = b):(execOp ρ o).run P w = .ok (.value (.bool b)) w:=hb ▸ Z4J ho hx hy
theorem Zb8 {x y:Operand} {t t':TypeId} {k:IntKind} {n m:Int} {b:Bool} (ho:o.op = .binOp .eql t x y t') (hx:ρ x = .int k n) (hy:ρ y = .int k m) (hb:decide (n = m) = b):(execOp ρ o).run P w = .ok (.value (.bool b)) w:=by
 rw [Zar ho hx hy,← hb]
 congr 3
theorem Z2l {x y:Operand} {t t':TypeId} {k:IntKind} {n m:Int} {b:Bool} (ho:o.op = .binOp .neq t x y t') (hx:ρ x = .int k n) (hy:ρ y = .int k m) (hb:decide (n = m) = !b):(execOp ρ o).run P w = .ok (.value (.bool b)) w:=by
 rw [Zbk ho hx hy]
 have:(n != m) = b:=by
  rw [show (n != m) = !decide (n = m) from rfl,hb,Bool.not_not]
 rw [this]
end
theorem Z3R {P : Program} {w : World} {d : Nat} {xs ys : Array Value} {f : Go.Field} {fs : List Go.Field} {x y : Value} {r : Bool} (hn : (f.name != "_") = true) (hx : (part f.type xs f.offset).run P w = .ok x w) (hy : (part f.type ys f.offset).run P w = .ok y w) (he : (Op.equalIn d f.type x y).run P w = .ok r w) {q : Bool} (ht : (Op.eqFields d xs ys fs).run P w = .ok q w) :
  (Op.eqFields d xs ys (f :: fs)).run P w = .ok (r && q) w:=by
 simp only [Op.eqFields]
 rw [if_pos (by simpa using hn)]
 simp only [Sem.run_bind,hx,hy,he,Result.andThen_ok]
 cases r
 ·simp
 ·simpa using ht
theorem Z7a {w:World} {xs:Array Value} {o:Nat} {v:Value} (h:xs[o]? = some v):(part 3 xs o).run Try.prog w = .ok v w:=by
 simp only [part,isAgg,Sem.run_bind,run_underlying Try.underlying3,Result.andThen_ok,Sem.run_pure]
 simp [h]
theorem Z0R {w : World} {d : Nat} {xs ys : Array Value} {f : Go.Field} {fs : List Go.Field} {o : Nat} {a b : Int} (hf : (f.name != "_", f.type, f.offset) = (true, 3, o)) (hx : xs[o]? = some (.int .i64 a)) (hy : ys[o]? = some (.int .i64 b)) {q : Bool} (ht : (Op.eqFields (d + 1) xs ys fs).run Try.prog w = .ok q w) :
  (Op.eqFields (d + 1) xs ys (f :: fs)).run Try.prog w = .ok ((a == b) && q) w:=by
 simp only [Prod.mk.injEq] at hf
 obtain ⟨h1,h2,h3⟩:=hf
 exact Z3R h1 (by rw [h2,h3];exact Z7a hx) (by rw [h2,h3];exact Z7a hy) (by rw [h2];exact run_equalIn_int w _ _ .i64 .i64 _ _ Try.underlying3) ht
section
variable {ρ:Operand → Value} {o:Oper} {w:World}
theorem Z7c (d:Nat) (a b c e:Int):(Op.equalIn (d + 2) 23 (.agg #[.int .i64 a,.int .i64 b]) (.agg #[.int .i64 c,.int .i64 e])).run Try.prog w = .ok (decide (a = c ∧ b = e)) w:=by
 rw [run_equalIn_agg (P:=Try.prog) w (d + 1) 23 _ _ (by kernel_rfl) (by kernel_rfl)]
 have hf : (Try.prog.fieldsOf 23).toList.map (fun f => (f.name != "_", f.type, f.offset)) = [(true, 3, 0), (true, 3, 1)] := by kernel_rfl
 generalize (Try.prog.fieldsOf 23).toList = fs at hf
 obtain ⟨f,fs0,rfl,e0,hf0⟩:=List.map_eq_cons_iff.1 hf
 obtain ⟨g,fs1,rfl,e1,hf1⟩:=List.map_eq_cons_iff.1 hf0
 obtain rfl:=List.map_eq_nil_iff.1 hf1
 refine (Z0R e0 (a:=a) (b:=c) rfl rfl (Z0R e1 (a:=b) (b:=e) rfl rfl (q:=true) (by simp [Op.eqFields]))).trans ?_
 exact congrArg (fun b=>Result.ok b w) (by rw [Bool.eq_iff_iff];simp)
theorem Z9P (d:Nat) (a b c e a' b' c' e':Int):(Op.equalIn (d + 2) 66 (.agg #[.int .i64 a,.int .i64 b,.int .i64 c,.int .i64 e]) (.agg #[.int .i64 a',.int .i64 b',.int .i64 c',.int .i64 e'])).run Try.prog w = .ok (decide ((a,b,c,e) = (a',b',c',e'))) w:=by
 rw [run_equalIn_agg (P:=Try.prog) w (d + 1) 66 _ _ (by kernel_rfl) (by kernel_rfl)]
 have hf : (Try.prog.fieldsOf 66).toList.map (fun f => (f.name != "_", f.type, f.offset)) = [(true, 3, 0), (true, 3, 1), (true, 3, 2), (true, 3, 3)] := by kernel_rfl
 generalize (Try.prog.fieldsOf 66).toList = fs at hf
 obtain ⟨f,fs0,rfl,e0,hf0⟩:=List.map_eq_cons_iff.1 hf
 obtain ⟨g,fs1,rfl,e1,hf1⟩:=List.map_eq_cons_iff.1 hf0
 obtain ⟨h,fs2,rfl,e2,hf2⟩:=List.map_eq_cons_iff.1 hf1
 obtain ⟨i,fs3,rfl,e3,hf3⟩:=List.map_eq_cons_iff.1 hf2
 obtain rfl:=List.map_eq_nil_iff.1 hf3
 refine (Z0R e0 (a:=a) (b:=a') rfl rfl (Z0R e1 (a:=b) (b:=b') rfl rfl (Z0R e2 (a:=c) (b:=c') rfl rfl (Z0R e3 (a:=e) (b:=e') rfl rfl (q:=true) (by simp [Op.eqFields]))))).trans ?_
 exact congrArg (fun b=>Result.ok b w) (by rw [Bool.eq_iff_iff];simp)
theorem Z9O (d:Nat) (a b c e l h a' b' c' e' l' h':Int):(Op.equalIn (d + 3) 75 (.agg #[.int .i64 a,.int .i64 b,.int .i64 c,.int .i64 e,.int .i64 l,.int .i64 h]) (.agg #[.int .i64 a',.int .i64 b',.int .i64 c',.int .i64 e',.int .i64 l',.int .i64 h'])).run Try.prog w = .ok (decide ((a,b,c,e,l,h) = (a',b',c',e',l',h'))) w:=by
 rw [run_equalIn_agg (P:=Try.prog) w (d + 2) 75 _ _ (by kernel_rfl) (by kernel_rfl)]
 have hf : (Try.prog.fieldsOf 75).toList.map (fun f => (f.name != "_", f.type, f.offset)) = [(true, 3, 0), (true, 3, 1), (true, 3, 2), (true, 3, 3), (true, 23, 4)] := by kernel_rfl
 have hz:(sizeOf 23).run Try.prog w = .ok 2 w:=by
  have h:(Try.prog.info? 23).map (·.size) = some 2:=by kernel_rfl
  cases hq:Try.prog.info? 23 with
  | none=>simp [hq] at h
  | some j =>
   have hs:j.size = 2:=by simpa [hq] using h
   simp [sizeOf,typeInfo,hq,hs]
 have hp:∀ x1 x2 x3 x4 x5 x6:Int,(part 23 #[.int .i64 x1,.int .i64 x2,.int .i64 x3,.int .i64 x4,.int .i64 x5,.int .i64 x6] 4).run Try.prog w = .ok (.agg #[.int .i64 x5,.int .i64 x6]) w:=fun x1 x2 x3 x4 x5 x6=>by
  simp only [part,isAgg,Sem.run_bind,run_underlying Try.underlying23,Result.andThen_ok,Sem.run_pure,if_true,hz]
  rfl
 generalize (Try.prog.fieldsOf 75).toList = fs at hf
 obtain ⟨f,fs0,rfl,e0,hf0⟩:=List.map_eq_cons_iff.1 hf
 obtain ⟨g,fs1,rfl,e1,hf1⟩:=List.map_eq_cons_iff.1 hf0
 obtain ⟨i,fs2,rfl,e2,hf2⟩:=List.map_eq_cons_iff.1 hf1
 obtain ⟨j,fs3,rfl,e3,hf3⟩:=List.map_eq_cons_iff.1 hf2
 obtain ⟨k,fs4,rfl,e4,hf4⟩:=List.map_eq_cons_iff.1 hf3
 obtain rfl:=List.map_eq_nil_iff.1 hf4
 simp only [Prod.mk.injEq] at e4
 obtain ⟨k1,k2,k3⟩:=e4
 have hl:(Op.eqFields (d + 2) #[.int .i64 a,.int .i64 b,.int .i64 c,.int .i64 e,.int .i64 l,.int .i64 h] #[.int .i64 a',.int .i64 b',.int .i64 c',.int .i64 e',.int .i64 l',.int .i64 h'] [k]).run Try.prog w = .ok (decide (l = l' ∧ h = h') && true) w:=
  Z3R k1 (by rw [k2,k3];exact hp _ _ _ _ _ _) (by rw [k2,k3];exact hp _ _ _ _ _ _) (by rw [k2];exact Z7c d l h l' h') (by simp [Op.eqFields])
 refine (Z0R e0 (a:=a) (b:=a') rfl rfl (Z0R e1 (a:=b) (b:=b') rfl rfl (Z0R e2 (a:=c) (b:=c') rfl rfl (Z0R e3 (a:=e) (b:=e') rfl rfl hl)))).trans ?_
 exact congrArg (fun b=>Result.ok b w) (by rw [Bool.eq_iff_iff];simp)
theorem Z6R {x y:Operand} {t':TypeId} {a b c d:Int} {r:Bool} (ho:o.op = .binOp .neq 23 x y t') (hx:ρ x = .agg #[.int .i64 a,.int .i64 b]) (hy:ρ y = .agg #[.int .i64 c,.int .i64 d]) (hr:decide (a = c ∧ b = d) = !r) :
  (execOp ρ o).run Try.prog w = .ok (.value (.bool r)) w:=by
 unfold execOp
 simp only [ho,hx,hy,Sem.run_bind,run_eqGuard_agg w .neq 23 x y _ _ Try.eqGuardType23,Result.andThen_ok,run_neq_struct,Z7c 9998,hr,Sem.run_pure,Bool.not_not]
theorem ZaJ {x y:Operand} {t':TypeId} {a b c e a' b' c' e':Int} {r:Bool} (ho:o.op = .binOp .neq 66 x y t') (hx:ρ x = .agg #[.int .i64 a,.int .i64 b,.int .i64 c,.int .i64 e]) (hy:ρ y = .agg #[.int .i64 a',.int .i64 b',.int .i64 c',.int .i64 e']) (hr:decide ((a,b,c,e) = (a',b',c',e')) = !r) :
  (execOp ρ o).run Try.prog w = .ok (.value (.bool r)) w:=by
 unfold execOp
 simp only [ho,hx,hy,Sem.run_bind,run_eqGuard_agg w .neq 66 x y _ _ Try.eqGuardType66,Result.andThen_ok,run_neq_struct,Z9P 9998,hr,Sem.run_pure,Bool.not_not]
theorem ZaK {x y:Operand} {t':TypeId} {a b c e l h a' b' c' e' l' h':Int} {r:Bool} (ho:o.op = .binOp .neq 75 x y t') (hx:ρ x = .agg #[.int .i64 a,.int .i64 b,.int .i64 c,.int .i64 e,.int .i64 l,.int .i64 h]) (hy:ρ y = .agg #[.int .i64 a',.int .i64 b',.int .i64 c',.int .i64 e',.int .i64 l',.int .i64 h']) (hr:decide ((a,b,c,e,l,h) = (a',b',c',e',l',h')) = !r) :
  (execOp ρ o).run Try.prog w = .ok (.value (.bool r)) w:=by
 unfold execOp
 simp only [ho,hx,hy,Sem.run_bind,run_eqGuard_agg w .neq 75 x y _ _ Try.eqGuardType75,Result.andThen_ok,run_neq_struct,Z9O 9997,hr,Sem.run_pure,Bool.not_not]
end
end Go.Proofs.Ytholfdgebdlgjaa
