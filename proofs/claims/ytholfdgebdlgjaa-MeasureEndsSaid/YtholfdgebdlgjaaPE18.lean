/- Parts of a proof: Fix, Et, Ex. No conditions. -/
import Derived.Test.YtholfdgebdlgjaaPE2
import Derived.Test.YtholfdgebdlgjaaPE4
import Derived.Test.YtholfdgebdlgjaaPE6
import Derived.Test.YtholfdgebdlgjaaPE17
set_option linter.unusedVariables false
set_option linter.unusedSimpArgs false
namespace Go.Proofs.Ytholfdgebdlgjaa
open Go.RowKit
def Z39 (w:World) (vs:List Value) (ps:List (Int × Int)):Prop:=
 vs.length = ps.length ∧ ∀ (i:Nat) (p:Int × Int),ps[i]? = some p → ∃ g,vs[i]? = some (.slice (some ⟨g,0,none⟩) 2 2) ∧ w.heap[g]? = some (.cells #[.int .i64 p.1,.int .i64 p.2] 3 (0,0))
theorem Z3X {w w':World} {vs:List Value} {ps:List (Int × Int)} (h:Z39 w vs ps) (k:∀ (g:Nat) (cs:Array Value),w.heap[g]? = some (.cells cs 3 (0,0)) → w'.heap[g]? = some (.cells cs 3 (0,0))):Z39 w' vs ps:=
 ⟨h.1,fun i p hp=>by
  obtain ⟨g,h1,h2⟩:=h.2 i p hp
  exact ⟨g,h1,k g _ h2⟩⟩
theorem Z7F {w:World} {vs:List Value} {ps:List (Int × Int)} (h:Z39 w vs ps) {g:Nat} {p:Int × Int} (hg:w.heap[g]? = some (.cells #[.int .i64 p.1,.int .i64 p.2] 3 (0,0))):Z39 w (vs ++ [.slice (some ⟨g,0,none⟩) 2 2]) (ps ++ [p]):=by
 refine ⟨by simp [h.1],fun i q hq=>?_⟩
 by_cases hi:i < ps.length
 ·rw [List.getElem?_append_left hi] at hq
  obtain ⟨g',h1,h2⟩:=h.2 i q hq
  exact ⟨g',by rw [List.getElem?_append_left (by rw [h.1];exact hi)];exact h1,h2⟩
 ·have hil:i = ps.length:=by
   have:=(List.getElem?_eq_some_iff.1 hq).1
   simp at this
   omega
  subst hil
  simp at hq
  subst hq
  exact ⟨g,by rw [← h.1];simp,hg⟩
def Z1Q (m:Nat → Nat → Int) (s:Nat):Nat → List (Int × Int)
 | 0=>[]
 | a + 1=>if -(m (ZO s a) 0) = m 0 (ZO s a) then Z1Q m s a ++ [((s:Int),(a:Int))] else Z1Q m s a
def Z1Y (m:Nat → Nat → Int) (A:Nat):Nat → List (Int × Int)
 | 0=>[]
 | s + 1=>Z1Y m A s ++ Z1Q m s A
theorem Z3Q (m:Nat → Nat → Int) (s:Nat):∀ a,(Z1Q m s a).length ≤ a
 | 0=>by simp [Z1Q]
 | a + 1=>by
  have:=Z3Q m s a
  unfold Z1Q
  split <;> simp <;> omega
theorem Z3G (m:Nat → Nat → Int) (A:Nat):∀ s,(Z1Y m A s).length ≤ A * s
 | 0=>by simp [Z1Y]
 | s + 1=>by
  have h1:=Z3G m A s
  have h2:=Z3Q m s A
  simp only [Z1Y,List.length_append,Nat.mul_succ]
  omega
def fixE (t:Tp):Int:=Z0j t noX
def fixL (t:Tp):List (Int × Int):=if fixE t = 0 then Z1Y (bdV t 0) t.A.toNat t.S.toNat else []
def Z8k (w:World) (v:Value) (ps:List (Int × Int)):Prop:=∃ (base:Nat) (vs:List Value),w.ownsRow base 29 1 v ps.length vs ∧ Z39 w vs ps
set_option maxRecDepth 100000 in
set_option maxHeartbeats 4000000 in
theorem Z8L (t:Tp) (gv rv lv:Value) (w:World) (ht:IsTp w gv rv lv t) (hl1:t.gr.length ≤ 1000) (hl2:t.rd.length ≤ 1000) (hl3:t.lk.length ≤ 1000) :
  Calls Try.prog 61 #[tpV t gv rv lv] w fun e w'=>∃ v,e = .returned (.tuple #[v,.int .i64 (fixE t)]) ∧ Z8k w' v (fixL t) ∧ Ext [] w w':=by
 have hone:=Z3E ht
 have HK:Hid (∀ W:World,Ext [] w W → Calls Try.prog 90 #[tpV t gv rv lv,.slice none 0 0,.slice none 0 0,.slice none 0 0] W fun e w'=>e = .returned (.tuple #[.agg (Z2E t noX gv rv lv),.agg (ZD (Z1g t noX)),.int .i64 (fixE t)]) ∧ Ext [] W w'):=
  fun W e=>Z1R t gv rv lv noX (fun _=>none) (fun _=>0) W (ht.ext e (by simp)) hl1 hl2 hl3 (fun i hi=>Z0M _ _ _) (fun i hi=>by simp [noX])
 clear ht
 have E:Ext [] w w:=Ext.refl _ _
 by_cases h:fixE t = 0
 ·obtain ⟨h1,h2⟩:=Z2q h
  obtain ⟨ok,h8⟩:=Z0x.1 (Z1B h1)
  have k1:=ok.S3
  have k2:=ok.A3
  have k3:=ok.S1
  have k4:=ok.A1
  have HBg:=Lib.hid (fun p q hp hq=>Z47 ok 0 (p:=p) (q:=q) hp hq)
  rw [Z2V h1,show Z1g t noX = bdV t 0 from if_pos h1,h] at HK
  rw [show fixL t = Z1Y (bdV t 0) t.A.toNat t.S.toNat from if_pos h,h]
  clear h h1 h2 ok h8
  obtain ⟨m,hm⟩:∃ m,m = bdV t 0:=⟨_,rfl⟩
  rw [← hm] at HK HBg ⊢
  clear hm
  unfold tpV at HK ⊢
  go_enter Try.func61,Try.ntmps61
  go_upto_region 0 with (fail)
  refine wp_region_lit ?_
  refine Zy rfl rfl (Z0z (v:=.agg _) rfl rfl) (by simp only [ls,lz];exact rfl) fun w1 hw=>?_
  obtain ⟨n1,hn⟩:∃ n,n = w.heap.size:=⟨_,rfl⟩
  rw [← hn]
  have l1:w.heap.size ≤ n1:=by rw [hn];exact E.size
  have q1:=Zr hw hn
  replace E:=Z2 E hw
  clear hw hn
  refine Z3 rfl rfl (Z8 (v:=.slice _ _ _) rfl rfl) (by simp only [ls,lz];exact rfl) ?_
  refine Z3 rfl rfl (Z8 (v:=.int .i64 _) rfl rfl) (by simp only [ls,lz];exact rfl) ?_
  refine wpList_nil ?_
  go_upto_region 1 with (fail)
  refine wp_region_lit ?_
  refine Z3 rfl rfl (Zt rfl rfl Try.underlying28 rfl (by kernel_rfl) q1) (by simp only [ls,lz];exact rfl) ?_
  refine ZC rfl rfl (by kernel_rfl) (HK.out _ E) fun e w2 hR=>?_
  obtain ⟨rfl,e1⟩:=hR
  refine ⟨_,_,rfl,(by simp only [ls,lz];exact rfl),?_⟩
  replace q1:=(e1).keep0 q1
  replace E:=Z4 E (e1)
  refine Z3 rfl rfl (Zi (v:=.tuple _) rfl rfl) (by simp only [ls,lz];exact rfl) ?_
  refine Z3 rfl rfl (Zm rfl rfl (get0)) (by simp only [ls,lz];exact rfl) ?_
  refine Z3 rfl rfl (Zm rfl rfl (getS (get0))) (by simp only [ls,lz];exact rfl) ?_
  refine Z3 rfl rfl (Zm rfl rfl (getS (getS (get0)))) (by simp only [ls,lz];exact rfl) ?_
  refine Zy rfl rfl (ZB rfl Try.zeroValue100) (by simp only [ls,lz];exact rfl) fun w3 hw=>?_
  obtain ⟨n4,hn⟩:∃ n,n = w2.heap.size:=⟨_,rfl⟩
  rw [← hn]
  have l4:w.heap.size ≤ n4:=by rw [hn];exact E.size
  have m4_1:n1 < n4:=by rw [hn];exact Z7 q1
  replace q1:=Z1 hw q1
  have q4:=Zr hw hn
  replace E:=Z2 E hw
  clear hw hn
  refine Zy rfl rfl (ZB rfl Try.zeroValue105) (by simp only [ls,lz];exact rfl) fun w4 hw=>?_
  obtain ⟨n5,hn⟩:∃ n,n = w3.heap.size:=⟨_,rfl⟩
  rw [← hn]
  have l5:w.heap.size ≤ n5:=by rw [hn];exact E.size
  have m5_1:n1 < n5:=by rw [hn];exact Z7 q1
  have m5_4:n4 < n5:=by rw [hn];exact Z7 q4
  replace q1:=Z1 hw q1
  replace q4:=Z1 hw q4
  have q5:=Zr hw hn
  replace E:=Z2 E hw
  clear hw hn
  refine ZY rfl rfl (Zg rfl rfl rfl (by kernel_rfl) (Z0S hone) q4 rfl) fun w5 hw=>?_
  replace q1:=Z5 hw q1 (by omega)
  replace q4:=Zz hw q4 rfl
  replace q5:=Z5 hw q5 (by omega)
  replace E:=Za E hw (fun h=>by first | exact absurd h (by omega) | simp)
  clear hw
  refine ZY rfl rfl (Zg rfl rfl rfl (by rw [Zj];kernel_rfl) (by rw [← ZI];exact all_oneCell_toArray (Z05 _)) q5 (by show Try.zeroCells105.size = _;rw [Try.zeroCells105_size,Zj])) fun w6 hw=>?_
  replace q1:=Z5 hw q1 (by omega)
  replace q4:=Z5 hw q4 (by omega)
  replace q5:=Zz hw q5 (by show Try.zeroCells105.size = _;rw [Try.zeroCells105_size,Zj])
  replace E:=Za E hw (fun h=>by first | exact absurd h (by omega) | simp)
  clear hw
  refine Z3 rfl rfl (Z8 (v:=.int .i64 _) rfl rfl) (by simp only [ls,lz];exact rfl) ?_
  refine wpList_nil ?_
  clear e1
  have c4:=(Z0 q4 0).trans get0
  go_wp2_with fail
  clear c4
  go_loopw [23,7] (fun iv v wr=>∃ (s:Nat) (vs:List Value),(s:Int) ≤ t.S ∧ iv = .int .i64 s ∧ wr.heap[n4]? = some (.cells (Z26 t gv rv lv) 100 (0,0)) ∧ wr.heap[n5]? = some (.cells (ZD m) 105 (0,0)) ∧
   wr.ownsRow (n5 + 1) 29 1 v (Z1Y m t.A.toNat s).length vs ∧ Z39 wr vs (Z1Y m t.A.toNat s) ∧ Ext [] w wr ∧ n5 < wr.heap.size) (fun iv _ _=>t.S.toNat - (intOf iv).toNat)
  case atStart=>exact ⟨0,[],by omega,rfl,q4,q5,World.ownsRow_nil _ _ _ _,⟨rfl,fun i p hp=>by simp [Z1Y] at hp⟩,E,Z7 q5⟩
  case round =>
   clear q1 q4 q5 E
   obtain ⟨s,vs,hs,rfl,q4,q5,ho,hp,E,hsz⟩:=hrel
   obtain ⟨va,vc,rfl⟩:=Zs ho
   by_cases hlts:(s:Int) < t.S
   ·have c4:=(Z0 q4 1).trans (getS get0)
    go_wp2_with fail
    clear c4
    obtain ⟨ws,hws⟩:∃ ws:World,ws = wr:=⟨_,rfl⟩
    clear hws
    go_loopw [29,7] (fun iv v wr=>∃ (a:Nat) (vs:List Value),(a:Int) ≤ t.A ∧ iv = .int .i64 a ∧ wr.heap[n4]? = some (.cells (Z26 t gv rv lv) 100 (0,0)) ∧ wr.heap[n5]? = some (.cells (ZD m) 105 (0,0)) ∧
     wr.ownsRow (n5 + 1) 29 1 v (Z1Y m t.A.toNat s ++ Z1Q m s a).length vs ∧ Z39 wr vs (Z1Y m t.A.toNat s ++ Z1Q m s a) ∧ Ext [] w wr ∧ n5 < wr.heap.size) (fun iv _ _=>t.A.toNat - (intOf iv).toNat)
    case atStart=>exact ⟨0,vs,by omega,rfl,q4,q5,by simpa [Z1Q] using ho,by simpa [Z1Q] using hp,E,hsz⟩
    case round =>
     clear q4 q5 E ho hp hsz
     obtain ⟨a,vs,ha,rfl,q4,q5,ho,hp,E,hsz⟩:=hrel
     obtain ⟨va,vc,rfl⟩:=Zs ho
     by_cases hlta:(a:Int) < t.A
     ·have hc:ZO s a < 13:=by unfold ZO;omega
      have hap:=fun W=>Z4q m 0 (ZO s a) (by omega) hc (HBg.out _ _ hc (by omega)) W
      have Er:Ext [] wr wr:=Ext.refl _ _
      go_upto_region 11 with (fail)
      refine Z16 (Ext [] wr) 6 follows fun w1 hh eS=>?_
      have q4_:=q4
      have q5_:=q5
      replace q4:=Zn hh q4
      replace q5:=Zn hh q5
      replace E:=Z4 E eS
      replace Er:=Z4 Er eS
      refine Zk (i:=0) (last:=6) rfl rfl (by decide) (by kernel_rfl) (by kernel_rfl) (by kernel_rfl) (by kernel_rfl) (by kernel_rfl) (fun _ _ _ h=>h) rfl rfl (fun w' hS=>Zt rfl rfl Try.underlying105 rfl (by rw [Zj];kernel_rfl) (hS.keep q5_ (by simp))) eS (by simp only [ls,lz];exact rfl) ?_
      refine Zk (i:=1) (last:=6) rfl rfl (by decide) (by kernel_rfl) (by kernel_rfl) (by kernel_rfl) (by kernel_rfl) (by kernel_rfl) (fun _ _ _ h=>h) rfl rfl (fun w' hS=>Zi (v:=.int .i64 _) rfl rfl) eS (by simp only [ls,lz];exact rfl) ?_
      refine Zk (i:=2) (last:=6) rfl rfl (by decide) (by kernel_rfl) (by kernel_rfl) (by kernel_rfl) (by kernel_rfl) (by kernel_rfl) (fun _ _ _ h=>h) rfl rfl (fun w' hS=>Zi (v:=.int .i64 _) rfl rfl) eS (by simp only [ls,lz];exact rfl) ?_
      refine Z0X (i:=3) (j:=5) (by kernel_rfl) ?_ ?_
      refine Z1A rfl rfl rfl (by kernel_rfl) (Z7q s a (by omega) (by omega) _) fun e w' hR=>?_
      obtain ⟨rfl,rfl⟩:=hR
      refine ⟨_,_,rfl,(by simp only [ls,lz];exact rfl),fun _=>eS,?_⟩
      refine Z0X (i:=4) (j:=5) (by kernel_rfl) ?_ ?_
      refine Z1A rfl rfl rfl (by kernel_rfl) (hap _) fun e w3 hR=>?_
      obtain ⟨rfl,e1⟩:=hR
      replace eS:=eS.nil (e1)
      replace q4:=(e1).keep0 q4
      replace q5:=(e1).keep0 q5
      replace Er:=Z4 Er (e1)
      replace E:=Z4 E (e1)
      refine ⟨_,_,rfl,(by simp only [ls,lz];exact rfl),fun _=>eS,?_⟩
      refine Z1z (i:=5) rfl (by kernel_rfl) rfl rfl (ZB rfl Try.zeroValue23) (by simp only [ls,lz];exact rfl) fun w4 hw=>?_
      replace eS:=Z2 eS hw
      obtain ⟨n10,hn⟩:∃ n,n = w3.heap.size:=⟨_,rfl⟩
      rw [← hn]
      have l10:w.heap.size ≤ n10:=by rw [hn];exact E.size
      have l10_Er:wr.heap.size ≤ n10:=by rw [hn];exact Er.size
      have m10_4:n4 < n10:=by rw [hn];exact Z7 q4
      have m10_5:n5 < n10:=by rw [hn];exact Z7 q5
      replace q4:=Z1 hw q4
      replace q5:=Z1 hw q5
      replace Er:=Z2 Er hw
      have q10:=Zr hw hn
      replace E:=Z2 E hw
      clear hw hn
      refine ⟨fun _=>eS,?_⟩
      refine Z0o (o:=_) rfl (by kernel_rfl) rfl rfl (Zg rfl rfl rfl (by kernel_rfl) (by simp [Value.oneCell']) q10 rfl) (by kernel_rfl) fun w5 hw=>?_
      replace q4:=Z5 hw q4 (by omega)
      replace q5:=Z5 hw q5 (by omega)
      replace q10:=Zz hw q10 rfl
      replace Er:=Za Er hw (fun h=>by first | exact absurd h (by omega) | simp)
      replace E:=Za E hw (fun h=>by first | exact absurd h (by omega) | simp)
      clear hw
      refine Z0p (by kernel_rfl) ?_ _
      clear q4_ q5_ hh eS
      rotate_left
      refine Z1l rfl rfl rfl (ZB rfl Try.zeroValue23) (by simp only [ls,lz];exact rfl) fun w3 hw=>?_
      replace eS:=Z2 eS hw
      obtain ⟨n10,hn⟩:∃ n,n = w1.heap.size:=⟨_,rfl⟩
      rw [← hn]
      have l10:w.heap.size ≤ n10:=by rw [hn];exact E.size
      have l10_Er:wr.heap.size ≤ n10:=by rw [hn];exact Er.size
      have m10_4:n4 < n10:=by rw [hn];exact Z7 q4
      have m10_5:n5 < n10:=by rw [hn];exact Z7 q5
      replace q4:=Z1 hw q4
      replace q5:=Z1 hw q5
      replace Er:=Z2 Er hw
      have q10:=Zr hw hn
      replace E:=Z2 E hw
      clear hw hn
      refine ⟨fun _=>eS,?_⟩
      refine Z0e (i:=4) rfl (by kernel_rfl) rfl rfl (by kernel_rfl) (hap _) fun e w4 hR=>?_
      obtain ⟨rfl,e1⟩:=hR
      replace eS:=eS.nil (e1)
      replace q4:=(e1).keep0 q4
      replace q5:=(e1).keep0 q5
      replace q10:=(e1).keep0 q10
      replace Er:=Z4 Er (e1)
      replace E:=Z4 E (e1)
      refine ⟨_,_,rfl,(by simp only [ls,lz];exact rfl),eS,?_⟩
      refine Z0o (o:=_) rfl (by kernel_rfl) rfl rfl (Zg rfl rfl rfl (by kernel_rfl) (by simp [Value.oneCell']) q10 rfl) (by kernel_rfl) fun w5 hw=>?_
      replace q4:=Z5 hw q4 (by omega)
      replace q5:=Z5 hw q5 (by omega)
      replace q10:=Zz hw q10 rfl
      replace Er:=Za Er hw (fun h=>by first | exact absurd h (by omega) | simp)
      replace E:=Za E hw (fun h=>by first | exact absurd h (by omega) | simp)
      clear hw
      refine Z0p (by kernel_rfl) ?_ _
      clear q4_ q5_ hh eS
      rotate_left
      refine Z1l rfl rfl rfl (ZB rfl Try.zeroValue23) (by simp only [ls,lz];exact rfl) fun w2 hw=>?_
      replace eS:=Z2 eS hw
      obtain ⟨n10,hn⟩:∃ n,n = w1.heap.size:=⟨_,rfl⟩
      rw [← hn]
      have l10:w.heap.size ≤ n10:=by rw [hn];exact E.size
      have l10_Er:wr.heap.size ≤ n10:=by rw [hn];exact Er.size
      have m10_4:n4 < n10:=by rw [hn];exact Z7 q4
      have m10_5:n5 < n10:=by rw [hn];exact Z7 q5
      replace q4:=Z1 hw q4
      replace q5:=Z1 hw q5
      replace Er:=Z2 Er hw
      have q10:=Zr hw hn
      replace E:=Z2 E hw
      clear hw hn
      refine ⟨fun _=>eS,?_⟩
      refine Z0e (i:=3) rfl (by kernel_rfl) rfl rfl (by kernel_rfl) (Z7q s a (by omega) (by omega) _) fun e w' hR=>?_
      obtain ⟨rfl,rfl⟩:=hR
      refine ⟨_,_,rfl,(by simp only [ls,lz];exact rfl),eS,?_⟩
      refine Z0e (i:=4) rfl (by kernel_rfl) rfl rfl (by kernel_rfl) (hap _) fun e w4 hR=>?_
      obtain ⟨rfl,e1⟩:=hR
      replace eS:=eS.nil (e1)
      replace q4:=(e1).keep0 q4
      replace q5:=(e1).keep0 q5
      replace q10:=(e1).keep0 q10
      replace Er:=Z4 Er (e1)
      replace E:=Z4 E (e1)
      refine ⟨_,_,rfl,(by simp only [ls,lz];exact rfl),eS,?_⟩
      refine Z0o (o:=_) rfl (by kernel_rfl) rfl rfl (Zg rfl rfl rfl (by kernel_rfl) (by simp [Value.oneCell']) q10 rfl) (by kernel_rfl) fun w5 hw=>?_
      replace q4:=Z5 hw q4 (by omega)
      replace q5:=Z5 hw q5 (by omega)
      replace q10:=Zz hw q10 rfl
      replace Er:=Za Er hw (fun h=>by first | exact absurd h (by omega) | simp)
      replace E:=Za E hw (fun h=>by first | exact absurd h (by omega) | simp)
      clear hw
      refine Z0p (by kernel_rfl) ?_ _
      clear q4_ q5_ hh eS
      all_goals
       clear e1
       go_upto_region 12 with (fail)
       refine wp_region_lit ?_
       refine Z3 rfl rfl (Z9 rfl rfl Try.underlying23 rfl (n:=0) (sz:=1) rfl (by kernel_rfl) (by decide)) (by simp only [ls,lz];exact rfl) ?_
       refine Z3 rfl rfl (Zh rfl rfl Try.underlying3 rfl ((Z0 q10 0).trans (get0))) (by simp only [ls,lz];exact rfl) ?_
       refine Z3 rfl rfl (Z9 rfl rfl Try.underlying23 rfl (n:=1) (sz:=1) rfl (by kernel_rfl) (by decide)) (by simp only [ls,lz];exact rfl) ?_
       refine Z3 rfl rfl (Zh rfl rfl Try.underlying3 rfl ((Z0 q10 1).trans (getS (get0)))) (by simp only [ls,lz];exact rfl) ?_
       refine Z3 rfl rfl (Zar rfl rfl rfl) (by simp only [ls,lz];exact rfl) ?_
       refine wpList_nil ?_
       have ho2:=Zq ho Er (by simp)
       have hp2:Z39 _ vs (Z1Y m t.A.toNat s ++ Z1Q m s a):=Z3X hp fun g cs hg=>Er.keep0 hg
       have hlen:=Z3G m t.A.toNat s
       have hlen2:=Z3Q m s a
       have hmul:t.A.toNat * s ≤ 9:=Nat.le_trans (Nat.mul_le_mul (show t.A.toNat ≤ 3 by omega) (show s ≤ 3 by omega)) (by decide)
       have hll:(Z1Y m t.A.toNat s ++ Z1Q m s a).length ≤ 100:=by rw [List.length_append];omega
       obtain ⟨lo,hlo⟩:∃ lo,lo = -(m (ZO s a) 0):=⟨_,rfl⟩
       obtain ⟨hi,hhi⟩:∃ hi,hi = m 0 (ZO s a):=⟨_,rfl⟩
       rw [← hlo,← hhi]
       by_cases heq:lo = hi
       ·have H1:Hid (Z1Y m t.A.toNat s ++ Z1Q m s (a + 1) = Z1Y m t.A.toNat s ++ Z1Q m s a ++ [((s:Int),(a:Int))]):=by
         show _ = _
         rw [Z1Q,if_pos (by rw [← hlo,← hhi];exact heq),List.append_assoc]
        subst heq
        clear hap hlo hhi
        generalize Z1Y m t.A.toNat s ++ Z1Q m s a = ps at ho2 hp2 hp H1 hll ⊢
        go_upto_region 13 with (fail)
        refine wp_region_lit ?_
        refine Z3 rfl rfl (Zi (v:=.slice _ _ _) rfl rfl) (by simp only [ls,lz];exact rfl) ?_
        refine Z3 rfl rfl (Zi (v:=.int .i64 _) rfl rfl) (by simp only [ls,lz];exact rfl) ?_
        refine Z3 rfl rfl (Zi (v:=.int .i64 _) rfl rfl) (by simp only [ls,lz];exact rfl) ?_
        refine Zy rfl rfl (ZE rfl Try.underlying29 (size:=1) (by kernel_rfl) (by decide) (by decide) Try.zeroValue3 (cells:=#[.int .i64 s,.int .i64 a]) (by kernel_rfl)) (by simp only [ls,lz];exact rfl) fun w6 hw=>?_
        obtain ⟨n45,hn⟩:∃ n,n = w5.heap.size:=⟨_,rfl⟩
        rw [← hn]
        have l45:w.heap.size ≤ n45:=by rw [hn];exact E.size
        have l45_Er:wr.heap.size ≤ n45:=by rw [hn];exact Er.size
        have m45_4:n4 < n45:=by rw [hn];exact Z7 q4
        have m45_5:n5 < n45:=by rw [hn];exact Z7 q5
        have m45_10:n10 < n45:=by rw [hn];exact Z7 q10
        replace q4:=Z1 hw q4
        replace q5:=Z1 hw q5
        replace q10:=Z1 hw q10
        replace Er:=Z2 Er hw
        replace ho2:=Zc hw ho2
        have q45:=Zw hw hn
        replace E:=Z2 E hw
        clear hw hn
        refine Zy rfl rfl (ZE rfl Try.underlying50 (size:=1) (by kernel_rfl) (by decide) (by decide) Try.zeroValue29 (cells:=#[.slice (some ⟨n45,0,none⟩) 2 2]) (by kernel_rfl)) (by simp only [ls,lz];exact rfl) fun w7 hw=>?_
        obtain ⟨n46,hn⟩:∃ n,n = w6.heap.size:=⟨_,rfl⟩
        rw [← hn]
        have l46:w.heap.size ≤ n46:=by rw [hn];exact E.size
        have l46_Er:wr.heap.size ≤ n46:=by rw [hn];exact Er.size
        have m46_4:n4 < n46:=by rw [hn];exact Z7 q4
        have m46_5:n5 < n46:=by rw [hn];exact Z7 q5
        have m46_10:n10 < n46:=by rw [hn];exact Z7 q10
        have m46_45:n45 < n46:=by rw [hn];exact Z7 q45
        replace q4:=Z1 hw q4
        replace q5:=Z1 hw q5
        replace q10:=Z1 hw q10
        replace q45:=Z1 hw q45
        replace Er:=Z2 Er hw
        replace ho2:=Zc hw ho2
        have q46:=Zw hw hn
        replace E:=Z2 E hw
        clear hw hn
        replace hp2:=Z3X hp fun g cs hg=>Er.keep0 hg
        have hsz2:=Er.size
        refine Z1G rfl rfl rfl (n5 + 1) (e:=29) (size:=1) (bytes:=24) Try.underlying50 (by kernel_rfl) (by decide) rfl ho2 rfl q46 rfl (by simp [Value.oneCell']) (by omega) (by omega) (by have:=E.size;omega) fun v' w8 hown' hg=>?_
        obtain ⟨va47,vc47,rfl⟩:=Zs hown'
        refine ⟨_,(by simp only [ls,lz];exact rfl),?_⟩
        replace q4:=Z4E ho2 hg q4 (by omega)
        replace q5:=Z4E ho2 hg q5 (by omega)
        replace hp2:=Z3X hp2 fun g cs h=>(hg.block g (Z7 h) (Z6 ho2 h (by decide))).trans h
        have q45b:=(hg.block n45 (Z7 q45) (Z6 ho2 q45 (by decide))).trans q45
        have hsz4:=Nat.lt_of_lt_of_le (Nat.lt_of_lt_of_le hsz hsz2) hg.size
        replace E:=Z42 E ho2 hg (by omega)
        replace ho2:=hown'
        clear hg
        refine Z3 rfl rfl (Z8 (v:=.slice _ _ _) rfl rfl) (by simp only [ls,lz];exact rfl) ?_
        refine wpList_nil ?_
        have hp3:=Z7F hp2 (p:=((s:Int),(a:Int))) q45b
        go_wp2
        go_roundw
        case rel=>exact ⟨a + 1,_,by omega,by go_num,q4,q5,by rw [H1.out,List.length_append];exact ho2,by rw [H1.out];exact hp3,E,hsz4⟩
        case measure=>simp [intOf];omega
       ·have H1:Hid (Z1Y m t.A.toNat s ++ Z1Q m s (a + 1) = Z1Y m t.A.toNat s ++ Z1Q m s a):=by
         show _ = _
         rw [Z1Q,if_neg (by rw [← hlo,← hhi];exact heq)]
        have hsz3:=Nat.lt_of_lt_of_le hsz Er.size
        have hb:(lo == hi) = false:=by simpa using heq
        clear hap hlo hhi
        go_wp2
        go_roundw
        case rel=>exact ⟨a + 1,_,by omega,by go_num,q4,q5,by rw [H1.out];exact ho2,by rw [H1.out];exact hp2,E,hsz3⟩
        case measure=>simp [intOf];omega
     ·have hA:t.A.toNat = a:=by omega
      have H1:Hid (Z1Y m t.A.toNat s ++ Z1Q m s a = Z1Y m t.A.toNat (s + 1)):=by show _ = _;rw [Z1Y,hA]
      go_wp2
      go_roundw
      case rel=>exact ⟨s + 1,_,by omega,by go_num,q4,q5,by rw [← H1.out];exact ho,by rw [← H1.out];exact hp,E,hsz⟩
      case measure=>simp [intOf];omega
   ·have hS:t.S.toNat = s:=by omega
    go_wp2
    go_ret2
    exact ⟨_,rfl,⟨_,_,ho,hp⟩,E⟩
 ·rw [show fixL t = [] from if_neg h]
  have hVs:=Z2G t noX gv rv lv
  have hVo:=Z32 (t:=t) (xs:=noX) hone
  generalize Z2E t noX gv rv lv = X at HK hVs hVo
  generalize Z1g t noX = m at HK
  obtain ⟨ce,hce⟩:∃ ce,ce = fixE t:=⟨_,rfl⟩
  rw [← hce] at h HK ⊢
  clear hce
  have hb:(ce != 0) = true:=by simpa using h
  unfold tpV at HK ⊢
  go_enter Try.func61,Try.ntmps61
  go_upto_region 0 with (fail)
  refine wp_region_lit ?_
  refine Zy rfl rfl (Z0z (v:=.agg _) rfl rfl) (by simp only [ls,lz];exact rfl) fun w1 hw=>?_
  obtain ⟨n1,hn⟩:∃ n,n = w.heap.size:=⟨_,rfl⟩
  rw [← hn]
  have l1:w.heap.size ≤ n1:=by rw [hn];exact E.size
  have q1:=Zr hw hn
  replace E:=Z2 E hw
  clear hw hn
  refine Z3 rfl rfl (Z8 (v:=.slice _ _ _) rfl rfl) (by simp only [ls,lz];exact rfl) ?_
  refine Z3 rfl rfl (Z8 (v:=.int .i64 _) rfl rfl) (by simp only [ls,lz];exact rfl) ?_
  refine wpList_nil ?_
  go_upto_region 1 with (fail)
  refine wp_region_lit ?_
  refine Z3 rfl rfl (Zt rfl rfl Try.underlying28 rfl (by kernel_rfl) q1) (by simp only [ls,lz];exact rfl) ?_
  refine ZC rfl rfl (by kernel_rfl) (HK.out _ E) fun e w2 hR=>?_
  obtain ⟨rfl,e1⟩:=hR
  refine ⟨_,_,rfl,(by simp only [ls,lz];exact rfl),?_⟩
  replace q1:=(e1).keep0 q1
  replace E:=Z4 E (e1)
  refine Z3 rfl rfl (Zi (v:=.tuple _) rfl rfl) (by simp only [ls,lz];exact rfl) ?_
  refine Z3 rfl rfl (Zm rfl rfl (get0)) (by simp only [ls,lz];exact rfl) ?_
  refine Z3 rfl rfl (Zm rfl rfl (getS (get0))) (by simp only [ls,lz];exact rfl) ?_
  refine Z3 rfl rfl (Zm rfl rfl (getS (getS (get0)))) (by simp only [ls,lz];exact rfl) ?_
  refine Zy rfl rfl (ZB rfl Try.zeroValue100) (by simp only [ls,lz];exact rfl) fun w3 hw=>?_
  obtain ⟨n4,hn⟩:∃ n,n = w2.heap.size:=⟨_,rfl⟩
  rw [← hn]
  have l4:w.heap.size ≤ n4:=by rw [hn];exact E.size
  have m4_1:n1 < n4:=by rw [hn];exact Z7 q1
  replace q1:=Z1 hw q1
  have q4:=Zr hw hn
  replace E:=Z2 E hw
  clear hw hn
  refine Zy rfl rfl (ZB rfl Try.zeroValue105) (by simp only [ls,lz];exact rfl) fun w4 hw=>?_
  obtain ⟨n5,hn⟩:∃ n,n = w3.heap.size:=⟨_,rfl⟩
  rw [← hn]
  have l5:w.heap.size ≤ n5:=by rw [hn];exact E.size
  have m5_1:n1 < n5:=by rw [hn];exact Z7 q1
  have m5_4:n4 < n5:=by rw [hn];exact Z7 q4
  replace q1:=Z1 hw q1
  replace q4:=Z1 hw q4
  have q5:=Zr hw hn
  replace E:=Z2 E hw
  clear hw hn
  refine ZY rfl rfl (Zg rfl rfl rfl (by rw [hVs];kernel_rfl) hVo q4 (by rw [hVs];rfl)) fun w5 hw=>?_
  replace q1:=Z5 hw q1 (by omega)
  replace q4:=Zz hw q4 (by rw [hVs];rfl)
  replace q5:=Z5 hw q5 (by omega)
  replace E:=Za E hw (fun h=>by first | exact absurd h (by omega) | simp)
  clear hw
  refine ZY rfl rfl (Zg rfl rfl rfl (by rw [Zj];kernel_rfl) (by rw [← ZI];exact all_oneCell_toArray (Z05 _)) q5 (by show Try.zeroCells105.size = _;rw [Try.zeroCells105_size,Zj])) fun w6 hw=>?_
  replace q1:=Z5 hw q1 (by omega)
  replace q4:=Z5 hw q4 (by omega)
  replace q5:=Zz hw q5 (by show Try.zeroCells105.size = _;rw [Try.zeroCells105_size,Zj])
  replace E:=Za E hw (fun h=>by first | exact absurd h (by omega) | simp)
  clear hw
  refine Z3 rfl rfl (Z8 (v:=.int .i64 _) rfl rfl) (by simp only [ls,lz];exact rfl) ?_
  refine wpList_nil ?_
  clear e1
  go_wp2
  go_ret2
  exact ⟨_,rfl,⟨0,[],World.ownsRow_nil _ _ _ _,⟨rfl,fun i p hp=>by simp at hp⟩⟩,E⟩
theorem Z9E {t:Tp} (hc:Z08 t ≠ 0) (fe fo:FuncId) (ga ra la:Option Addr) (gc rc lc:Nat) (w:World) (ht:IsTp w (.slice ga t.gr.length gc) (.slice ra t.rd.length rc) (.slice la t.lk.length lc) t) (l1:t.gr.length ≤ 1000) (l2:t.rd.length ≤ 1000) (l3:t.lk.length ≤ 1000) :
  Calls Try.prog 117 #[tpV t (.slice ga t.gr.length gc) (.slice ra t.rd.length rc) (.slice la t.lk.length lc),.func (.func fe) #[] #[],.func (.func fo) #[] #[]] w fun e w'=>e = .returned (.tuple #[.slice none 0 0,.slice none 0 0,.int .i64 (Z0j t noX)]) ∧ Ext [] w w':=by
 have E:Ext [] w w:=Ext.refl _ _
 have HT:=Lib.hid ht
 clear ht
 have h1:Z1o t noX ≠ 0:=by rw [Z2v];exact hc
 have h2:Z0j t noX ≠ 0:=by rw [Z0G,begE,if_pos hc];exact hc
 have HK:=Lib.hid (fun W (h:Ext [] w W)=>Z1R t (.slice ga t.gr.length gc) (.slice ra t.rd.length rc) (.slice la t.lk.length lc) noX (fun _=>none) (fun _=>0) W (HT.out.ext h (by simp)) l1 l2 l3 (fun i hi=>Z0M _ _ _) (fun i hi=>by simp [noX]))
 rw [Z3e h1,Z30] at HK
 unfold tpV at HK ⊢
 refine Z01 72 Try.func117 rfl Try.ntmps117 (Nat.le_of_ble_eq_true rfl) ?_
 intro fa F
 refine wp_seq_k fun K1 hK1=>?_
 refine wp_region_lit ?_
 refine Z00 F rfl (by decide) rfl (Z0z rfl (F.at rfl)) ?_;clear F fa;intro fa w1 F hw
 obtain ⟨n3,hn⟩:∃ n,n = w.heap.size:=⟨_,rfl⟩
 rw [← hn] at F
 have s3:w.heap.size ≤ n3:=Nat.le_of_eq hn.symm
 have l3_E:w.heap.size ≤ n3:=by rw [hn];exact E.size
 replace E:=Z2 E hw
 have q3:=Zr hw hn
 clear hw hn
 refine F.vl (Z8 rfl (ev_c fa _)) ?_;clear F fa;intro fa F
 refine F.vl (Z8 rfl (ev_c fa _)) ?_;clear F fa;intro fa F
 refine F.vl (Z8 rfl (ev_c fa _)) ?_;clear F fa;intro fa F
 refine wpList_nil ?_
 refine hK1 _ _ ?_
 clear hK1
 refine wp_seq_k fun K2 hK2=>?_
 refine wp_region_lit ?_
 refine F.vl (Zt rfl (F.at rfl) Try.underlying28 rfl (by kernel_rfl) q3) ?_;clear F fa;intro fa F
 refine ZX F rfl (by decide) rfl (ZG rfl rfl Try.call90 (mpS (F.at rfl) (mpS (ev_c fa _) (mpS (ev_c fa _) (mpS (ev_c fa _) mp0))))) (HK.out _ E) fun e w2 hR=>?_
 obtain ⟨rfl,e9⟩:=hR
 refine ⟨_,rfl,?_⟩;clear F fa;intro fa F
 replace q3:=(e9).keep0 q3
 replace E:=Z4 E (e9)
 clear e9
 refine F.mv ?_;clear F fa;intro fa F
 refine F.vl (Zm rfl (F.at rfl) (get0)) ?_;clear F fa;intro fa F
 refine F.vl (Zm rfl (F.at rfl) (getS (get0))) ?_;clear F fa;intro fa F
 refine F.vl (Zm rfl (F.at rfl) (getS (getS (get0)))) ?_;clear F fa;intro fa F
 refine Z00 F rfl (by decide) rfl (ZB rfl Try.zeroValue100) ?_;clear F fa;intro fa w3 F hw
 obtain ⟨n9,hn⟩:∃ n,n = w2.heap.size:=⟨_,rfl⟩
 rw [← hn] at F
 have s9:w2.heap.size ≤ n9:=Nat.le_of_eq hn.symm
 have l9_E:w.heap.size ≤ n9:=by rw [hn];exact E.size
 have m9_3:n3 < n9:=by rw [hn];exact Z7 q3
 replace q3:=Z1 hw q3
 replace E:=Z2 E hw
 have q9:=Zr hw hn
 clear hw hn
 refine Z00 F rfl (by decide) rfl (ZB rfl Try.zeroValue105) ?_;clear F fa;intro fa w4 F hw
 obtain ⟨n10,hn⟩:∃ n,n = w3.heap.size:=⟨_,rfl⟩
 rw [← hn] at F
 have s10:w3.heap.size ≤ n10:=Nat.le_of_eq hn.symm
 have l10_E:w.heap.size ≤ n10:=by rw [hn];exact E.size
 have m10_3:n3 < n10:=by rw [hn];exact Z7 q3
 have m10_9:n9 < n10:=by rw [hn];exact Z7 q9
 replace q3:=Z1 hw q3
 replace q9:=Z1 hw q9
 replace E:=Z2 E hw
 have q10:=Zr hw hn
 clear hw hn
 refine Z1L rfl rfl (Zg rfl (F.at rfl) (F.at rfl) (by kernel_rfl) (by first | (simp [Value.oneCell'];done) | (simp [Value.oneCell',Z0K,Z0B,Z0L];done)) q9 rfl) ?_;intro w5 hw
 replace q3:=Z5 hw q3 (by omega)
 replace q9:=Zz hw q9 rfl
 replace q10:=Z5 hw q10 (by omega)
 replace E:=Za E hw (fun h=>by first | exact absurd h (by omega) | simp)
 clear hw
 refine Z1L rfl rfl (Zg rfl (F.at rfl) (F.at rfl) (by rw [Zj];kernel_rfl) (by rw [← ZI];exact all_oneCell_toArray (Z05 _)) q10 (by show Try.zeroCells105.size = _;rw [Try.zeroCells105_size,Zj])) ?_;intro w6 hw
 replace q3:=Z5 hw q3 (by omega)
 replace q9:=Z5 hw q9 (by omega)
 replace q10:=Zz hw q10 (by show Try.zeroCells105.size = _;rw [Try.zeroCells105_size,Zj])
 replace E:=Za E hw (fun h=>by first | exact absurd h (by omega) | simp)
 clear hw
 refine F.as ?_;clear F fa;intro fa F
 refine wpList_nil ?_
 refine hK2 _ _ ?_
 clear hK2
 refine wp_seq_k fun K3 hK3=>?_
 refine wp_seq_k fun K4 hK4=>?_
 refine wp_region_lit ?_
 refine F.mv ?_;clear F fa;intro fa F
 refine F.vl (Z2l (b:=true) rfl (F.at rfl) (ev_c fa _) (decide_eq_false ((by omega)))) ?_;clear F fa;intro fa F
 refine wpList_nil ?_
 refine hK4 _ _ ?_
 clear hK4
 refine cd_T F rfl ?_
 refine wp_seq_k fun K5 hK5=>?_
 refine wp_region_lit ?_
 refine F.mv ?_;clear F fa;intro fa F
 refine F.vl (Z8 rfl (ev_c fa _)) ?_;clear F fa;intro fa F
 refine F.vl (Z8 rfl (ev_c fa _)) ?_;clear F fa;intro fa F
 refine F.as ?_;clear F fa;intro fa F
 refine wpList_nil ?_
 refine hK5 _ _ ?_
 clear hK5
 refine wp_ret ?_
 (try simp only [Exit.inBlock,Exit.then])
 refine rt_v F (rs_3 F rfl rfl rfl rfl) ?_
 exact ⟨rfl,E⟩
theorem Z8E {t:Tp} (hc:Z08 t = 0):Z0j t noX = qe t:=by
 rw [Z0G,begE,if_neg (by rw [hc];simp)]
 unfold qe
 by_cases hb:bdB t 0 = true
 ·simp [hb]
 ·simp [hb]
theorem Z7g {t:Tp} (h:Z0j t noX ≠ 0) (fe fo:FuncId) (ga ra la:Option Addr) (gc rc lc:Nat) (w:World) (ht:IsTp w (.slice ga t.gr.length gc) (.slice ra t.rd.length rc) (.slice la t.lk.length lc) t) (l1:t.gr.length ≤ 1000) (l2:t.rd.length ≤ 1000) (l3:t.lk.length ≤ 1000) :
  Calls Try.prog 117 #[tpV t (.slice ga t.gr.length gc) (.slice ra t.rd.length rc) (.slice la t.lk.length lc),.func (.func fe) #[] #[],.func (.func fo) #[] #[]] w fun e w'=>e = .returned (.tuple #[.slice none 0 0,.slice none 0 0,.int .i64 (Z0j t noX)]) ∧ Ext [] w w':=by
 by_cases hc:Z08 t = 0
 ·obtain ⟨ok,h8⟩:=Z0x.1 hc
  have e:=Z8E hc
  have hb:bdB t 0 = false:=by
   cases hb:bdB t 0 with
   | false=>rfl
   | true=>rw [e,Z8O.2 hb] at h;exact absurd rfl h
  rw [e,qe,hb]
  exact Zb0 ok h8 hb fe fo ga ra la gc rc lc w ht
 ·exact Z9E hc fe fo ga ra la gc rc lc w ht l1 l2 l3
theorem Z9r {t:Tp} (h:Z0j t noX ≠ 0) {pe po:Int → Int → Int} {w w':World} {e:Ending} (he:e = .returned (.tuple #[.slice none 0 0,.slice none 0 0,.int .i64 (Z0j t noX)])) (E:Ext [] w w'):Z4e t pe po w e w':=
 ⟨[],[],none,none,0,0,by rw [he];rfl,by rw [endX,if_neg h];rfl,by rw [Z5h,if_neg h],(fun i hi=>absurd hi (Nat.not_lt_zero _)),(fun p hp=>by cases hp),Z0M _ _ _,E⟩
theorem Z8K {t:Tp} (h:Z0j t noX = 0) {pe po:Int → Int → Int} {w w':World} {e:Ending} (p:Z5D t pe po w e w'):Z4e t pe po w e w':=by
 obtain ⟨L,P,a,pa,c,pc,rfl,h1,h2,h3,h4,h5,eX⟩:=p
 exact ⟨L,P,a,pa,c,pc,by rw [h],by rw [endX,if_pos h];exact h1,by rw [Z5h,if_pos h];exact h2,h3,h4,h5,eX⟩
section
variable (t:Tp) (ga ra la:Option Addr) (gc rc lc:Nat) (w:World) (ht:IsTp w (.slice ga t.gr.length gc) (.slice ra t.rd.length rc) (.slice la t.lk.length lc) t) (l1:t.gr.length ≤ 1000) (l2:t.rd.length ≤ 1000) (l3:t.lk.length ≤ 1000)
include ht l1 l2 l3
theorem Z8M (h:Z0j t noX ≠ 0) :
  Calls Try.prog 65 #[tpV t (.slice ga t.gr.length gc) (.slice ra t.rd.length rc) (.slice la t.lk.length lc)] w fun e w'=>e = .returned (.tuple #[.slice none 0 0,.slice none 0 0,.int .i64 (Z0j t noX)]) ∧ Ext [] w w':=by
 have E:Ext [] w w:=Ext.refl _ _
 have HT:=Lib.hid ht
 clear ht
 have HK:=Lib.hid (fun W (k:Ext [] w W)=>Z7g h 118 119 ga ra la gc rc lc W (HT.out.ext k (by simp)) l1 l2 l3)
 unfold tpV at HK ⊢
 refine Z01 10 Try.func65 rfl Try.ntmps65 (Nat.le_of_ble_eq_true rfl) ?_
 intro fa F
 refine wp_seq_k fun K1 hK1=>?_
 refine wp_region_lit ?_
 refine Z00 F rfl (by decide) rfl (Z0z rfl (F.at rfl)) ?_;clear F fa;intro fa w1 F hw
 obtain ⟨n1,hn⟩:∃ n,n = w.heap.size:=⟨_,rfl⟩
 rw [← hn] at F
 have s1:w.heap.size ≤ n1:=Nat.le_of_eq hn.symm
 have l1_E:w.heap.size ≤ n1:=by rw [hn];exact E.size
 replace E:=Z2 E hw
 have q1:=Zr hw hn
 clear hw hn
 refine F.vl (Z8 rfl (ev_c fa _)) ?_;clear F fa;intro fa F
 refine F.vl (Z8 rfl (ev_c fa _)) ?_;clear F fa;intro fa F
 refine F.vl (Z8 rfl (ev_c fa _)) ?_;clear F fa;intro fa F
 refine wpList_nil ?_
 refine hK1 _ _ ?_
 clear hK1
 refine wp_seq_k fun K2 hK2=>?_
 refine wp_region_lit ?_
 refine F.vl (Zt rfl (F.at rfl) Try.underlying28 rfl (by kernel_rfl) q1) ?_;clear F fa;intro fa F
 refine ZX F rfl (by decide) rfl (ZG rfl rfl Try.call117 (mpS (F.at rfl) (mpS rfl (mpS rfl mp0)))) (HK.out _ E) fun e w2 hR=>?_
 obtain ⟨rfl,e9⟩:=hR
 refine ⟨_,rfl,?_⟩;clear F fa;intro fa F
 replace q1:=(e9).keep0 q1
 replace E:=Z4 E (e9)
 clear e9
 refine F.vl (Zm rfl (F.at rfl) (get0)) ?_;clear F fa;intro fa F
 refine F.vl (Zm rfl (F.at rfl) (getS (get0))) ?_;clear F fa;intro fa F
 refine F.vl (Zm rfl (F.at rfl) (getS (getS (get0)))) ?_;clear F fa;intro fa F
 refine F.as ?_;clear F fa;intro fa F
 refine F.as ?_;clear F fa;intro fa F
 refine F.as ?_;clear F fa;intro fa F
 refine wpList_nil ?_
 refine hK2 _ _ ?_
 clear hK2
 refine wp_ret ?_
 (try simp only [Exit.inBlock,Exit.then])
 refine rt_v F (rs_3 F rfl rfl rfl rfl) ?_
 exact ⟨rfl,E⟩
theorem Z93:Calls Try.prog 65 #[tpV t (.slice ga t.gr.length gc) (.slice ra t.rd.length rc) (.slice la t.lk.length lc)] w (Z4e t fstI sndI w):=by
 by_cases h:Z0j t noX = 0
 ·obtain ⟨hL,-⟩:=Z1Z ((Z0G t).symm.trans h)
  exact (Z7D hL ga ra la gc rc lc w ht).mono fun e w' p=>Z8K h p
 ·exact (Z8M t ga ra la gc rc lc w ht l1 l2 l3 h).mono fun e w' p=>Z9r h p.1 p.2
theorem Z9M (h:Z0j t noX ≠ 0) :
  Calls Try.prog 66 #[tpV t (.slice ga t.gr.length gc) (.slice ra t.rd.length rc) (.slice la t.lk.length lc)] w fun e w'=>e = .returned (.tuple #[.slice none 0 0,.slice none 0 0,.int .i64 (Z0j t noX)]) ∧ Ext [] w w':=by
 have E:Ext [] w w:=Ext.refl _ _
 have HT:=Lib.hid ht
 clear ht
 have HK:=Lib.hid (fun W (k:Ext [] w W)=>Z7g h 119 118 ga ra la gc rc lc W (HT.out.ext k (by simp)) l1 l2 l3)
 unfold tpV at HK ⊢
 refine Z01 10 Try.func66 rfl Try.ntmps66 (Nat.le_of_ble_eq_true rfl) ?_
 intro fa F
 refine wp_seq_k fun K1 hK1=>?_
 refine wp_region_lit ?_
 refine Z00 F rfl (by decide) rfl (Z0z rfl (F.at rfl)) ?_;clear F fa;intro fa w1 F hw
 obtain ⟨n1,hn⟩:∃ n,n = w.heap.size:=⟨_,rfl⟩
 rw [← hn] at F
 have s1:w.heap.size ≤ n1:=Nat.le_of_eq hn.symm
 have l1_E:w.heap.size ≤ n1:=by rw [hn];exact E.size
 replace E:=Z2 E hw
 have q1:=Zr hw hn
 clear hw hn
 refine F.vl (Z8 rfl (ev_c fa _)) ?_;clear F fa;intro fa F
 refine F.vl (Z8 rfl (ev_c fa _)) ?_;clear F fa;intro fa F
 refine F.vl (Z8 rfl (ev_c fa _)) ?_;clear F fa;intro fa F
 refine wpList_nil ?_
 refine hK1 _ _ ?_
 clear hK1
 refine wp_seq_k fun K2 hK2=>?_
 refine wp_region_lit ?_
 refine F.vl (Zt rfl (F.at rfl) Try.underlying28 rfl (by kernel_rfl) q1) ?_;clear F fa;intro fa F
 refine ZX F rfl (by decide) rfl (ZG rfl rfl Try.call117 (mpS (F.at rfl) (mpS rfl (mpS rfl mp0)))) (HK.out _ E) fun e w2 hR=>?_
 obtain ⟨rfl,e9⟩:=hR
 refine ⟨_,rfl,?_⟩;clear F fa;intro fa F
 replace q1:=(e9).keep0 q1
 replace E:=Z4 E (e9)
 clear e9
 refine F.vl (Zm rfl (F.at rfl) (get0)) ?_;clear F fa;intro fa F
 refine F.vl (Zm rfl (F.at rfl) (getS (get0))) ?_;clear F fa;intro fa F
 refine F.vl (Zm rfl (F.at rfl) (getS (getS (get0)))) ?_;clear F fa;intro fa F
 refine F.as ?_;clear F fa;intro fa F
 refine F.as ?_;clear F fa;intro fa F
 refine F.as ?_;clear F fa;intro fa F
 refine wpList_nil ?_
 refine hK2 _ _ ?_
 clear hK2
 refine wp_ret ?_
 (try simp only [Exit.inBlock,Exit.then])
 refine rt_v F (rs_3 F rfl rfl rfl rfl) ?_
 exact ⟨rfl,E⟩
theorem Z9N:Calls Try.prog 66 #[tpV t (.slice ga t.gr.length gc) (.slice ra t.rd.length rc) (.slice la t.lk.length lc)] w (Z4e t sndI fstI w):=by
 by_cases h:Z0j t noX = 0
 ·obtain ⟨hL,-⟩:=Z1Z ((Z0G t).symm.trans h)
  exact (Z9d hL ga ra la gc rc lc w ht).mono fun e w' p=>Z8K h p
 ·exact (Z9M t ga ra la gc rc lc w ht l1 l2 l3 h).mono fun e w' p=>Z9r h p.1 p.2
theorem Z68 {n:Nat} (hn:t.Ok → (n:Int) = 1 + t.S * t.A + t.T):Calls Try.prog 71 #[tpV t (.slice ga t.gr.length gc) (.slice ra t.rd.length rc) (.slice la t.lk.length lc)] w (Z4e t fstI sndI w):=by
 have E:Ext [] w w:=Ext.refl _ _
 have HT:=Lib.hid ht
 clear ht
 unfold tpV
 refine Z01 10 Try.func71 rfl Try.ntmps71 (Nat.le_of_ble_eq_true rfl) ?_
 intro fa F
 refine wp_seq_k fun K1 hK1=>?_
 refine wp_region_lit ?_
 refine Z00 F rfl (by decide) rfl (Z0z rfl (F.at rfl)) ?_;clear F fa;intro fa w1 F hw
 obtain ⟨n1,hn⟩:∃ n,n = w.heap.size:=⟨_,rfl⟩
 rw [← hn] at F
 have s1:w.heap.size ≤ n1:=Nat.le_of_eq hn.symm
 have l1_E:w.heap.size ≤ n1:=by rw [hn];exact E.size
 replace E:=Z2 E hw
 have q1:=Zr hw hn
 clear hw hn
 refine F.vl (Z8 rfl (ev_c fa _)) ?_;clear F fa;intro fa F
 refine F.vl (Z8 rfl (ev_c fa _)) ?_;clear F fa;intro fa F
 refine F.vl (Z8 rfl (ev_c fa _)) ?_;clear F fa;intro fa F
 refine wpList_nil ?_
 refine hK1 _ _ ?_
 clear hK1
 refine wp_seq_k fun K2 hK2=>?_
 refine wp_region_lit ?_
 refine F.vl (Zt rfl (F.at rfl) Try.underlying28 rfl (by kernel_rfl) q1) ?_;clear F fa;intro fa F
 refine ZX F rfl (by decide) rfl (ZG rfl rfl Try.call122 (mpS (F.at rfl) (mpS (ev_c fa _) mp0))) (Z9U t hn ga ra la gc rc lc _ (HT.out.ext E (by simp)) l1 l2 l3) fun e w2 hR=>?_
 obtain ⟨L,P,a,pa,c,pc,rfl,h1,h2,h3,h4,h5,eX⟩:=hR
 refine ⟨_,rfl,?_⟩;clear F fa;intro fa F
 replace q1:=(eX).keep0 q1
 replace E:=Z4 E (eX)
 have EX:Ext [] w2 w2:=Ext.refl _ _
 replace h3:=Lib.hid h3
 replace h4:=Lib.hid h4
 replace h5:=Lib.hid h5
 refine F.vl (Zm rfl (F.at rfl) (get0)) ?_;clear F fa;intro fa F
 refine F.vl (Zm rfl (F.at rfl) (getS (get0))) ?_;clear F fa;intro fa F
 refine F.vl (Zm rfl (F.at rfl) (getS (getS (get0)))) ?_;clear F fa;intro fa F
 refine F.as ?_;clear F fa;intro fa F
 refine F.as ?_;clear F fa;intro fa F
 refine F.as ?_;clear F fa;intro fa F
 refine wpList_nil ?_
 refine hK2 _ _ ?_
 clear hK2
 refine wp_ret ?_
 (try simp only [Exit.inBlock,Exit.then])
 refine rt_v F (rs_3 F rfl rfl rfl rfl) ?_
 exact ⟨L,P,a,pa,c,pc,rfl,h1,h2,Z1X h3.out EX,fun p hp=>(h4.out p hp).ext EX,h5.out.ext EX (by simp),E⟩
theorem Z6L {n:Nat} (hn:t.Ok → (n:Int) = 1 + t.S * t.A + t.T):Calls Try.prog 73 #[tpV t (.slice ga t.gr.length gc) (.slice ra t.rd.length rc) (.slice la t.lk.length lc)] w (Z4e t sndI fstI w):=by
 have E:Ext [] w w:=Ext.refl _ _
 have HT:=Lib.hid ht
 clear ht
 unfold tpV
 refine Z01 10 Try.func73 rfl Try.ntmps73 (Nat.le_of_ble_eq_true rfl) ?_
 intro fa F
 refine wp_seq_k fun K1 hK1=>?_
 refine wp_region_lit ?_
 refine Z00 F rfl (by decide) rfl (Z0z rfl (F.at rfl)) ?_;clear F fa;intro fa w1 F hw
 obtain ⟨n1,hn⟩:∃ n,n = w.heap.size:=⟨_,rfl⟩
 rw [← hn] at F
 have s1:w.heap.size ≤ n1:=Nat.le_of_eq hn.symm
 have l1_E:w.heap.size ≤ n1:=by rw [hn];exact E.size
 replace E:=Z2 E hw
 have q1:=Zr hw hn
 clear hw hn
 refine F.vl (Z8 rfl (ev_c fa _)) ?_;clear F fa;intro fa F
 refine F.vl (Z8 rfl (ev_c fa _)) ?_;clear F fa;intro fa F
 refine F.vl (Z8 rfl (ev_c fa _)) ?_;clear F fa;intro fa F
 refine wpList_nil ?_
 refine hK1 _ _ ?_
 clear hK1
 refine wp_seq_k fun K2 hK2=>?_
 refine wp_region_lit ?_
 refine F.vl (Zt rfl (F.at rfl) Try.underlying28 rfl (by kernel_rfl) q1) ?_;clear F fa;intro fa F
 refine ZX F rfl (by decide) rfl (ZG rfl rfl Try.call122 (mpS (F.at rfl) (mpS (ev_c fa _) mp0))) (Z9F t hn ga ra la gc rc lc _ (HT.out.ext E (by simp)) l1 l2 l3) fun e w2 hR=>?_
 obtain ⟨L,P,a,pa,c,pc,rfl,h1,h2,h3,h4,h5,eX⟩:=hR
 refine ⟨_,rfl,?_⟩;clear F fa;intro fa F
 replace q1:=(eX).keep0 q1
 replace E:=Z4 E (eX)
 have EX:Ext [] w2 w2:=Ext.refl _ _
 replace h3:=Lib.hid h3
 replace h4:=Lib.hid h4
 replace h5:=Lib.hid h5
 refine F.vl (Zm rfl (F.at rfl) (get0)) ?_;clear F fa;intro fa F
 refine F.vl (Zm rfl (F.at rfl) (getS (get0))) ?_;clear F fa;intro fa F
 refine F.vl (Zm rfl (F.at rfl) (getS (getS (get0)))) ?_;clear F fa;intro fa F
 refine F.as ?_;clear F fa;intro fa F
 refine F.as ?_;clear F fa;intro fa F
 refine F.as ?_;clear F fa;intro fa F
 refine wpList_nil ?_
 refine hK2 _ _ ?_
 clear hK2
 refine wp_ret ?_
 (try simp only [Exit.inBlock,Exit.then])
 refine rt_v F (rs_3 F rfl rfl rfl rfl) ?_
 exact ⟨L,P,a,pa,c,pc,rfl,h1,h2,Z1X h3.out EX,fun p hp=>(h4.out p hp).ext EX,h5.out.ext EX (by simp),E⟩
end
def Z4G (w:World) (a:Option Addr) (L:List (Value × List Int)):Prop:=SlAt [] w a 1 L.length (fun i=>[(L.getD i (.bool true,[])).1]) ∧ ∀ p ∈ L,Z4T w p.1 p.2
theorem Z4G.ext {w W:World} {a:Option Addr} {L:List (Value × List Int)} (h:Z4G w a L) (e:Ext [] w W):Z4G W a L:=⟨Z1X h.1 e,fun p hp=>(h.2 p hp).ext e⟩
set_option maxRecDepth 100000 in
theorem Z2Q (L M:List (Value × List Int)) (he:L.map (·.2) = M.map (·.2)) (hs:∀ p ∈ M,p.2.length ≤ 1000) (hm:M.length ≤ 1000) (a b:Option Addr) (ca cb:Nat) (w:World) (h:Z4G w a L) (k:Z4G w b M) :
  Calls Try.prog 72 #[.slice a L.length ca,.slice b M.length cb] w fun e w'=>e = .returned (.bool true) ∧ Ext [] w w':=by
 have E:Ext [] w w:=Ext.refl _ _
 have hl:L.length = M.length:=by have:=congrArg List.length he;simpa using this
 have HL:=Lib.hid h
 have HM:=Lib.hid k
 have HS:=Lib.hid h.1
 have HU:=Lib.hid k.1
 have HE:=Lib.hid he
 clear h k he
 refine Z01 27 Try.func72 rfl Try.ntmps72 (Nat.le_of_ble_eq_true rfl) ?_
 intro fa F
 refine wp_seq_k fun K1 hK1=>?_
 refine wp_region_lit ?_
 refine F.vl (Z8 rfl (ev_c fa _)) ?_;clear F fa;intro fa F
 refine wpList_nil ?_
 refine hK1 _ _ ?_
 clear hK1
 refine wp_seq_k fun K2 hK2=>?_
 refine wp_seq_k fun K3 hK3=>?_
 refine wp_region_lit ?_
 refine F.mv ?_;clear F fa;intro fa F
 refine F.vl (Z1c rfl rfl (F.at rfl) Try.underlying50) ?_;clear F fa;intro fa F
 refine F.mv ?_;clear F fa;intro fa F
 refine F.vl (Z1c rfl rfl (F.at rfl) Try.underlying50) ?_;clear F fa;intro fa F
 refine F.vl (Z2l (b:=false) rfl (F.at rfl) (F.at rfl) (decide_eq_true ((by omega)))) ?_;clear F fa;intro fa F
 refine wpList_nil ?_
 refine hK3 _ _ ?_
 clear hK3
 refine cd_F F rfl ?_
 refine wp_skip ?_
 refine hK2 _ _ ?_
 clear hK2
 refine wp_seq_k fun K4 hK4=>?_
 refine wp_seq_k fun K5 hK5=>?_
 refine wp_region_lit ?_
 refine F.vl (Z8 rfl (ev_c fa _)) ?_;clear F fa;intro fa F
 refine wpList_nil ?_
 refine hK5 _ _ ?_
 clear hK5
 refine wp_block ?_
 have F0:=F.sub (.c 0 rfl (.c 1 rfl .n))
 refine Z0U F0 (L.length) (fun i Lv W=>Lv = [(5,.int .i64 ((i:Nat):Int))] ∧ Ext [] w W) ⟨_,⟨rfl,Ext.refl _ _⟩,F.sub (.c 5 rfl (.c 0 rfl (.c 1 rfl .n)))⟩ ?_
 clear F F0
 rintro i _ fa w1 hi1 ⟨rfl,EL1⟩ F
 have E:=E.nil EL1
 refine wp_seq_k fun K6 hK6=>?_
 refine wp_seq_k fun K7 hK7=>?_
 refine wp_region_lit ?_
 refine F.mv ?_;clear F fa;intro fa F
 refine F.mv ?_;clear F fa;intro fa F
 refine F.vl (Z1c rfl rfl (F.at rfl) Try.underlying50) ?_;clear F fa;intro fa F
 refine F.vl (Z1d rfl (F.at rfl) (F.at rfl)) ?_;clear F fa;intro fa F
 refine wpList_nil ?_
 refine hK7 _ _ ?_
 clear hK7
 refine Z0J F rfl (fun hc14=>?_) (fun hc14=>?_)
 ·skip
  refine wp_skip ?_
  refine hK6 _ _ ?_
  clear hK6
  refine wp_seq_k fun K8 hK8=>?_
  refine wp_block ?_
  refine wp_seq_k fun K9 hK9=>?_
  obtain ⟨la,lca,hla,hlr⟩:=HL.out.2 _ (Z0m (.bool true,[]) (show i < L.length by omega))
  obtain ⟨ma,mca,hma,hmr⟩:=HM.out.2 _ (Z0m (.bool true,[]) (show i < M.length by omega))
  have hsame:(L.getD i (.bool true,[])).2 = (M.getD i (.bool true,[])).2:=by rw [← Z7d (fun p:Value × List Int=>p.2) (.bool true,[]) L (show i < L.length by omega),← Z7d (fun p:Value × List Int=>p.2) (.bool true,[]) M (show i < M.length by omega),HE.out]
  have hsz:=hs _ (Z0m (.bool true,[]) (show i < M.length by omega))
  refine Z0g 8 follows (by kernel_rfl) fun w2 hh eh=>?_
  replace E:=Z4 E eh
  replace EL1:=Z4 EL1 eh
  clear hh eh
  refine F.smv ?_;clear F fa;intro fa F
  refine F.smv ?_;clear F fa;intro fa F
  obtain ⟨xb10,xo10,xa10,xr10⟩:=HS.out i (by omega)
  refine F.sv (ZJ (sz:=1) rfl ((F.at rfl).trans (xa10 _ _)) (F.at rfl) Try.underlying50 (by kernel_rfl) (by omega) (by omega)) ?_;clear F fa;intro fa F
  refine F.sv (Zh rfl (F.at rfl) Try.underlying29 rfl (xr10 _ E 0 _ rfl)) ?_;clear F fa;intro fa F
  rw [hla] at F
  refine F.smv ?_;clear F fa;intro fa F
  refine F.smv ?_;clear F fa;intro fa F
  obtain ⟨xb11,xo11,xa11,xr11⟩:=HU.out i (by omega)
  refine F.sv (ZJ (sz:=1) rfl ((F.at rfl).trans (xa11 _ _)) (F.at rfl) Try.underlying50 (by kernel_rfl) (by omega) (by omega)) ?_;clear F fa;intro fa F
  refine F.sv (Zh rfl (F.at rfl) Try.underlying29 rfl (xr11 _ E 0 _ rfl)) ?_;clear F fa;intro fa F
  rw [hma] at F
  refine wpStill_nil ?_
  refine ZX F rfl (by decide) rfl (ZG rfl rfl Try.call50 (mpS (F.at rfl) (mpS (F.at rfl) mp0))) (Z2w _ _ _ _ _ _ _ (hlr.ext E (by simp)) (hmr.ext E (by simp)) (by rw [hsame];omega) (by omega)) fun e w3 hR=>?_
  obtain ⟨rfl,e9⟩:=hR
  refine ⟨_,rfl,?_⟩;clear F fa;intro fa F
  replace E:=Z4 E (e9)
  replace EL1:=Z4 EL1 (e9)
  clear e9
  rw [decide_eq_true hsame] at F
  refine F.vl (Z45 rfl (F.at rfl)) ?_;clear F fa;intro fa F
  refine wpList_nil ?_
  refine hK9 _ _ ?_
  clear hK9
  refine cd_F F rfl ?_
  refine wp_skip ?_
  refine hK8 _ _ ?_
  clear hK8
  refine wp_region_lit ?_
  refine F.mv ?_;clear F fa;intro fa F
  refine F.vl (Z0F rfl (F.at rfl) (ev_c fa _) (by omega) (by omega)) ?_;clear F fa;intro fa F
  refine F.as ?_;clear F fa;intro fa F
  refine wpList_nil ?_
  show _ ∧ _
  exact ⟨by omega,_,⟨rfl,EL1⟩,F.sub (.c 5 rfl (.c 0 rfl (.c 1 rfl .n)))⟩
 ·skip
  refine wp_exit ?_
  refine hK4 _ _ ?_
  clear hK4
  refine wp_seq_k fun K12 hK12=>?_
  refine wp_region_lit ?_
  refine F.vl (Z8 rfl (ev_c fa _)) ?_;clear F fa;intro fa F
  refine wpList_nil ?_
  refine hK12 _ _ ?_
  clear hK12
  refine wp_ret ?_
  (try simp only [Exit.inBlock,Exit.then])
  refine rt_v F (rs_1 F rfl rfl) ?_
  exact ⟨rfl,E⟩
theorem Z8T {w:World} {base b:Nat} {e:TypeId} {u v:Value} (h:w.heap[b]? = some (.cells #[u,v] e (0,0))) (hb:base ≤ b):w.ownsRow base e 1 (.slice (some ⟨b,0,none⟩) 2 2) 2 [u,v]:=
 ⟨rfl,.inr ⟨b,2,#[u,v],rfl,hb,h,Nat.le_refl _,by decide,rfl,rfl⟩⟩
def prL (p:Int × Int):List Int:=[p.1,p.2]
theorem Z8D {m:Nat → Nat → Int} {s a:Nat} (h:-(m (ZO s a) 0) = m 0 (ZO s a)):Z1Q m s (a + 1) = Z1Q m s a ++ [((s:Int),(a:Int))]:=if_pos h
theorem Za5 {m:Nat → Nat → Int} {s a:Nat} (h:¬ -(m (ZO s a) 0) = m 0 (ZO s a)):Z1Q m s (a + 1) = Z1Q m s a:=if_neg h
def Z8C (t:Tp) (w:World) (e:Ending) (w':World):Prop:=∃ L a c,e = .returned (.tuple #[.slice a L.length c,.int .i64 (fixE t)]) ∧ L.map (·.2) = (fixL t).map prL ∧ Z4G w' a L ∧ Ext [] w w'
theorem Z5V {w:World} {v:Value} {ps:List (Int × Int)} (h:Z8k w v ps):∃ a c L,v = .slice a L.length c ∧ L.map (·.2) = ps.map prL ∧ Z4G w a L:=by
 obtain ⟨base,vs,ho,hl,hp⟩:=h
 obtain ⟨a,c,rfl⟩:=Zs ho
 have z1:(vs.zip (ps.map prL)).map (·.1) = vs:=List.map_fst_zip (by simp [hl])
 have z2:(vs.zip (ps.map prL)).map (·.2) = ps.map prL:=List.map_snd_zip (by simp [hl])
 have zl:(vs.zip (ps.map prL)).length = ps.length:=by simp [hl]
 refine ⟨a,c,vs.zip (ps.map prL),by rw [zl],z2,Z1J (c:=c) (by rw [z1];exact ho) zl.symm,fun q hq=>?_⟩
 obtain ⟨i,hi⟩:=List.getElem?_of_mem hq
 have hil:i < ps.length:=by have:=(List.getElem?_eq_some_iff.1 hi).1;omega
 obtain ⟨g,h1,h2⟩:=hp i _ (List.getElem?_eq_getElem hil)
 have e1:q.1 = .slice (some ⟨g,0,none⟩) 2 2:=by
  have:=congrArg (fun l=>l[i]?) z1
  simp only [List.getElem?_map,hi,h1,Option.map_some,Option.some.injEq] at this
  exact this
 have e2:q.2 = prL (ps[i]):=by
  have:=congrArg (fun l=>l[i]?) z2
  simp only [List.getElem?_map,hi,List.getElem?_eq_getElem hil,Option.map_some,Option.some.injEq] at this
  exact this
 rw [e1,e2]
 exact ⟨_,_,rfl,Z2b [_,_] 2 h2⟩
theorem Z8H (t:Tp) (ga ra la:Option Addr) (gc rc lc:Nat) (w:World) (ht:IsTp w (.slice ga t.gr.length gc) (.slice ra t.rd.length rc) (.slice la t.lk.length lc) t) (l1:t.gr.length ≤ 1000) (l2:t.rd.length ≤ 1000) (l3:t.lk.length ≤ 1000) :
  Calls Try.prog 61 #[tpV t (.slice ga t.gr.length gc) (.slice ra t.rd.length rc) (.slice la t.lk.length lc)] w (Z8C t w):=
 (Z8L t _ _ _ w ht l1 l2 l3).mono fun e w' ⟨v,he,hp,eX⟩=>by
  obtain ⟨a,c,L,rfl,h1,h2⟩:=Z5V hp
  exact ⟨L,a,c,he,h1,h2,eX⟩
set_option maxRecDepth 100000 in
set_option maxHeartbeats 4000000 in
theorem Z6r (t:Tp) {n:Nat} (hn:t.Ok → (n:Int) = 1 + t.S * t.A + t.T) (ga ra la:Option Addr) (gc rc lc:Nat) (w:World) (ht:IsTp w (.slice ga t.gr.length gc) (.slice ra t.rd.length rc) (.slice la t.lk.length lc) t) (l1:t.gr.length ≤ 1000) (l2:t.rd.length ≤ 1000) (l3:t.lk.length ≤ 1000) :
  Calls Try.prog 74 #[tpV t (.slice ga t.gr.length gc) (.slice ra t.rd.length rc) (.slice la t.lk.length lc)] w (Z8C t w):=by
 have E:Ext [] w w:=Ext.refl _ _
 have HT:=Lib.hid ht
 clear ht
 unfold tpV
 refine Z01 48 Try.func74 rfl Try.ntmps74 (Nat.le_of_ble_eq_true rfl) ?_
 intro fa F
 refine wp_seq_k fun K1 hK1=>?_
 refine wp_region_lit ?_
 refine Z00 F rfl (by decide) rfl (Z0z rfl (F.at rfl)) ?_;clear F fa;intro fa w1 F hw
 obtain ⟨n1,hn⟩:∃ n,n = w.heap.size:=⟨_,rfl⟩
 rw [← hn] at F
 have s1:w.heap.size ≤ n1:=Nat.le_of_eq hn.symm
 have l1_E:w.heap.size ≤ n1:=by rw [hn];exact E.size
 replace E:=Z2 E hw
 have q1:=Zr hw hn
 clear hw hn
 refine F.vl (Z8 rfl (ev_c fa _)) ?_;clear F fa;intro fa F
 refine F.vl (Z8 rfl (ev_c fa _)) ?_;clear F fa;intro fa F
 refine wpList_nil ?_
 refine hK1 _ _ ?_
 clear hK1
 refine wp_seq_k fun K2 hK2=>?_
 refine wp_region_lit ?_
 refine F.vl (Zt rfl (F.at rfl) Try.underlying28 rfl (by kernel_rfl) q1) ?_;clear F fa;intro fa F
 refine ZX F rfl (by decide) rfl (ZG rfl rfl Try.call93 (mpS (F.at rfl) (mpS (ev_c fa _) mp0))) (Z3a t hn true ga ra la gc rc lc _ (HT.out.ext E (by simp)) l1 l2 l3) fun e w2 hR=>?_
 obtain ⟨oa,k,oc,va,vc,rfl,hk,ism,eX⟩:=hR
 refine ⟨_,rfl,?_⟩;clear F fa;intro fa F
 replace q1:=(eX).keep0 q1
 replace E:=Z4 E (eX)
 have HMF:=Lib.hid (Z8q ism)
 clear ism
 have EM:Ext [] w2 w2:=Ext.refl _ _
 obtain ⟨B0,hB0⟩:∃ B0,B0 = w2.heap.size:=⟨_,rfl⟩
 have hB0w:w.heap.size ≤ B0:=by rw [hB0];exact E.size
 have oo:w2.ownsRow B0 29 1 (.slice none 0 0) 0 (([]:List (Value × List Int)).map (·.1)):=World.ownsRow_nil _ _ _ _
 have fam:FamT w2 B0 []:=Z4x _ _
 refine F.mv ?_;clear F fa;intro fa F
 refine F.vl (Zm rfl (F.at rfl) (get0)) ?_;clear F fa;intro fa F
 refine F.vl (Zm rfl (F.at rfl) (getS (get0))) ?_;clear F fa;intro fa F
 refine Z00 F rfl (by decide) rfl (ZB rfl Try.zeroValue111) ?_;clear F fa;intro fa w3 F hw
 obtain ⟨n4,hn⟩:∃ n,n = w2.heap.size:=⟨_,rfl⟩
 rw [← hn] at F
 have s4:w2.heap.size ≤ n4:=Nat.le_of_eq hn.symm
 have l4_E:w.heap.size ≤ n4:=by rw [hn];exact E.size
 have l4_EM:w2.heap.size ≤ n4:=by rw [hn];exact EM.size
 have m4_1:n1 < n4:=by rw [hn];exact Z7 q1
 have o4_oo:=Lib.hid (Zo oo hn)
 replace oo:=Zc hw oo
 replace fam:=ZL fam fun _ _ _ h=>Zc hw h
 replace q1:=Z1 hw q1
 replace E:=Z2 E hw
 replace EM:=Z2 EM hw
 have q4:=Zr hw hn
 clear hw hn
 refine Z1L rfl rfl (Zg rfl (F.at rfl) (F.at rfl) (by kernel_rfl) (by first | (simp [Value.oneCell'];done) | (simp [Value.oneCell',Z0K,Z0B,Z0L];done)) q4 rfl) ?_;intro w4 hw
 replace oo:=Zu hw oo (Z6 oo q4 (by decide))
 replace fam:=ZL fam fun _ _ _ h=>Zu hw h (Z6 h q4 (by decide))
 replace q1:=Z5 hw q1 (by omega)
 replace q4:=Zz hw q4 rfl
 replace E:=Za E hw (fun h=>by first | exact absurd h (by omega) | simp)
 replace EM:=Za EM hw (fun h=>by first | exact absurd h (by omega) | simp)
 clear hw
 refine F.as ?_;clear F fa;intro fa F
 refine wpList_nil ?_
 refine hK2 _ _ ?_
 clear hK2
 refine wp_seq_k fun K3 hK3=>?_
 refine wp_seq_k fun K4 hK4=>?_
 refine wp_region_lit ?_
 refine F.mv ?_;clear F fa;intro fa F
 refine F.vl (Z3v rfl (F.at rfl) (ev_c fa _)) ?_;clear F fa;intro fa F
 refine wpList_nil ?_
 refine hK4 _ _ ?_
 clear hK4
 refine Z0J F rfl (fun hc16=>?_) (fun hc16=>?_)
 ·skip
  refine wp_seq_k fun K5 hK5=>?_
  refine wp_region_lit ?_
  refine F.mv ?_;clear F fa;intro fa F
  refine F.vl (Z8 rfl (ev_c fa _)) ?_;clear F fa;intro fa F
  refine F.as ?_;clear F fa;intro fa F
  refine wpList_nil ?_
  refine hK5 _ _ ?_
  clear hK5
  refine wp_ret ?_
  (try simp only [Exit.inBlock,Exit.then])
  refine rt_v F (rs_2 F rfl rfl rfl) ?_
  exact ⟨[],none,0,by rw [fixE,Z0G];rfl,by rw [fixL,if_neg (by rw [fixE,Z0G];omega)];rfl,⟨fun i hi=>absurd hi (Nat.not_lt_zero _),fun p hp=>by cases hp⟩,E⟩
 ·skip
  refine wp_skip ?_
  refine hK3 _ _ ?_
  clear hK3
  refine wp_seq_k fun K6 hK6=>?_
  have h0:begE t true = 0:=by omega
  obtain ⟨hL,-⟩:=Z1Z h0
  have hnn:=hn hL.ok
  obtain rfl:=hk h0
  have hl0:=(Z2X hL.ok hnn).2
  have o1:=hL.ok.S1
  have o2:=hL.ok.S3
  have o3:=hL.ok.A1
  have o4:=hL.ok.A3
  refine wp_region_lit ?_
  refine F.vl (Z8 rfl (ev_c fa _)) ?_;clear F fa;intro fa F
  refine wpList_nil ?_
  refine hK6 _ _ ?_
  clear hK6
  refine wp_seq_k fun K7 hK7=>?_
  refine wp_seq_k fun K8 hK8=>?_
  refine wp_region_lit ?_
  refine F.vl (Z8 rfl (ev_c fa _)) ?_;clear F fa;intro fa F
  refine wpList_nil ?_
  refine hK8 _ _ ?_
  clear hK8
  refine wp_block ?_
  have F0:=F.sub (.c 1 rfl (.c 4 rfl .n))
  refine Z0U F0 (t.S.toNat) (fun i Lv W=>∃ va2:Option Addr,∃ vc2:Nat,∃ O:List (Value × List Int),Lv = [(6,.slice va2 O.length vc2),(7,.int .i64 ((i:Nat):Int))] ∧ Ext [] w W ∧ Ext [] w2 W ∧ W.heap[n1]? = some (.cells #[.int .i64 t.S,.int .i64 t.A,.int .i64 t.T,.int .i64 t.bl,.int .i64 t.bm,.int .i64 t.pl,.int .i64 t.pm,.int .i64 t.sl,.slice ga t.gr.length gc,.slice ra t.rd.length rc,.slice la t.lk.length lc] 28 (0,0)) ∧ W.heap[n4]? = some (.cells #[.slice oa k oc] 111 (0,0)) ∧ W.ownsRow B0 29 1 (.slice va2 O.length vc2) O.length (O.map (·.1)) ∧ FamT W B0 O ∧ O.map (·.2) = (Z1Y (bdV t 0) t.A.toNat i).map prL) ⟨_,⟨none,0,[],rfl,E,EM,q1,q4,oo,fam,rfl⟩,F.sub (.c 6 rfl (.c 7 rfl (.c 1 rfl (.c 4 rfl .n))))⟩ ?_
  clear F F0
  clear E EM q1 q4
  clear oo
  clear fam
  rintro i _ fa w5 hi1 ⟨va2,vc2,O,rfl,E,EM,q1,q4,oo,fam,hO⟩ F
  refine wp_seq_k fun K9 hK9=>?_
  refine wp_seq_k fun K10 hK10=>?_
  refine wp_region_lit ?_
  refine F.mv ?_;clear F fa;intro fa F
  refine F.vl (Z9 rfl (F.at rfl) Try.underlying28 rfl (n:=0) (sz:=1) rfl (by kernel_rfl) (by decide)) ?_;clear F fa;intro fa F
  refine F.vl (Zh rfl (F.at rfl) Try.underlying3 rfl ((Z0 q1 0).trans (get0))) ?_;clear F fa;intro fa F
  refine F.vl (Z1d rfl (F.at rfl) (F.at rfl)) ?_;clear F fa;intro fa F
  refine wpList_nil ?_
  refine hK10 _ _ ?_
  clear hK10
  refine Z0J F rfl (fun hc21=>?_) (fun hc21=>?_)
  ·skip
   refine wp_skip ?_
   refine hK9 _ _ ?_
   clear hK9
   refine wp_seq_k fun K11 hK11=>?_
   refine wp_block ?_
   refine wp_seq_k fun K12 hK12=>?_
   refine wp_region_lit ?_
   refine F.vl (Z8 rfl (ev_c fa _)) ?_;clear F fa;intro fa F
   refine wpList_nil ?_
   refine hK12 _ _ ?_
   clear hK12
   refine wp_block ?_
   have F0:=F.sub (.c 1 rfl (.c 4 rfl (.c 7 rfl .n)))
   refine Z0U F0 (t.A.toNat) (fun j Lv W=>∃ va3:Option Addr,∃ vc3:Nat,∃ Q:List (Value × List Int),Lv = [(6,.slice va3 Q.length vc3),(8,.int .i64 ((j:Nat):Int))] ∧ Ext [] w W ∧ Ext [] w2 W ∧ W.heap[n1]? = some (.cells #[.int .i64 t.S,.int .i64 t.A,.int .i64 t.T,.int .i64 t.bl,.int .i64 t.bm,.int .i64 t.pl,.int .i64 t.pm,.int .i64 t.sl,.slice ga t.gr.length gc,.slice ra t.rd.length rc,.slice la t.lk.length lc] 28 (0,0)) ∧ W.heap[n4]? = some (.cells #[.slice oa k oc] 111 (0,0)) ∧ W.ownsRow B0 29 1 (.slice va3 Q.length vc3) Q.length (Q.map (·.1)) ∧ FamT W B0 Q ∧ Q.map (·.2) = (Z1Y (bdV t 0) t.A.toNat i ++ Z1Q (bdV t 0) i j).map prL) ⟨_,⟨va2,vc2,O,rfl,E,EM,q1,q4,oo,fam,(by rw [show Z1Q (bdV t 0) i 0 = [] from rfl,List.append_nil];exact hO)⟩,F.sub (.c 6 rfl (.c 8 rfl (.c 1 rfl (.c 4 rfl (.c 7 rfl .n)))))⟩ ?_
   clear F F0
   clear E EM q1 q4
   clear oo
   clear fam
   rintro j _ fa w6 hi2 ⟨va3,vc3,Q,rfl,E,EM,q1,q4,oo,fam,hQ⟩ F
   have hQl:Q.length ≤ 1000:=by have h1:=congrArg List.length hQ;have h2:=Z3G (bdV t 0) t.A.toNat i;have h3:=Z3Q (bdV t 0) i j;have h4:t.A.toNat * i ≤ 3 * 3:=Nat.mul_le_mul (by omega) (by omega);simp only [List.length_map,List.length_append] at h1;omega
   refine wp_seq_k fun K13 hK13=>?_
   refine wp_seq_k fun K14 hK14=>?_
   refine wp_region_lit ?_
   refine F.mv ?_;clear F fa;intro fa F
   refine F.vl (Z9 rfl (F.at rfl) Try.underlying28 rfl (n:=1) (sz:=1) rfl (by kernel_rfl) (by decide)) ?_;clear F fa;intro fa F
   refine F.vl (Zh rfl (F.at rfl) Try.underlying3 rfl ((Z0 q1 1).trans (getS (get0)))) ?_;clear F fa;intro fa F
   refine F.vl (Z1d rfl (F.at rfl) (F.at rfl)) ?_;clear F fa;intro fa F
   refine wpList_nil ?_
   refine hK14 _ _ ?_
   clear hK14
   refine Z0J F rfl (fun hc27=>?_) (fun hc27=>?_)
   ·skip
    refine wp_skip ?_
    refine hK13 _ _ ?_
    clear hK13
    refine wp_seq_k fun K15 hK15=>?_
    refine wp_block ?_
    refine wp_seq_k fun K16 hK16=>?_
    have hiS:(i:Int) < t.S:=by omega
    have hjA:(j:Int) < t.A:=by omega
    have hlt:=ZaI hL.ok hnn (s:=(i:Int)) (a:=(j:Int)) (by omega) hiS (by omega) hjA
    have k1:=Z2C hL.ok hL.bdB hnn (i:=rnI t (i:Int) (j:Int)) (j:=0) hlt hl0
    have k2:=Z2C hL.ok hL.bdB hnn (i:=0) (j:=rnI t (i:Int) (j:Int)) hl0 hlt
    rw [Z7T,Z7H hL.ok (by omega) hiS (by omega) hjA] at k1 k2
    suffices hcut:∀ (n9:Nat) (fa:Act) (w19:World),Has 48 fa [(1,.pointer (some ⟨n1,0,none⟩)),(4,.pointer (some ⟨n4,0,none⟩)),(6,.slice va3 Q.length vc3),(7,.int .i64 ((i:Nat):Int)),(8,.int .i64 ((j:Nat):Int)),(9,.pointer (some ⟨n9,0,none⟩))] → w19.heap[n1]? = some (.cells #[.int .i64 t.S,.int .i64 t.A,.int .i64 t.T,.int .i64 t.bl,.int .i64 t.bm,.int .i64 t.pl,.int .i64 t.pm,.int .i64 t.sl,.slice ga t.gr.length gc,.slice ra t.rd.length rc,.slice la t.lk.length lc] 28 (0,0)) → w19.heap[n4]? = some (.cells #[.slice oa k oc] 111 (0,0)) → w19.heap[n9]? = some (.cells #[.int .i64 (-(bdV t 0 (ZO i j) 0)),.int .i64 (bdV t 0 0 (ZO i j))] 23 (0,0)) → Ext [] w w19 → Ext [] w2 w19 → w.heap.size ≤ n9 → w2.heap.size ≤ n9 → n1 ≠ n9 → n4 ≠ n9 → w19.ownsRow B0 29 1 (.slice va3 Q.length vc3) Q.length (Q.map (·.1)) → FamT w19 B0 Q → K16 fa w19 by
     refine Z0P (Ext [] w6) none follows fun w7 hh eh=>?_
     have q1_:=q1
     replace q1:=Zn hh q1
     have q4_:=q4
     replace q4:=Zn hh q4
     have E_:=E
     have zEw7:=E.size
     replace E:=Z4 E eh
     have EM_:=EM
     have zEMw7:=EM.size
     replace EM:=Z4 EM eh
     replace oo:=ZW hh oo
     replace fam:=ZL fam fun _ _ _ h=>ZW hh h
     have eT:=eh
     clear hh eh
     refine F.xr (i:=0) rfl (fun w' hS=>Zt rfl (F.at rfl) Try.underlying111 rfl (by kernel_rfl) (hS.keep q4_ (by simp))) (fun _=>eT) ?_;clear F fa;intro fa F
     refine F.xr (i:=1) rfl (fun w' hS=>Zt rfl (F.at rfl) Try.underlying28 rfl (by kernel_rfl) (hS.keep q1_ (by simp))) (fun _=>eT) ?_;clear F fa;intro fa F
     refine F.x (i:=2) rfl (fun w'=>Zi rfl (F.at rfl)) (fun _=>eT) ?_;clear F fa;intro fa F
     refine F.x (i:=3) rfl (fun w'=>Zi rfl (F.at rfl)) (fun _=>eT) ?_;clear F fa;intro fa F
     refine Z19 (i:=4) (j:=6) (by kernel_rfl) ?_ ?_
     ·skip
      refine (Z07 F rfl rfl (by decide) rfl (ZG rfl rfl Try.call96 (mpS (F.at rfl) (mpS (F.at rfl) (mpS (F.at rfl) mp0)))) (Z0n hL.ok _ _ _ (i:Int) (j:Int) _ (by omega) hiS (by omega) hjA) fun e w8 hR=>?_)
      obtain ⟨rfl,e9⟩:=hR
      refine ⟨_,rfl,?_⟩;clear F fa;intro fa F
      replace oo:=Zq oo (e9) (by simp)
      replace fam:=ZL fam fun _ _ _ h=>Zq h (e9) (by simp)
      replace q1:=(e9).keep0 q1
      replace q4:=(e9).keep0 q4
      replace E:=Z4 E (e9)
      replace EM:=Z4 EM (e9)
      replace eT:=Z4 eT (e9)
      clear e9
      refine ⟨fun _=>eT,?_⟩
      refine Z19 (i:=5) (j:=6) (by kernel_rfl) ?_ ?_
      ·skip
       refine (Z07 F rfl rfl (by decide) rfl (ZG rfl rfl Try.call95 (mpS (F.at rfl) (mpS (F.at rfl) (mpS (ev_c fa _) mp0)))) (Z0W (Z2X hL.ok hnn).1 (Z2o HMF.out EM) (rnI t (i:Int) (j:Int)) 0 hlt hl0 (p:=-(bdV t 0 (ZO i j) 0)) (q:=bdV t 0 0 (ZO i j)) (by rw [k2.1]) k1.1 k2.2.1 k2.2.2) fun e w9 hR=>?_)
       obtain ⟨rfl,e9⟩:=hR
       refine ⟨_,rfl,?_⟩;clear F fa;intro fa F
       replace oo:=Zq oo (e9) (by simp)
       replace fam:=ZL fam fun _ _ _ h=>Zq h (e9) (by simp)
       replace q1:=(e9).keep0 q1
       replace q4:=(e9).keep0 q4
       replace E:=Z4 E (e9)
       replace EM:=Z4 EM (e9)
       replace eT:=Z4 eT (e9)
       clear e9
       refine ⟨fun _=>eT,?_⟩
       refine Zv (i:=6) (by kernel_rfl) (Z0w F rfl rfl (by decide) rfl (ZB rfl Try.zeroValue23) ?_);clear F fa;intro fa w10 F hw
       obtain ⟨n9,hn⟩:∃ n,n = w9.heap.size:=⟨_,rfl⟩
       rw [← hn] at F
       have s9:w9.heap.size ≤ n9:=Nat.le_of_eq hn.symm
       have l9_E:w.heap.size ≤ n9:=by rw [hn];exact E.size
       have l9_EM:w2.heap.size ≤ n9:=by rw [hn];exact EM.size
       have lT9:w6.heap.size ≤ n9:=by rw [hn];exact eT.size
       have m9_1:n1 < n9:=by rw [hn];exact Z7 q1
       have m9_4:n4 < n9:=by rw [hn];exact Z7 q4
       have o9_oo:=Lib.hid (Zo oo hn)
       replace oo:=Zc hw oo
       replace fam:=ZL fam fun _ _ _ h=>Zc hw h
       replace q1:=Z1 hw q1
       replace q4:=Z1 hw q4
       replace E:=Z2 E hw
       replace EM:=Z2 EM hw
       replace eT:=Z2 eT hw
       have q9:=Zr hw hn
       clear hw hn
       refine ⟨fun _=>eT,?_⟩
       refine Zv (i:=7) (by kernel_rfl) (Z0u rfl rfl rfl (Zg rfl (F.at rfl) (F.at rfl) (by kernel_rfl) (by first | (simp [Value.oneCell'];done) | (simp [Value.oneCell',Z0K,Z0B,Z0L];done)) q9 rfl) ?_);intro w11 hw
       replace oo:=Zu hw oo (Z6 oo q9 (by decide))
       replace fam:=ZL fam fun _ _ _ h=>Zu hw h (Z6 h q9 (by decide))
       replace q1:=Z5 hw q1 (by omega)
       replace q4:=Z5 hw q4 (by omega)
       replace q9:=Zz hw q9 rfl
       replace E:=Za E hw (fun h=>by first | exact absurd h (by omega) | simp)
       replace EM:=Za EM hw (fun h=>by first | exact absurd h (by omega) | simp)
       replace eT:=Za eT hw (fun h=>by first | exact absurd h (by omega) | simp)
       clear hw
       refine ⟨fun _=>eT,?_⟩
       refine Z0a (by kernel_rfl) ?_ _
       exact hcut _ _ _ (F.sub (.c 1 rfl (.c 4 rfl (.c 6 rfl (.c 7 rfl (.c 8 rfl (.c 9 rfl .n))))))) q1 q4 q9 E EM (by omega) (by omega) (by omega) (by omega) oo fam
      ·skip
       refine (Z0w F rfl rfl (by decide) rfl (ZB rfl Try.zeroValue23) ?_);clear F fa;intro fa w12 F hw
       obtain ⟨n9,hn⟩:∃ n,n = w8.heap.size:=⟨_,rfl⟩
       rw [← hn] at F
       have s9:w8.heap.size ≤ n9:=Nat.le_of_eq hn.symm
       have l9_E:w.heap.size ≤ n9:=by rw [hn];exact E.size
       have l9_EM:w2.heap.size ≤ n9:=by rw [hn];exact EM.size
       have lT9:w6.heap.size ≤ n9:=by rw [hn];exact eT.size
       have m9_1:n1 < n9:=by rw [hn];exact Z7 q1
       have m9_4:n4 < n9:=by rw [hn];exact Z7 q4
       have o9_oo:=Lib.hid (Zo oo hn)
       replace oo:=Zc hw oo
       replace fam:=ZL fam fun _ _ _ h=>Zc hw h
       replace q1:=Z1 hw q1
       replace q4:=Z1 hw q4
       replace E:=Z2 E hw
       replace EM:=Z2 EM hw
       replace eT:=Z2 eT hw
       have q9:=Zr hw hn
       clear hw hn
       refine ⟨fun _=>eT,?_⟩
       refine Zv (i:=5) (by kernel_rfl) (Z07 F rfl rfl (by decide) rfl (ZG rfl rfl Try.call95 (mpS (F.at rfl) (mpS (F.at rfl) (mpS (ev_c fa _) mp0)))) (Z0W (Z2X hL.ok hnn).1 (Z2o HMF.out EM) (rnI t (i:Int) (j:Int)) 0 hlt hl0 (p:=-(bdV t 0 (ZO i j) 0)) (q:=bdV t 0 0 (ZO i j)) (by rw [k2.1]) k1.1 k2.2.1 k2.2.2) fun e w13 hR=>?_)
       obtain ⟨rfl,e9⟩:=hR
       refine ⟨_,rfl,?_⟩;clear F fa;intro fa F
       replace oo:=Zq oo (e9) (by simp)
       replace fam:=ZL fam fun _ _ _ h=>Zq h (e9) (by simp)
       replace q1:=(e9).keep0 q1
       replace q4:=(e9).keep0 q4
       replace q9:=(e9).keep0 q9
       replace E:=Z4 E (e9)
       replace EM:=Z4 EM (e9)
       replace eT:=Z4 eT (e9)
       clear e9
       refine ⟨fun _=>eT,?_⟩
       refine Zv (i:=7) (by kernel_rfl) (Z0u rfl rfl rfl (Zg rfl (F.at rfl) (F.at rfl) (by kernel_rfl) (by first | (simp [Value.oneCell'];done) | (simp [Value.oneCell',Z0K,Z0B,Z0L];done)) q9 rfl) ?_);intro w14 hw
       replace oo:=Zu hw oo (Z6 oo q9 (by decide))
       replace fam:=ZL fam fun _ _ _ h=>Zu hw h (Z6 h q9 (by decide))
       replace q1:=Z5 hw q1 (by omega)
       replace q4:=Z5 hw q4 (by omega)
       replace q9:=Zz hw q9 rfl
       replace E:=Za E hw (fun h=>by first | exact absurd h (by omega) | simp)
       replace EM:=Za EM hw (fun h=>by first | exact absurd h (by omega) | simp)
       replace eT:=Za eT hw (fun h=>by first | exact absurd h (by omega) | simp)
       clear hw
       refine ⟨fun _=>eT,?_⟩
       refine Z0a (by kernel_rfl) ?_ _
       exact hcut _ _ _ (F.sub (.c 1 rfl (.c 4 rfl (.c 6 rfl (.c 7 rfl (.c 8 rfl (.c 9 rfl .n))))))) q1 q4 q9 E EM (by omega) (by omega) (by omega) (by omega) oo fam
     ·skip
      refine (Z0w F rfl rfl (by decide) rfl (ZB rfl Try.zeroValue23) ?_);clear F fa;intro fa w15 F hw
      obtain ⟨n9,hn⟩:∃ n,n = w7.heap.size:=⟨_,rfl⟩
      rw [← hn] at F
      have s9:w7.heap.size ≤ n9:=Nat.le_of_eq hn.symm
      have l9_E:w.heap.size ≤ n9:=by rw [hn];exact E.size
      have l9_EM:w2.heap.size ≤ n9:=by rw [hn];exact EM.size
      have lT9:w6.heap.size ≤ n9:=by rw [hn];exact eT.size
      have m9_1:n1 < n9:=by rw [hn];exact Z7 q1
      have m9_4:n4 < n9:=by rw [hn];exact Z7 q4
      have o9_oo:=Lib.hid (Zo oo hn)
      replace oo:=Zc hw oo
      replace fam:=ZL fam fun _ _ _ h=>Zc hw h
      replace q1:=Z1 hw q1
      replace q4:=Z1 hw q4
      replace E:=Z2 E hw
      replace EM:=Z2 EM hw
      replace eT:=Z2 eT hw
      have q9:=Zr hw hn
      clear hw hn
      refine ⟨fun _=>eT,?_⟩
      refine Zv (i:=4) (by kernel_rfl) (Z07 F rfl rfl (by decide) rfl (ZG rfl rfl Try.call96 (mpS (F.at rfl) (mpS (F.at rfl) (mpS (F.at rfl) mp0)))) (Z0n hL.ok _ _ _ (i:Int) (j:Int) _ (by omega) hiS (by omega) hjA) fun e w16 hR=>?_)
      obtain ⟨rfl,e9⟩:=hR
      refine ⟨_,rfl,?_⟩;clear F fa;intro fa F
      replace oo:=Zq oo (e9) (by simp)
      replace fam:=ZL fam fun _ _ _ h=>Zq h (e9) (by simp)
      replace q1:=(e9).keep0 q1
      replace q4:=(e9).keep0 q4
      replace q9:=(e9).keep0 q9
      replace E:=Z4 E (e9)
      replace EM:=Z4 EM (e9)
      replace eT:=Z4 eT (e9)
      clear e9
      refine ⟨fun _=>eT,?_⟩
      refine Zv (i:=5) (by kernel_rfl) (Z07 F rfl rfl (by decide) rfl (ZG rfl rfl Try.call95 (mpS (F.at rfl) (mpS (F.at rfl) (mpS (ev_c fa _) mp0)))) (Z0W (Z2X hL.ok hnn).1 (Z2o HMF.out EM) (rnI t (i:Int) (j:Int)) 0 hlt hl0 (p:=-(bdV t 0 (ZO i j) 0)) (q:=bdV t 0 0 (ZO i j)) (by rw [k2.1]) k1.1 k2.2.1 k2.2.2) fun e w17 hR=>?_)
      obtain ⟨rfl,e9⟩:=hR
      refine ⟨_,rfl,?_⟩;clear F fa;intro fa F
      replace oo:=Zq oo (e9) (by simp)
      replace fam:=ZL fam fun _ _ _ h=>Zq h (e9) (by simp)
      replace q1:=(e9).keep0 q1
      replace q4:=(e9).keep0 q4
      replace q9:=(e9).keep0 q9
      replace E:=Z4 E (e9)
      replace EM:=Z4 EM (e9)
      replace eT:=Z4 eT (e9)
      clear e9
      refine ⟨fun _=>eT,?_⟩
      refine Zv (i:=7) (by kernel_rfl) (Z0u rfl rfl rfl (Zg rfl (F.at rfl) (F.at rfl) (by kernel_rfl) (by first | (simp [Value.oneCell'];done) | (simp [Value.oneCell',Z0K,Z0B,Z0L];done)) q9 rfl) ?_);intro w18 hw
      replace oo:=Zu hw oo (Z6 oo q9 (by decide))
      replace fam:=ZL fam fun _ _ _ h=>Zu hw h (Z6 h q9 (by decide))
      replace q1:=Z5 hw q1 (by omega)
      replace q4:=Z5 hw q4 (by omega)
      replace q9:=Zz hw q9 rfl
      replace E:=Za E hw (fun h=>by first | exact absurd h (by omega) | simp)
      replace EM:=Za EM hw (fun h=>by first | exact absurd h (by omega) | simp)
      replace eT:=Za eT hw (fun h=>by first | exact absurd h (by omega) | simp)
      clear hw
      refine ⟨fun _=>eT,?_⟩
      refine Z0a (by kernel_rfl) ?_ _
      exact hcut _ _ _ (F.sub (.c 1 rfl (.c 4 rfl (.c 6 rfl (.c 7 rfl (.c 8 rfl (.c 9 rfl .n))))))) q1 q4 q9 E EM (by omega) (by omega) (by omega) (by omega) oo fam
    clear F q1 q4 E EM oo fam fa
    intro n9  fa w19 F q1 q4 q9 E EM l9_E l9_EM m9_1 m9_4 oo fam
    refine hK16 _ _ ?_
    clear hK16
    refine wp_seq_k fun K17 hK17=>?_
    refine wp_region_lit ?_
    refine F.vl (Z9 rfl (F.at rfl) Try.underlying23 rfl (n:=0) (sz:=1) rfl (by kernel_rfl) (by decide)) ?_;clear F fa;intro fa F
    refine F.vl (Zh rfl (F.at rfl) Try.underlying3 rfl ((Z0 q9 0).trans (get0))) ?_;clear F fa;intro fa F
    refine F.vl (Z9 rfl (F.at rfl) Try.underlying23 rfl (n:=1) (sz:=1) rfl (by kernel_rfl) (by decide)) ?_;clear F fa;intro fa F
    refine F.vl (Zh rfl (F.at rfl) Try.underlying3 rfl ((Z0 q9 1).trans (getS (get0)))) ?_;clear F fa;intro fa F
    refine F.vl (Z5T rfl (F.at rfl) (F.at rfl)) ?_;clear F fa;intro fa F
    refine wpList_nil ?_
    refine hK17 _ _ ?_
    clear hK17
    refine Z0J F rfl (fun hc40=>?_) (fun hc40=>?_)
    ·skip
     have hfx:=Z8D (m:=bdV t 0) (s:=i) (a:=j) hc40
     have hflt:=Lib.hid (Z5R fam)
     obtain ⟨B1,hB1⟩:∃ B1,B1 = w19.heap.size:=⟨_,rfl⟩
     rw [← hB1] at hflt
     have hB1w:B0 ≤ B1:=by rw [hB0,hB1];exact EM.size
     have EB:Ext [] w19 w19:=Ext.refl _ _
     refine wp_region_lit ?_
     refine F.mv ?_;clear F fa;intro fa F
     refine F.mv ?_;clear F fa;intro fa F
     refine F.mv ?_;clear F fa;intro fa F
     refine Z00 F rfl (by decide) rfl (Z09 rfl (prS (F.at rfl) (prS (F.at rfl) pr0)) Try.underlying29 (size:=1) (by kernel_rfl) (by decide) (by decide) Try.zeroValue3 (cells:=#[.int .i64 ((i:Nat):Int),.int .i64 ((j:Nat):Int)]) (by kernel_rfl)) ?_;clear F fa;intro fa w20 F hw
     obtain ⟨n44,hn⟩:∃ n,n = w19.heap.size:=⟨_,rfl⟩
     rw [← hn] at F
     have s44:w19.heap.size ≤ n44:=Nat.le_of_eq hn.symm
     have l44_E:w.heap.size ≤ n44:=by rw [hn];exact E.size
     have l44_EM:w2.heap.size ≤ n44:=by rw [hn];exact EM.size
     have l44_EB:w19.heap.size ≤ n44:=by rw [hn];exact EB.size
     have m44_1:n1 < n44:=by rw [hn];exact Z7 q1
     have m44_4:n4 < n44:=by rw [hn];exact Z7 q4
     have m44_9:n9 < n44:=by rw [hn];exact Z7 q9
     have o44_oo:=Lib.hid (Zo oo hn)
     replace oo:=Zc hw oo
     replace fam:=ZL fam fun _ _ _ h=>Zc hw h
     replace q1:=Z1 hw q1
     replace q4:=Z1 hw q4
     replace q9:=Z1 hw q9
     replace E:=Z2 E hw
     replace EM:=Z2 EM hw
     replace EB:=Z2 EB hw
     have q44:=Zw hw hn
     clear hw hn
     refine Z00 F rfl (by decide) rfl (Z09 rfl (prS (F.at rfl) pr0) Try.underlying50 (size:=1) (by kernel_rfl) (by decide) (by decide) Try.zeroValue29 (cells:=#[.slice (some ⟨n44,0,none⟩) 2 2]) (by kernel_rfl)) ?_;clear F fa;intro fa w21 F hw
     obtain ⟨n45,hn⟩:∃ n,n = w20.heap.size:=⟨_,rfl⟩
     rw [← hn] at F
     have s45:w20.heap.size ≤ n45:=Nat.le_of_eq hn.symm
     have l45_E:w.heap.size ≤ n45:=by rw [hn];exact E.size
     have l45_EM:w2.heap.size ≤ n45:=by rw [hn];exact EM.size
     have l45_EB:w19.heap.size ≤ n45:=by rw [hn];exact EB.size
     have m45_1:n1 < n45:=by rw [hn];exact Z7 q1
     have m45_4:n4 < n45:=by rw [hn];exact Z7 q4
     have m45_9:n9 < n45:=by rw [hn];exact Z7 q9
     have m45_44:n44 < n45:=by rw [hn];exact Z7 q44
     have o45_oo:=Lib.hid (Zo oo hn)
     replace oo:=Zc hw oo
     replace fam:=ZL fam fun _ _ _ h=>Zc hw h
     replace q1:=Z1 hw q1
     replace q4:=Z1 hw q4
     replace q9:=Z1 hw q9
     replace q44:=Z1 hw q44
     replace E:=Z2 E hw
     replace EM:=Z2 EM hw
     replace EB:=Z2 EB hw
     have q45:=Zw hw hn
     clear hw hn
     have hEs:=E.size
     have hMs:=EM.size
     have fam2:=Z3D (Z3C (b1:=B1) (L:=[(Value.slice (some ⟨n44,0,none⟩) 2 2,[(i:Int),(j:Int)])]) ⟨fun p hp=>(by obtain rfl:p = (Value.slice (some ⟨n44,0,none⟩) 2 2,[(i:Int),(j:Int)]):=(by simpa using hp);exact Z8T q44 (by omega)),List.pairwise_singleton _ _⟩ fam hflt.out hB1w) (M:=Q ++ [(Value.slice (some ⟨n44,0,none⟩) 2 2,[(i:Int),(j:Int)])]) List.perm_append_comm
     clear fam EB
     have fam:=fam2
     clear fam2
     refine Z27 F rfl (by decide) rfl (Z0T rfl (B0) (e:=29) (size:=1) (bytes:=24) Try.underlying50 (by kernel_rfl) (by decide) (F.at rfl) oo (F.at rfl) q45 rfl (by simp [Value.oneCell']) (by omega) (by omega) (by omega)) ?_;clear F fa;rintro fa v' w22 F ⟨hown',hg⟩
     obtain ⟨va46,vc46,rfl⟩:=Zs hown'
     replace q1:=Zb oo hg q1 (by decide)
     replace q4:=Zb oo hg q4 (by decide)
     replace q9:=Zb oo hg q9 (by decide)
     replace q44:=(hg.block n44 (Z7 q44) o44_oo.out).trans q44
     replace fam:=ZL fam fun _ _ _ h=>Zx h oo hg (by decide)
     replace E:=Zd E oo hg (by omega)
     replace EM:=Zd EM oo hg (by omega)
     replace oo:=hown'
     clear hg
     obtain ⟨P2,hP2e⟩:∃ P2,P2 = Q ++ [(Value.slice (some ⟨n44,0,none⟩) 2 2,[(i:Int),(j:Int)])]:=⟨_,rfl⟩
     have hPl3:Q.length + 1 = P2.length:=by rw [hP2e,List.length_append];rfl
     have hQ3:P2.map (·.2) = (Z1Y (bdV t 0) t.A.toNat i ++ Z1Q (bdV t 0) i (j + 1)).map prL:=by rw [hP2e,List.map_append,hQ,hfx,← List.append_assoc,List.map_append (l₂:=[_])];rfl
     rw [show Q.map (·.1) ++ [Value.slice (some ⟨n44,0,none⟩) 2 2] = P2.map (·.1) by rw [hP2e,List.map_append];rfl,hPl3] at oo
     rw [hPl3] at F
     rw [← hP2e] at fam
     refine F.as ?_;clear F fa;intro fa F
     refine wpList_nil ?_
     refine hK15 _ _ ?_
     clear hK15
     refine wp_region_lit ?_
     refine F.mv ?_;clear F fa;intro fa F
     refine F.vl (Z0F rfl (F.at rfl) (ev_c fa _) (by omega) (by omega)) ?_;clear F fa;intro fa F
     refine F.as ?_;clear F fa;intro fa F
     refine wpList_nil ?_
     show _ ∧ _
     exact ⟨by omega,_,⟨_,_,_,rfl,E,EM,q1,q4,oo,fam,hQ3⟩,F.sub (.c 6 rfl (.c 8 rfl (.c 1 rfl (.c 4 rfl (.c 7 rfl .n)))))⟩
    ·skip
     have hfx:=Za5 (m:=bdV t 0) (s:=i) (a:=j) hc40
     have hQ3:Q.map (·.2) = (Z1Y (bdV t 0) t.A.toNat i ++ Z1Q (bdV t 0) i (j + 1)).map prL:=by rw [hfx];exact hQ
     refine wp_skip ?_
     refine hK15 _ _ ?_
     clear hK15
     refine wp_region_lit ?_
     refine F.mv ?_;clear F fa;intro fa F
     refine F.vl (Z0F rfl (F.at rfl) (ev_c fa _) (by omega) (by omega)) ?_;clear F fa;intro fa F
     refine F.as ?_;clear F fa;intro fa F
     refine wpList_nil ?_
     show _ ∧ _
     exact ⟨by omega,_,⟨_,_,_,rfl,E,EM,q1,q4,oo,fam,hQ3⟩,F.sub (.c 6 rfl (.c 8 rfl (.c 1 rfl (.c 4 rfl (.c 7 rfl .n)))))⟩
   ·skip
    refine wp_exit ?_
    obtain rfl:j = t.A.toNat:=by omega
    have hO2:Q.map (·.2) = (Z1Y (bdV t 0) t.A.toNat (i + 1)).map prL:=hQ
    refine hK11 _ _ ?_
    clear hK11
    refine wp_region_lit ?_
    refine F.mv ?_;clear F fa;intro fa F
    refine F.vl (Z0F rfl (F.at rfl) (ev_c fa _) (by omega) (by omega)) ?_;clear F fa;intro fa F
    refine F.as ?_;clear F fa;intro fa F
    refine wpList_nil ?_
    show _ ∧ _
    exact ⟨by omega,_,⟨_,_,_,rfl,E,EM,q1,q4,oo,fam,hO2⟩,F.sub (.c 6 rfl (.c 7 rfl (.c 1 rfl (.c 4 rfl .n))))⟩
  ·skip
   refine wp_exit ?_
   obtain rfl:i = t.S.toNat:=by omega
   refine hK7 _ _ ?_
   clear hK7
   refine wp_seq_k fun K18 hK18=>?_
   refine wp_region_lit ?_
   refine F.mv ?_;clear F fa;intro fa F
   refine F.as ?_;clear F fa;intro fa F
   refine F.vl (Z8 rfl (ev_c fa _)) ?_;clear F fa;intro fa F
   refine wpList_nil ?_
   refine hK18 _ _ ?_
   clear hK18
   refine wp_ret ?_
   (try simp only [Exit.inBlock,Exit.then])
   refine rt_v F (rs_2 F rfl rfl rfl) ?_
   exact ⟨O,va2,vc2,by rw [fixE,Z0G,h0],by rw [fixL,if_pos (by rw [fixE,Z0G];exact h0)];exact hO,⟨Z1J oo rfl,fun p hp=>Z5K fam hp⟩,E⟩
end Go.Proofs.Ytholfdgebdlgjaa
