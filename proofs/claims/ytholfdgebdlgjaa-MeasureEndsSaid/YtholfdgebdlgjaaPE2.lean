/- Parts of a proof: Chk, Opn, Own. No conditions. -/
import Derived.Laws.AppendOwn
import Derived.Test.YtholfdgebdlgjaaPE1
set_option linter.unusedVariables false
set_option linter.unusedSimpArgs false
namespace Go.Proofs.Ytholfdgebdlgjaa
open Go.RowKit
def lnkE (S A s a o h lo hi:Int):Int:=ZU [Z0h s S,Z0h o S,Z0h a A,Z0h h A,if s = o ∧ a = h then 4 else 0,Z1n lo hi (-200) 200]
set_option maxHeartbeats 2000000 in
theorem Z5m (S A T bl bm pl pm sl:Int) (vg vr vl:Value) (s a o h lo hi:Int) (w:World) (h1:-1000000 ≤ S) (h2:S ≤ 1000000) (h3:-1000000 ≤ A) (h4:A ≤ 1000000) :
  Calls Try.prog 86 #[.agg #[.int .i64 S,.int .i64 A,.int .i64 T,.int .i64 bl,.int .i64 bm,.int .i64 pl,.int .i64 pm,.int .i64 sl,vg,vr,vl],.agg #[.int .i64 s,.int .i64 a,.int .i64 o,.int .i64 h,.int .i64 lo,.int .i64 hi]] w fun e w'=>e = .returned (.int .i64 (lnkE S A s a o h lo hi)) ∧ Ext [] w w':=by
 have E:Ext [] w w:=Ext.refl _ _
 have e4:s = o ∧ a = h → lnkE S A s a o h lo hi = ZU [Z0h s S,Z0h o S,Z0h a A,Z0h h A,4,Z1n lo hi (-200) 200]:=fun c=>by rw [lnkE,if_pos c]
 have e0:¬ (s = o ∧ a = h) → lnkE S A s a o h lo hi = ZU [Z0h s S,Z0h o S,Z0h a A,Z0h h A,0,Z1n lo hi (-200) 200]:=fun c=>by rw [lnkE,if_neg c]
 by_cases c1:s = o
 ·by_cases c2:a = h
  ·have HE:=Lib.hid (e4 ⟨c1,c2⟩)
   clear e4 e0
   go_enter Try.func86,Try.ntmps86
   go_upto_region 0 with (fail)
   refine wp_region_lit ?_
   refine Zy rfl rfl (Z0z (v:=.agg _) rfl rfl) (by simp only [ls,lz];exact rfl) fun w1 hw=>?_
   obtain ⟨n2,hn⟩:∃ n,n = w.heap.size:=⟨_,rfl⟩
   rw [← hn]
   have l2:w.heap.size ≤ n2:=by rw [hn];exact E.size
   have q2:=Zr hw hn
   replace E:=Z2 E hw
   clear hw hn
   refine Zy rfl rfl (Z0z (v:=.agg _) rfl rfl) (by simp only [ls,lz];exact rfl) fun w2 hw=>?_
   obtain ⟨n3,hn⟩:∃ n,n = w1.heap.size:=⟨_,rfl⟩
   rw [← hn]
   have l3:w.heap.size ≤ n3:=by rw [hn];exact E.size
   have m3_2:n2 < n3:=by rw [hn];exact Z7 q2
   replace q2:=Z1 hw q2
   have q3:=Zr hw hn
   replace E:=Z2 E hw
   clear hw hn
   refine Z3 rfl rfl (Z8 (v:=.int .i64 _) rfl rfl) (by simp only [ls,lz];exact rfl) ?_
   refine wpList_nil ?_
   have c3_0:=(Z0 q3 0).trans rfl
   have c3_1:=(Z0 q3 1).trans rfl
   have c3_2:=(Z0 q3 2).trans rfl
   have c3_3:=(Z0 q3 3).trans rfl
   go_upto_region 4 with (fail)
   clear c3_0 c3_1 c3_2 c3_3
   go_upto_region 4 with (fail)
   refine Z11 (Ext [] w2) follows fun w3 hh eS=>?_
   have q2_:=q2
   have q3_:=q3
   replace q2:=Zn hh q2
   replace q3:=Zn hh q3
   replace E:=Z4 E eS
   refine Zf (i:=0) rfl (by kernel_rfl) (by kernel_rfl) (by kernel_rfl) (fun _ _ _ h=>h) rfl rfl (fun w' hS=>Z9 rfl rfl Try.underlying75 rfl (n:=0) (sz:=1) rfl (by kernel_rfl) (by decide)) eS (by simp only [ls,lz];exact rfl) ?_
   refine Zf (i:=1) rfl (by kernel_rfl) (by kernel_rfl) (by kernel_rfl) (fun _ _ _ h=>h) rfl rfl (fun w' hS=>Zh rfl rfl Try.underlying3 rfl ((Z0 (hS.keep q3_ (by simp)) 0).trans (get0))) eS (by simp only [ls,lz];exact rfl) ?_
   refine Zf (i:=2) rfl (by kernel_rfl) (by kernel_rfl) (by kernel_rfl) (fun _ _ _ h=>h) rfl rfl (fun w' hS=>Z9 rfl rfl Try.underlying28 rfl (n:=0) (sz:=1) rfl (by kernel_rfl) (by decide)) eS (by simp only [ls,lz];exact rfl) ?_
   refine Zf (i:=3) rfl (by kernel_rfl) (by kernel_rfl) (by kernel_rfl) (fun _ _ _ h=>h) rfl rfl (fun w' hS=>Zh rfl rfl Try.underlying3 rfl ((Z0 (hS.keep q2_ (by simp)) 0).trans (get0))) eS (by simp only [ls,lz];exact rfl) ?_
   refine Zf (i:=5) rfl (by kernel_rfl) (by kernel_rfl) (by kernel_rfl) (fun _ _ _ h=>h) rfl rfl (fun w' hS=>Z9 rfl rfl Try.underlying75 rfl (n:=2) (sz:=1) rfl (by kernel_rfl) (by decide)) eS (by simp only [ls,lz];exact rfl) ?_
   refine Zf (i:=6) rfl (by kernel_rfl) (by kernel_rfl) (by kernel_rfl) (fun _ _ _ h=>h) rfl rfl (fun w' hS=>Zh rfl rfl Try.underlying3 rfl ((Z0 (hS.keep q3_ (by simp)) 2).trans (getS (getS (get0))))) eS (by simp only [ls,lz];exact rfl) ?_
   refine Zf (i:=7) rfl (by kernel_rfl) (by kernel_rfl) (by kernel_rfl) (fun _ _ _ h=>h) rfl rfl (fun w' hS=>Z9 rfl rfl Try.underlying28 rfl (n:=0) (sz:=1) rfl (by kernel_rfl) (by decide)) eS (by simp only [ls,lz];exact rfl) ?_
   refine Zf (i:=8) rfl (by kernel_rfl) (by kernel_rfl) (by kernel_rfl) (fun _ _ _ h=>h) rfl rfl (fun w' hS=>Zh rfl rfl Try.underlying3 rfl ((Z0 (hS.keep q2_ (by simp)) 0).trans (get0))) eS (by simp only [ls,lz];exact rfl) ?_
   refine Zf (i:=10) rfl (by kernel_rfl) (by kernel_rfl) (by kernel_rfl) (fun _ _ _ h=>h) rfl rfl (fun w' hS=>Z9 rfl rfl Try.underlying75 rfl (n:=1) (sz:=1) rfl (by kernel_rfl) (by decide)) eS (by simp only [ls,lz];exact rfl) ?_
   refine Zf (i:=11) rfl (by kernel_rfl) (by kernel_rfl) (by kernel_rfl) (fun _ _ _ h=>h) rfl rfl (fun w' hS=>Zh rfl rfl Try.underlying3 rfl ((Z0 (hS.keep q3_ (by simp)) 1).trans (getS (get0)))) eS (by simp only [ls,lz];exact rfl) ?_
   refine Zf (i:=12) rfl (by kernel_rfl) (by kernel_rfl) (by kernel_rfl) (fun _ _ _ h=>h) rfl rfl (fun w' hS=>Z9 rfl rfl Try.underlying28 rfl (n:=1) (sz:=1) rfl (by kernel_rfl) (by decide)) eS (by simp only [ls,lz];exact rfl) ?_
   refine Zf (i:=13) rfl (by kernel_rfl) (by kernel_rfl) (by kernel_rfl) (fun _ _ _ h=>h) rfl rfl (fun w' hS=>Zh rfl rfl Try.underlying3 rfl ((Z0 (hS.keep q2_ (by simp)) 1).trans (getS (get0)))) eS (by simp only [ls,lz];exact rfl) ?_
   refine Zf (i:=15) rfl (by kernel_rfl) (by kernel_rfl) (by kernel_rfl) (fun _ _ _ h=>h) rfl rfl (fun w' hS=>Z9 rfl rfl Try.underlying75 rfl (n:=3) (sz:=1) rfl (by kernel_rfl) (by decide)) eS (by simp only [ls,lz];exact rfl) ?_
   refine Zf (i:=16) rfl (by kernel_rfl) (by kernel_rfl) (by kernel_rfl) (fun _ _ _ h=>h) rfl rfl (fun w' hS=>Zh rfl rfl Try.underlying3 rfl ((Z0 (hS.keep q3_ (by simp)) 3).trans (getS (getS (getS (get0)))))) eS (by simp only [ls,lz];exact rfl) ?_
   refine Zf (i:=17) rfl (by kernel_rfl) (by kernel_rfl) (by kernel_rfl) (fun _ _ _ h=>h) rfl rfl (fun w' hS=>Z9 rfl rfl Try.underlying28 rfl (n:=1) (sz:=1) rfl (by kernel_rfl) (by decide)) eS (by simp only [ls,lz];exact rfl) ?_
   refine Zf (i:=18) rfl (by kernel_rfl) (by kernel_rfl) (by kernel_rfl) (fun _ _ _ h=>h) rfl rfl (fun w' hS=>Zh rfl rfl Try.underlying3 rfl ((Z0 (hS.keep q2_ (by simp)) 1).trans (getS (get0)))) eS (by simp only [ls,lz];exact rfl) ?_
   refine Zf (i:=20) rfl (by kernel_rfl) (by kernel_rfl) (by kernel_rfl) (fun _ _ _ h=>h) rfl rfl (fun w' hS=>Zi (v:=.int .i64 _) rfl rfl) eS (by simp only [ls,lz];exact rfl) ?_
   refine Zf (i:=21) rfl (by kernel_rfl) (by kernel_rfl) (by kernel_rfl) (fun _ _ _ h=>h) rfl rfl (fun w' hS=>Z9 rfl rfl Try.underlying75 rfl (n:=4) (sz:=2) rfl (by kernel_rfl) (by decide)) eS (by simp only [ls,lz];exact rfl) ?_
   refine Zf (i:=22) rfl (by kernel_rfl) (by kernel_rfl) (by kernel_rfl) (fun _ _ _ h=>h) rfl rfl (fun w' hS=>ZP rfl rfl Try.underlying23 rfl (by kernel_rfl) (Z0I (n:=2) (hS.keep q3_ (by simp)) rfl (midS (getS (getS (getS (getS (get0))))) (midS (getS (getS (getS (getS (getS (get0)))))) mid0)))) eS (by simp only [ls,lz];exact rfl) ?_
   refine Z0k (i:=4) rfl (by kernel_rfl) rfl rfl (by kernel_rfl) (Z15 s S _ (by omega) (by omega)) fun e w' hR=>?_
   obtain ⟨rfl,rfl⟩:=hR
   refine ⟨_,_,rfl,(by simp only [ls,lz];exact rfl),eS,?_⟩
   refine Z0k (i:=9) rfl (by kernel_rfl) rfl rfl (by kernel_rfl) (Z15 o S _ (by omega) (by omega)) fun e w' hR=>?_
   obtain ⟨rfl,rfl⟩:=hR
   refine ⟨_,_,rfl,(by simp only [ls,lz];exact rfl),eS,?_⟩
   refine Z0k (i:=14) rfl (by kernel_rfl) rfl rfl (by kernel_rfl) (Z15 a A _ (by omega) (by omega)) fun e w' hR=>?_
   obtain ⟨rfl,rfl⟩:=hR
   refine ⟨_,_,rfl,(by simp only [ls,lz];exact rfl),eS,?_⟩
   refine Z0k (i:=19) rfl (by kernel_rfl) rfl rfl (by kernel_rfl) (Z15 h A _ (by omega) (by omega)) fun e w' hR=>?_
   obtain ⟨rfl,rfl⟩:=hR
   refine ⟨_,_,rfl,(by simp only [ls,lz];exact rfl),eS,?_⟩
   refine Z0k (i:=23) rfl (by kernel_rfl) rfl rfl (by kernel_rfl) (Z3d lo hi (-200) 200 _) fun e w8 hR=>?_
   obtain ⟨rfl,hb⟩:=hR
   replace eS:=eS.nil (Ext.of_below hb)
   replace q2:=(Ext.of_below hb).keep0 q2
   replace q3:=(Ext.of_below hb).keep0 q3
   replace E:=Z4 E (Ext.of_below hb)
   refine ⟨_,_,rfl,(by simp only [ls,lz];exact rfl),eS,?_⟩
   refine Z4k (i:=24) rfl (by kernel_rfl) rfl rfl (ZE rfl Try.underlying169 (size:=1) (by kernel_rfl) (by decide) (by decide) Try.zeroValue37 (cells:=#[.int .i64 (Z0h s S),.int .i64 (Z0h o S),.int .i64 (Z0h a A),.int .i64 (Z0h h A),.int .i64 4,.int .i64 (Z1n lo hi (-200) 200)]) (by kernel_rfl)) (by simp only [ls,lz];exact rfl) fun w9 hw=>?_
   replace eS:=Z2 eS hw
   obtain ⟨n42,hn⟩:∃ n,n = w8.heap.size:=⟨_,rfl⟩
   rw [← hn]
   have l42:w.heap.size ≤ n42:=by rw [hn];exact E.size
   have m42_2:n2 < n42:=by rw [hn];exact Z7 q2
   have m42_3:n3 < n42:=by rw [hn];exact Z7 q3
   replace q2:=Z1 hw q2
   replace q3:=Z1 hw q3
   have q42:=Zw hw hn
   replace E:=Z2 E hw
   clear hw hn
   refine ⟨eS,?_⟩
   refine Z0k (i:=25) rfl (by kernel_rfl) rfl rfl (by kernel_rfl) (Z2N [Z0h s S,Z0h o S,Z0h a A,Z0h h A,4,Z1n lo hi (-200) 200] _ 37 _ _ rfl (by simp) (by simp) q42) fun e w' hR=>?_
   obtain ⟨rfl,rfl⟩:=hR
   refine ⟨_,_,rfl,(by simp only [ls,lz];exact rfl),eS,?_⟩
   refine Zf (i:=26) rfl (by kernel_rfl) (by kernel_rfl) (by kernel_rfl) (fun _ _ _ h=>h) rfl rfl (fun w' hS=>Z8 (v:=.int .i64 _) rfl rfl) eS (by simp only [ls,lz];exact rfl) ?_
   refine wpAnyH_done (by kernel_rfl) ?_ _
   clear q2_ q3_ hh eS
   go_wp2
   go_ret
   exact ⟨ZM HE.out.symm,E⟩
  ·have HE:=Lib.hid (e0 (fun c=>c2 c.2))
   clear e4 e0
   go_enter Try.func86,Try.ntmps86
   go_upto_region 0 with (fail)
   refine wp_region_lit ?_
   refine Zy rfl rfl (Z0z (v:=.agg _) rfl rfl) (by simp only [ls,lz];exact rfl) fun w1 hw=>?_
   obtain ⟨n2,hn⟩:∃ n,n = w.heap.size:=⟨_,rfl⟩
   rw [← hn]
   have l2:w.heap.size ≤ n2:=by rw [hn];exact E.size
   have q2:=Zr hw hn
   replace E:=Z2 E hw
   clear hw hn
   refine Zy rfl rfl (Z0z (v:=.agg _) rfl rfl) (by simp only [ls,lz];exact rfl) fun w2 hw=>?_
   obtain ⟨n3,hn⟩:∃ n,n = w1.heap.size:=⟨_,rfl⟩
   rw [← hn]
   have l3:w.heap.size ≤ n3:=by rw [hn];exact E.size
   have m3_2:n2 < n3:=by rw [hn];exact Z7 q2
   replace q2:=Z1 hw q2
   have q3:=Zr hw hn
   replace E:=Z2 E hw
   clear hw hn
   refine Z3 rfl rfl (Z8 (v:=.int .i64 _) rfl rfl) (by simp only [ls,lz];exact rfl) ?_
   refine wpList_nil ?_
   have c3_0:=(Z0 q3 0).trans rfl
   have c3_1:=(Z0 q3 1).trans rfl
   have c3_2:=(Z0 q3 2).trans rfl
   have c3_3:=(Z0 q3 3).trans rfl
   go_upto_region 4 with (fail)
   clear c3_0 c3_1 c3_2 c3_3
   go_upto_region 4 with (fail)
   refine Z11 (Ext [] w2) follows fun w3 hh eS=>?_
   have q2_:=q2
   have q3_:=q3
   replace q2:=Zn hh q2
   replace q3:=Zn hh q3
   replace E:=Z4 E eS
   refine Zf (i:=0) rfl (by kernel_rfl) (by kernel_rfl) (by kernel_rfl) (fun _ _ _ h=>h) rfl rfl (fun w' hS=>Z9 rfl rfl Try.underlying75 rfl (n:=0) (sz:=1) rfl (by kernel_rfl) (by decide)) eS (by simp only [ls,lz];exact rfl) ?_
   refine Zf (i:=1) rfl (by kernel_rfl) (by kernel_rfl) (by kernel_rfl) (fun _ _ _ h=>h) rfl rfl (fun w' hS=>Zh rfl rfl Try.underlying3 rfl ((Z0 (hS.keep q3_ (by simp)) 0).trans (get0))) eS (by simp only [ls,lz];exact rfl) ?_
   refine Zf (i:=2) rfl (by kernel_rfl) (by kernel_rfl) (by kernel_rfl) (fun _ _ _ h=>h) rfl rfl (fun w' hS=>Z9 rfl rfl Try.underlying28 rfl (n:=0) (sz:=1) rfl (by kernel_rfl) (by decide)) eS (by simp only [ls,lz];exact rfl) ?_
   refine Zf (i:=3) rfl (by kernel_rfl) (by kernel_rfl) (by kernel_rfl) (fun _ _ _ h=>h) rfl rfl (fun w' hS=>Zh rfl rfl Try.underlying3 rfl ((Z0 (hS.keep q2_ (by simp)) 0).trans (get0))) eS (by simp only [ls,lz];exact rfl) ?_
   refine Zf (i:=5) rfl (by kernel_rfl) (by kernel_rfl) (by kernel_rfl) (fun _ _ _ h=>h) rfl rfl (fun w' hS=>Z9 rfl rfl Try.underlying75 rfl (n:=2) (sz:=1) rfl (by kernel_rfl) (by decide)) eS (by simp only [ls,lz];exact rfl) ?_
   refine Zf (i:=6) rfl (by kernel_rfl) (by kernel_rfl) (by kernel_rfl) (fun _ _ _ h=>h) rfl rfl (fun w' hS=>Zh rfl rfl Try.underlying3 rfl ((Z0 (hS.keep q3_ (by simp)) 2).trans (getS (getS (get0))))) eS (by simp only [ls,lz];exact rfl) ?_
   refine Zf (i:=7) rfl (by kernel_rfl) (by kernel_rfl) (by kernel_rfl) (fun _ _ _ h=>h) rfl rfl (fun w' hS=>Z9 rfl rfl Try.underlying28 rfl (n:=0) (sz:=1) rfl (by kernel_rfl) (by decide)) eS (by simp only [ls,lz];exact rfl) ?_
   refine Zf (i:=8) rfl (by kernel_rfl) (by kernel_rfl) (by kernel_rfl) (fun _ _ _ h=>h) rfl rfl (fun w' hS=>Zh rfl rfl Try.underlying3 rfl ((Z0 (hS.keep q2_ (by simp)) 0).trans (get0))) eS (by simp only [ls,lz];exact rfl) ?_
   refine Zf (i:=10) rfl (by kernel_rfl) (by kernel_rfl) (by kernel_rfl) (fun _ _ _ h=>h) rfl rfl (fun w' hS=>Z9 rfl rfl Try.underlying75 rfl (n:=1) (sz:=1) rfl (by kernel_rfl) (by decide)) eS (by simp only [ls,lz];exact rfl) ?_
   refine Zf (i:=11) rfl (by kernel_rfl) (by kernel_rfl) (by kernel_rfl) (fun _ _ _ h=>h) rfl rfl (fun w' hS=>Zh rfl rfl Try.underlying3 rfl ((Z0 (hS.keep q3_ (by simp)) 1).trans (getS (get0)))) eS (by simp only [ls,lz];exact rfl) ?_
   refine Zf (i:=12) rfl (by kernel_rfl) (by kernel_rfl) (by kernel_rfl) (fun _ _ _ h=>h) rfl rfl (fun w' hS=>Z9 rfl rfl Try.underlying28 rfl (n:=1) (sz:=1) rfl (by kernel_rfl) (by decide)) eS (by simp only [ls,lz];exact rfl) ?_
   refine Zf (i:=13) rfl (by kernel_rfl) (by kernel_rfl) (by kernel_rfl) (fun _ _ _ h=>h) rfl rfl (fun w' hS=>Zh rfl rfl Try.underlying3 rfl ((Z0 (hS.keep q2_ (by simp)) 1).trans (getS (get0)))) eS (by simp only [ls,lz];exact rfl) ?_
   refine Zf (i:=15) rfl (by kernel_rfl) (by kernel_rfl) (by kernel_rfl) (fun _ _ _ h=>h) rfl rfl (fun w' hS=>Z9 rfl rfl Try.underlying75 rfl (n:=3) (sz:=1) rfl (by kernel_rfl) (by decide)) eS (by simp only [ls,lz];exact rfl) ?_
   refine Zf (i:=16) rfl (by kernel_rfl) (by kernel_rfl) (by kernel_rfl) (fun _ _ _ h=>h) rfl rfl (fun w' hS=>Zh rfl rfl Try.underlying3 rfl ((Z0 (hS.keep q3_ (by simp)) 3).trans (getS (getS (getS (get0)))))) eS (by simp only [ls,lz];exact rfl) ?_
   refine Zf (i:=17) rfl (by kernel_rfl) (by kernel_rfl) (by kernel_rfl) (fun _ _ _ h=>h) rfl rfl (fun w' hS=>Z9 rfl rfl Try.underlying28 rfl (n:=1) (sz:=1) rfl (by kernel_rfl) (by decide)) eS (by simp only [ls,lz];exact rfl) ?_
   refine Zf (i:=18) rfl (by kernel_rfl) (by kernel_rfl) (by kernel_rfl) (fun _ _ _ h=>h) rfl rfl (fun w' hS=>Zh rfl rfl Try.underlying3 rfl ((Z0 (hS.keep q2_ (by simp)) 1).trans (getS (get0)))) eS (by simp only [ls,lz];exact rfl) ?_
   refine Zf (i:=20) rfl (by kernel_rfl) (by kernel_rfl) (by kernel_rfl) (fun _ _ _ h=>h) rfl rfl (fun w' hS=>Zi (v:=.int .i64 _) rfl rfl) eS (by simp only [ls,lz];exact rfl) ?_
   refine Zf (i:=21) rfl (by kernel_rfl) (by kernel_rfl) (by kernel_rfl) (fun _ _ _ h=>h) rfl rfl (fun w' hS=>Z9 rfl rfl Try.underlying75 rfl (n:=4) (sz:=2) rfl (by kernel_rfl) (by decide)) eS (by simp only [ls,lz];exact rfl) ?_
   refine Zf (i:=22) rfl (by kernel_rfl) (by kernel_rfl) (by kernel_rfl) (fun _ _ _ h=>h) rfl rfl (fun w' hS=>ZP rfl rfl Try.underlying23 rfl (by kernel_rfl) (Z0I (n:=2) (hS.keep q3_ (by simp)) rfl (midS (getS (getS (getS (getS (get0))))) (midS (getS (getS (getS (getS (getS (get0)))))) mid0)))) eS (by simp only [ls,lz];exact rfl) ?_
   refine Z0k (i:=4) rfl (by kernel_rfl) rfl rfl (by kernel_rfl) (Z15 s S _ (by omega) (by omega)) fun e w' hR=>?_
   obtain ⟨rfl,rfl⟩:=hR
   refine ⟨_,_,rfl,(by simp only [ls,lz];exact rfl),eS,?_⟩
   refine Z0k (i:=9) rfl (by kernel_rfl) rfl rfl (by kernel_rfl) (Z15 o S _ (by omega) (by omega)) fun e w' hR=>?_
   obtain ⟨rfl,rfl⟩:=hR
   refine ⟨_,_,rfl,(by simp only [ls,lz];exact rfl),eS,?_⟩
   refine Z0k (i:=14) rfl (by kernel_rfl) rfl rfl (by kernel_rfl) (Z15 a A _ (by omega) (by omega)) fun e w' hR=>?_
   obtain ⟨rfl,rfl⟩:=hR
   refine ⟨_,_,rfl,(by simp only [ls,lz];exact rfl),eS,?_⟩
   refine Z0k (i:=19) rfl (by kernel_rfl) rfl rfl (by kernel_rfl) (Z15 h A _ (by omega) (by omega)) fun e w' hR=>?_
   obtain ⟨rfl,rfl⟩:=hR
   refine ⟨_,_,rfl,(by simp only [ls,lz];exact rfl),eS,?_⟩
   refine Z0k (i:=23) rfl (by kernel_rfl) rfl rfl (by kernel_rfl) (Z3d lo hi (-200) 200 _) fun e w8 hR=>?_
   obtain ⟨rfl,hb⟩:=hR
   replace eS:=eS.nil (Ext.of_below hb)
   replace q2:=(Ext.of_below hb).keep0 q2
   replace q3:=(Ext.of_below hb).keep0 q3
   replace E:=Z4 E (Ext.of_below hb)
   refine ⟨_,_,rfl,(by simp only [ls,lz];exact rfl),eS,?_⟩
   refine Z4k (i:=24) rfl (by kernel_rfl) rfl rfl (ZE rfl Try.underlying169 (size:=1) (by kernel_rfl) (by decide) (by decide) Try.zeroValue37 (cells:=#[.int .i64 (Z0h s S),.int .i64 (Z0h o S),.int .i64 (Z0h a A),.int .i64 (Z0h h A),.int .i64 0,.int .i64 (Z1n lo hi (-200) 200)]) (by kernel_rfl)) (by simp only [ls,lz];exact rfl) fun w9 hw=>?_
   replace eS:=Z2 eS hw
   obtain ⟨n42,hn⟩:∃ n,n = w8.heap.size:=⟨_,rfl⟩
   rw [← hn]
   have l42:w.heap.size ≤ n42:=by rw [hn];exact E.size
   have m42_2:n2 < n42:=by rw [hn];exact Z7 q2
   have m42_3:n3 < n42:=by rw [hn];exact Z7 q3
   replace q2:=Z1 hw q2
   replace q3:=Z1 hw q3
   have q42:=Zw hw hn
   replace E:=Z2 E hw
   clear hw hn
   refine ⟨eS,?_⟩
   refine Z0k (i:=25) rfl (by kernel_rfl) rfl rfl (by kernel_rfl) (Z2N [Z0h s S,Z0h o S,Z0h a A,Z0h h A,0,Z1n lo hi (-200) 200] _ 37 _ _ rfl (by simp) (by simp) q42) fun e w' hR=>?_
   obtain ⟨rfl,rfl⟩:=hR
   refine ⟨_,_,rfl,(by simp only [ls,lz];exact rfl),eS,?_⟩
   refine Zf (i:=26) rfl (by kernel_rfl) (by kernel_rfl) (by kernel_rfl) (fun _ _ _ h=>h) rfl rfl (fun w' hS=>Z8 (v:=.int .i64 _) rfl rfl) eS (by simp only [ls,lz];exact rfl) ?_
   refine wpAnyH_done (by kernel_rfl) ?_ _
   clear q2_ q3_ hh eS
   go_wp2
   go_ret
   exact ⟨ZM HE.out.symm,E⟩
 ·have HE:=Lib.hid (e0 (fun c=>c1 c.1))
  clear e4 e0
  go_enter Try.func86,Try.ntmps86
  go_upto_region 0 with (fail)
  refine wp_region_lit ?_
  refine Zy rfl rfl (Z0z (v:=.agg _) rfl rfl) (by simp only [ls,lz];exact rfl) fun w1 hw=>?_
  obtain ⟨n2,hn⟩:∃ n,n = w.heap.size:=⟨_,rfl⟩
  rw [← hn]
  have l2:w.heap.size ≤ n2:=by rw [hn];exact E.size
  have q2:=Zr hw hn
  replace E:=Z2 E hw
  clear hw hn
  refine Zy rfl rfl (Z0z (v:=.agg _) rfl rfl) (by simp only [ls,lz];exact rfl) fun w2 hw=>?_
  obtain ⟨n3,hn⟩:∃ n,n = w1.heap.size:=⟨_,rfl⟩
  rw [← hn]
  have l3:w.heap.size ≤ n3:=by rw [hn];exact E.size
  have m3_2:n2 < n3:=by rw [hn];exact Z7 q2
  replace q2:=Z1 hw q2
  have q3:=Zr hw hn
  replace E:=Z2 E hw
  clear hw hn
  refine Z3 rfl rfl (Z8 (v:=.int .i64 _) rfl rfl) (by simp only [ls,lz];exact rfl) ?_
  refine wpList_nil ?_
  have c3_0:=(Z0 q3 0).trans rfl
  have c3_1:=(Z0 q3 1).trans rfl
  have c3_2:=(Z0 q3 2).trans rfl
  have c3_3:=(Z0 q3 3).trans rfl
  go_upto_region 4 with (fail)
  clear c3_0 c3_1 c3_2 c3_3
  go_upto_region 4 with (fail)
  refine Z11 (Ext [] w2) follows fun w3 hh eS=>?_
  have q2_:=q2
  have q3_:=q3
  replace q2:=Zn hh q2
  replace q3:=Zn hh q3
  replace E:=Z4 E eS
  refine Zf (i:=0) rfl (by kernel_rfl) (by kernel_rfl) (by kernel_rfl) (fun _ _ _ h=>h) rfl rfl (fun w' hS=>Z9 rfl rfl Try.underlying75 rfl (n:=0) (sz:=1) rfl (by kernel_rfl) (by decide)) eS (by simp only [ls,lz];exact rfl) ?_
  refine Zf (i:=1) rfl (by kernel_rfl) (by kernel_rfl) (by kernel_rfl) (fun _ _ _ h=>h) rfl rfl (fun w' hS=>Zh rfl rfl Try.underlying3 rfl ((Z0 (hS.keep q3_ (by simp)) 0).trans (get0))) eS (by simp only [ls,lz];exact rfl) ?_
  refine Zf (i:=2) rfl (by kernel_rfl) (by kernel_rfl) (by kernel_rfl) (fun _ _ _ h=>h) rfl rfl (fun w' hS=>Z9 rfl rfl Try.underlying28 rfl (n:=0) (sz:=1) rfl (by kernel_rfl) (by decide)) eS (by simp only [ls,lz];exact rfl) ?_
  refine Zf (i:=3) rfl (by kernel_rfl) (by kernel_rfl) (by kernel_rfl) (fun _ _ _ h=>h) rfl rfl (fun w' hS=>Zh rfl rfl Try.underlying3 rfl ((Z0 (hS.keep q2_ (by simp)) 0).trans (get0))) eS (by simp only [ls,lz];exact rfl) ?_
  refine Zf (i:=5) rfl (by kernel_rfl) (by kernel_rfl) (by kernel_rfl) (fun _ _ _ h=>h) rfl rfl (fun w' hS=>Z9 rfl rfl Try.underlying75 rfl (n:=2) (sz:=1) rfl (by kernel_rfl) (by decide)) eS (by simp only [ls,lz];exact rfl) ?_
  refine Zf (i:=6) rfl (by kernel_rfl) (by kernel_rfl) (by kernel_rfl) (fun _ _ _ h=>h) rfl rfl (fun w' hS=>Zh rfl rfl Try.underlying3 rfl ((Z0 (hS.keep q3_ (by simp)) 2).trans (getS (getS (get0))))) eS (by simp only [ls,lz];exact rfl) ?_
  refine Zf (i:=7) rfl (by kernel_rfl) (by kernel_rfl) (by kernel_rfl) (fun _ _ _ h=>h) rfl rfl (fun w' hS=>Z9 rfl rfl Try.underlying28 rfl (n:=0) (sz:=1) rfl (by kernel_rfl) (by decide)) eS (by simp only [ls,lz];exact rfl) ?_
  refine Zf (i:=8) rfl (by kernel_rfl) (by kernel_rfl) (by kernel_rfl) (fun _ _ _ h=>h) rfl rfl (fun w' hS=>Zh rfl rfl Try.underlying3 rfl ((Z0 (hS.keep q2_ (by simp)) 0).trans (get0))) eS (by simp only [ls,lz];exact rfl) ?_
  refine Zf (i:=10) rfl (by kernel_rfl) (by kernel_rfl) (by kernel_rfl) (fun _ _ _ h=>h) rfl rfl (fun w' hS=>Z9 rfl rfl Try.underlying75 rfl (n:=1) (sz:=1) rfl (by kernel_rfl) (by decide)) eS (by simp only [ls,lz];exact rfl) ?_
  refine Zf (i:=11) rfl (by kernel_rfl) (by kernel_rfl) (by kernel_rfl) (fun _ _ _ h=>h) rfl rfl (fun w' hS=>Zh rfl rfl Try.underlying3 rfl ((Z0 (hS.keep q3_ (by simp)) 1).trans (getS (get0)))) eS (by simp only [ls,lz];exact rfl) ?_
  refine Zf (i:=12) rfl (by kernel_rfl) (by kernel_rfl) (by kernel_rfl) (fun _ _ _ h=>h) rfl rfl (fun w' hS=>Z9 rfl rfl Try.underlying28 rfl (n:=1) (sz:=1) rfl (by kernel_rfl) (by decide)) eS (by simp only [ls,lz];exact rfl) ?_
  refine Zf (i:=13) rfl (by kernel_rfl) (by kernel_rfl) (by kernel_rfl) (fun _ _ _ h=>h) rfl rfl (fun w' hS=>Zh rfl rfl Try.underlying3 rfl ((Z0 (hS.keep q2_ (by simp)) 1).trans (getS (get0)))) eS (by simp only [ls,lz];exact rfl) ?_
  refine Zf (i:=15) rfl (by kernel_rfl) (by kernel_rfl) (by kernel_rfl) (fun _ _ _ h=>h) rfl rfl (fun w' hS=>Z9 rfl rfl Try.underlying75 rfl (n:=3) (sz:=1) rfl (by kernel_rfl) (by decide)) eS (by simp only [ls,lz];exact rfl) ?_
  refine Zf (i:=16) rfl (by kernel_rfl) (by kernel_rfl) (by kernel_rfl) (fun _ _ _ h=>h) rfl rfl (fun w' hS=>Zh rfl rfl Try.underlying3 rfl ((Z0 (hS.keep q3_ (by simp)) 3).trans (getS (getS (getS (get0)))))) eS (by simp only [ls,lz];exact rfl) ?_
  refine Zf (i:=17) rfl (by kernel_rfl) (by kernel_rfl) (by kernel_rfl) (fun _ _ _ h=>h) rfl rfl (fun w' hS=>Z9 rfl rfl Try.underlying28 rfl (n:=1) (sz:=1) rfl (by kernel_rfl) (by decide)) eS (by simp only [ls,lz];exact rfl) ?_
  refine Zf (i:=18) rfl (by kernel_rfl) (by kernel_rfl) (by kernel_rfl) (fun _ _ _ h=>h) rfl rfl (fun w' hS=>Zh rfl rfl Try.underlying3 rfl ((Z0 (hS.keep q2_ (by simp)) 1).trans (getS (get0)))) eS (by simp only [ls,lz];exact rfl) ?_
  refine Zf (i:=20) rfl (by kernel_rfl) (by kernel_rfl) (by kernel_rfl) (fun _ _ _ h=>h) rfl rfl (fun w' hS=>Zi (v:=.int .i64 _) rfl rfl) eS (by simp only [ls,lz];exact rfl) ?_
  refine Zf (i:=21) rfl (by kernel_rfl) (by kernel_rfl) (by kernel_rfl) (fun _ _ _ h=>h) rfl rfl (fun w' hS=>Z9 rfl rfl Try.underlying75 rfl (n:=4) (sz:=2) rfl (by kernel_rfl) (by decide)) eS (by simp only [ls,lz];exact rfl) ?_
  refine Zf (i:=22) rfl (by kernel_rfl) (by kernel_rfl) (by kernel_rfl) (fun _ _ _ h=>h) rfl rfl (fun w' hS=>ZP rfl rfl Try.underlying23 rfl (by kernel_rfl) (Z0I (n:=2) (hS.keep q3_ (by simp)) rfl (midS (getS (getS (getS (getS (get0))))) (midS (getS (getS (getS (getS (getS (get0)))))) mid0)))) eS (by simp only [ls,lz];exact rfl) ?_
  refine Z0k (i:=4) rfl (by kernel_rfl) rfl rfl (by kernel_rfl) (Z15 s S _ (by omega) (by omega)) fun e w' hR=>?_
  obtain ⟨rfl,rfl⟩:=hR
  refine ⟨_,_,rfl,(by simp only [ls,lz];exact rfl),eS,?_⟩
  refine Z0k (i:=9) rfl (by kernel_rfl) rfl rfl (by kernel_rfl) (Z15 o S _ (by omega) (by omega)) fun e w' hR=>?_
  obtain ⟨rfl,rfl⟩:=hR
  refine ⟨_,_,rfl,(by simp only [ls,lz];exact rfl),eS,?_⟩
  refine Z0k (i:=14) rfl (by kernel_rfl) rfl rfl (by kernel_rfl) (Z15 a A _ (by omega) (by omega)) fun e w' hR=>?_
  obtain ⟨rfl,rfl⟩:=hR
  refine ⟨_,_,rfl,(by simp only [ls,lz];exact rfl),eS,?_⟩
  refine Z0k (i:=19) rfl (by kernel_rfl) rfl rfl (by kernel_rfl) (Z15 h A _ (by omega) (by omega)) fun e w' hR=>?_
  obtain ⟨rfl,rfl⟩:=hR
  refine ⟨_,_,rfl,(by simp only [ls,lz];exact rfl),eS,?_⟩
  refine Z0k (i:=23) rfl (by kernel_rfl) rfl rfl (by kernel_rfl) (Z3d lo hi (-200) 200 _) fun e w8 hR=>?_
  obtain ⟨rfl,hb⟩:=hR
  replace eS:=eS.nil (Ext.of_below hb)
  replace q2:=(Ext.of_below hb).keep0 q2
  replace q3:=(Ext.of_below hb).keep0 q3
  replace E:=Z4 E (Ext.of_below hb)
  refine ⟨_,_,rfl,(by simp only [ls,lz];exact rfl),eS,?_⟩
  refine Z4k (i:=24) rfl (by kernel_rfl) rfl rfl (ZE rfl Try.underlying169 (size:=1) (by kernel_rfl) (by decide) (by decide) Try.zeroValue37 (cells:=#[.int .i64 (Z0h s S),.int .i64 (Z0h o S),.int .i64 (Z0h a A),.int .i64 (Z0h h A),.int .i64 0,.int .i64 (Z1n lo hi (-200) 200)]) (by kernel_rfl)) (by simp only [ls,lz];exact rfl) fun w9 hw=>?_
  replace eS:=Z2 eS hw
  obtain ⟨n42,hn⟩:∃ n,n = w8.heap.size:=⟨_,rfl⟩
  rw [← hn]
  have l42:w.heap.size ≤ n42:=by rw [hn];exact E.size
  have m42_2:n2 < n42:=by rw [hn];exact Z7 q2
  have m42_3:n3 < n42:=by rw [hn];exact Z7 q3
  replace q2:=Z1 hw q2
  replace q3:=Z1 hw q3
  have q42:=Zw hw hn
  replace E:=Z2 E hw
  clear hw hn
  refine ⟨eS,?_⟩
  refine Z0k (i:=25) rfl (by kernel_rfl) rfl rfl (by kernel_rfl) (Z2N [Z0h s S,Z0h o S,Z0h a A,Z0h h A,0,Z1n lo hi (-200) 200] _ 37 _ _ rfl (by simp) (by simp) q42) fun e w' hR=>?_
  obtain ⟨rfl,rfl⟩:=hR
  refine ⟨_,_,rfl,(by simp only [ls,lz];exact rfl),eS,?_⟩
  refine Zf (i:=26) rfl (by kernel_rfl) (by kernel_rfl) (by kernel_rfl) (fun _ _ _ h=>h) rfl rfl (fun w' hS=>Z8 (v:=.int .i64 _) rfl rfl) eS (by simp only [ls,lz];exact rfl) ?_
  refine wpAnyH_done (by kernel_rfl) ?_ _
  clear q2_ q3_ hh eS
  go_wp2
  go_ret
  exact ⟨ZM HE.out.symm,E⟩
theorem Z3A {α:Type} {w w':World} {xs:List α} {row:α → List Value} {a:Option Addr} {n cap sz:Nat} (d:α) (h:Z0E w (.slice a n cap) sz (xs.map row)) (E:Ext [] w w') {i:Nat} (hi:i < xs.length) :
  ∃ b off,(∀ m c,Value.slice a m c = .slice (some ⟨b,off,none⟩) m c) ∧ w'.rangeAt b (off + i * sz) (row (xs.getD i d)):=by
 have hne:xs.map row ≠ []:=by
  intro h;have:=congrArg List.length h;simp at this;rw [this] at hi;simp at hi
 obtain ⟨b,off,ha,hb,hr⟩:=(h.ext E (by simp)).range rfl hne
 exact ⟨b,off,fun _ _=>by rw [ha],hr i _ (by simp [hi])⟩
theorem Z1U {α:Type} {w:World} {xs:List α} {row:α → List Value} {v:Value} {sz:Nat} (h:Z0E w v sz (xs.map row)):∃ a cap,v = .slice a xs.length cap:=by
 obtain ⟨a,cap,hv,-,-⟩:=h
 exact ⟨a,cap,by simpa using hv⟩
def Z2Y (t:Tp):Int:=ZU [Z0y t.S 1 3,Z0y t.A 1 3,Z0y t.T 1 3,Z1n t.bl t.bm 20 200,Z1n t.pl t.pm (-9) 9,Z0y t.sl 0 5]
def grE (g:Int × Int):Int:=Z1n g.1 g.2 (-20) 20
def rdE (t:Tp) (r:Int × Int × Int × Int):Int:=rdgE t.S t.A t.T r.1 r.2.1 r.2.2.1 r.2.2.2
def lkE (t:Tp) (l:Int × Int × Int × Int × Int × Int):Int:=lnkE t.S t.A l.1 l.2.1 l.2.2.1 l.2.2.2.1 l.2.2.2.2.1 l.2.2.2.2.2
def Z08 (t:Tp):Int:=
 if Z2Y t ≠ 0 then Z2Y t
 else if (t.gr.length:Int) < t.S then 7
 else if t.S < (t.gr.length:Int) then 6
 else if ZU (t.gr.map grE) ≠ 0 then ZU (t.gr.map grE)
 else if 8 < t.rd.length then 6
 else if ZU (t.rd.map (rdE t)) ≠ 0 then ZU (t.rd.map (rdE t))
 else if 3 < t.lk.length then 6
 else ZU (t.lk.map (lkE t))
theorem Z1H {α:Type} {f:α → Int} {xs:List α} (d:α) {i:Nat} (hi:i < xs.length) (h0:f (xs.getD i d) = 0):ZU ((xs.map f).drop (i + 1)) = ZU ((xs.map f).drop i):=by
 refine (Z4Q _ i (by simpa using hi) ?_).symm
 simpa [List.getD_eq_getElem?_getD,hi] using h0
theorem Z24 {α:Type} {f:α → Int} {xs:List α} (d:α) {i:Nat} (hi:i < xs.length) (h0:f (xs.getD i d) ≠ 0):ZU ((xs.map f).drop i) = f (xs.getD i d):=by
 have e:(xs.map f).getD i 0 = f (xs.getD i d):=by simp [List.getD_eq_getElem?_getD,hi]
 rw [Z5d _ i (by simpa using hi) (by rw [e];exact h0),e]
theorem Z25 {α:Type} {f:α → Int} {xs:List α} {i:Nat} (hi:xs.length ≤ i) (h:ZU ((xs.map f).drop i) = ZU (xs.map f)):ZU (xs.map f) = 0:=by
 rw [← h,List.drop_of_length_le (by simpa using hi)];rfl
theorem Z18 {n lo hi:Int}:Z0y n lo hi = 0 ↔ lo ≤ n ∧ n ≤ hi:=by
 unfold Z0y
 rw [← Z3y]
 cases inB n lo hi <;> simp
theorem Z1h:∀ {es:List Int},ZU es = 0 ↔ ∀ e ∈ es,e = 0
 | []=>by simp [ZU]
 | e :: r=>by
  by_cases h:e = 0
  ·simp [ZU,h,Z1h (es:=r)]
  ·simp [ZU,h]
theorem Z3W {t:Tp} (h:Z2Y t = 0):(1 ≤ t.S ∧ t.S ≤ 3) ∧ (1 ≤ t.A ∧ t.A ≤ 3) ∧ (1 ≤ t.T ∧ t.T ≤ 3):=by
 have:=Z1h.1 h
 exact ⟨Z18.1 (this _ (by simp)),Z18.1 (this _ (by simp)),Z18.1 (this _ (by simp))⟩
set_option maxRecDepth 100000 in
set_option maxHeartbeats 2000000 in
theorem Z8a (t:Tp) (gv rv lv:Value) (w:World) (ht:IsTp w gv rv lv t) (hl1:t.gr.length ≤ 1000) (hl2:t.rd.length ≤ 1000) (hl3:t.lk.length ≤ 1000) :
  Calls Try.prog 31 #[tpV t gv rv lv] w fun e w'=>e = .returned (.int .i64 (Z08 t)) ∧ Ext [] w w':=by
 unfold tpV
 obtain ⟨ga,gcap,rfl⟩:=Z1U ht.gr
 obtain ⟨ra,rcap,rfl⟩:=Z1U ht.rd
 obtain ⟨la,lcap,rfl⟩:=Z1U ht.lk
 have E:Ext [] w w:=Ext.refl _ _
 have Ht:=Lib.hid ht;clear ht
 go_enter Try.func31,Try.ntmps31
 go_upto_region 0 with (fail)
 refine wp_region_lit ?_
 refine Zy rfl rfl (Z0z (v:=.agg _) rfl rfl) (by simp only [ls,lz];exact rfl) fun w1 hw=>?_
 obtain ⟨n1,hn⟩:∃ n,n = w.heap.size:=⟨_,rfl⟩
 rw [← hn]
 have l1:w.heap.size ≤ n1:=by rw [hn];exact E.size
 have q1:=Zr hw hn
 replace E:=Z2 E hw
 clear hw hn
 refine Z3 rfl rfl (Z8 (v:=.int .i64 _) rfl rfl) (by simp only [ls,lz];exact rfl) ?_
 refine wpList_nil ?_
 go_upto_region 1 with (fail)
 refine Z11 (Ext [] w1) follows fun w2 hh eS=>?_
 have q1_:=q1
 replace q1:=Zn hh q1
 replace E:=Z4 E eS
 refine Zf (i:=0) rfl (by kernel_rfl) (by kernel_rfl) (by kernel_rfl) (fun _ _ _ h=>h) rfl rfl (fun w' hS=>Z9 rfl rfl Try.underlying28 rfl (n:=0) (sz:=1) rfl (by kernel_rfl) (by decide)) eS (by simp only [ls,lz];exact rfl) ?_
 refine Zf (i:=1) rfl (by kernel_rfl) (by kernel_rfl) (by kernel_rfl) (fun _ _ _ h=>h) rfl rfl (fun w' hS=>Zh rfl rfl Try.underlying3 rfl ((Z0 (hS.keep q1_ (by simp)) 0).trans (get0))) eS (by simp only [ls,lz];exact rfl) ?_
 refine Zf (i:=3) rfl (by kernel_rfl) (by kernel_rfl) (by kernel_rfl) (fun _ _ _ h=>h) rfl rfl (fun w' hS=>Z9 rfl rfl Try.underlying28 rfl (n:=1) (sz:=1) rfl (by kernel_rfl) (by decide)) eS (by simp only [ls,lz];exact rfl) ?_
 refine Zf (i:=4) rfl (by kernel_rfl) (by kernel_rfl) (by kernel_rfl) (fun _ _ _ h=>h) rfl rfl (fun w' hS=>Zh rfl rfl Try.underlying3 rfl ((Z0 (hS.keep q1_ (by simp)) 1).trans (getS (get0)))) eS (by simp only [ls,lz];exact rfl) ?_
 refine Zf (i:=6) rfl (by kernel_rfl) (by kernel_rfl) (by kernel_rfl) (fun _ _ _ h=>h) rfl rfl (fun w' hS=>Z9 rfl rfl Try.underlying28 rfl (n:=2) (sz:=1) rfl (by kernel_rfl) (by decide)) eS (by simp only [ls,lz];exact rfl) ?_
 refine Zf (i:=7) rfl (by kernel_rfl) (by kernel_rfl) (by kernel_rfl) (fun _ _ _ h=>h) rfl rfl (fun w' hS=>Zh rfl rfl Try.underlying3 rfl ((Z0 (hS.keep q1_ (by simp)) 2).trans (getS (getS (get0))))) eS (by simp only [ls,lz];exact rfl) ?_
 refine Zf (i:=9) rfl (by kernel_rfl) (by kernel_rfl) (by kernel_rfl) (fun _ _ _ h=>h) rfl rfl (fun w' hS=>Z9 rfl rfl Try.underlying28 rfl (n:=3) (sz:=2) rfl (by kernel_rfl) (by decide)) eS (by simp only [ls,lz];exact rfl) ?_
 refine Zf (i:=10) rfl (by kernel_rfl) (by kernel_rfl) (by kernel_rfl) (fun _ _ _ h=>h) rfl rfl (fun w' hS=>ZP rfl rfl Try.underlying23 rfl (by kernel_rfl) (Z0I (n:=2) (hS.keep q1_ (by simp)) rfl (midS (getS (getS (getS (get0)))) (midS (getS (getS (getS (getS (get0))))) mid0)))) eS (by simp only [ls,lz];exact rfl) ?_
 refine Zf (i:=12) rfl (by kernel_rfl) (by kernel_rfl) (by kernel_rfl) (fun _ _ _ h=>h) rfl rfl (fun w' hS=>Z9 rfl rfl Try.underlying28 rfl (n:=5) (sz:=2) rfl (by kernel_rfl) (by decide)) eS (by simp only [ls,lz];exact rfl) ?_
 refine Zf (i:=13) rfl (by kernel_rfl) (by kernel_rfl) (by kernel_rfl) (fun _ _ _ h=>h) rfl rfl (fun w' hS=>ZP rfl rfl Try.underlying23 rfl (by kernel_rfl) (Z0I (n:=2) (hS.keep q1_ (by simp)) rfl (midS (getS (getS (getS (getS (getS (get0)))))) (midS (getS (getS (getS (getS (getS (getS (get0))))))) mid0)))) eS (by simp only [ls,lz];exact rfl) ?_
 refine Zf (i:=15) rfl (by kernel_rfl) (by kernel_rfl) (by kernel_rfl) (fun _ _ _ h=>h) rfl rfl (fun w' hS=>Z9 rfl rfl Try.underlying28 rfl (n:=7) (sz:=1) rfl (by kernel_rfl) (by decide)) eS (by simp only [ls,lz];exact rfl) ?_
 refine Zf (i:=16) rfl (by kernel_rfl) (by kernel_rfl) (by kernel_rfl) (fun _ _ _ h=>h) rfl rfl (fun w' hS=>Zh rfl rfl Try.underlying3 rfl ((Z0 (hS.keep q1_ (by simp)) 7).trans (getS (getS (getS (getS (getS (getS (getS (get0)))))))))) eS (by simp only [ls,lz];exact rfl) ?_
 refine Z0k (i:=2) rfl (by kernel_rfl) rfl rfl (by kernel_rfl) (Z2c t.S 1 3 _) fun e w' hR=>?_
 obtain ⟨rfl,rfl⟩:=hR
 refine ⟨_,_,rfl,(by simp only [ls,lz];exact rfl),eS,?_⟩
 refine Z0k (i:=5) rfl (by kernel_rfl) rfl rfl (by kernel_rfl) (Z2c t.A 1 3 _) fun e w' hR=>?_
 obtain ⟨rfl,rfl⟩:=hR
 refine ⟨_,_,rfl,(by simp only [ls,lz];exact rfl),eS,?_⟩
 refine Z0k (i:=8) rfl (by kernel_rfl) rfl rfl (by kernel_rfl) (Z2c t.T 1 3 _) fun e w' hR=>?_
 obtain ⟨rfl,rfl⟩:=hR
 refine ⟨_,_,rfl,(by simp only [ls,lz];exact rfl),eS,?_⟩
 refine Z0k (i:=11) rfl (by kernel_rfl) rfl rfl (by kernel_rfl) (Z3d t.bl t.bm 20 200 _) fun e w6 hR=>?_
 obtain ⟨rfl,hb1⟩:=hR
 replace eS:=eS.nil (Ext.of_below hb1)
 replace q1:=(Ext.of_below hb1).keep0 q1
 replace E:=Z4 E (Ext.of_below hb1)
 refine ⟨_,_,rfl,(by simp only [ls,lz];exact rfl),eS,?_⟩
 refine Z0k (i:=14) rfl (by kernel_rfl) rfl rfl (by kernel_rfl) (Z3d t.pl t.pm (-9) 9 _) fun e w7 hR=>?_
 obtain ⟨rfl,hb2⟩:=hR
 replace eS:=eS.nil (Ext.of_below hb2)
 replace q1:=(Ext.of_below hb2).keep0 q1
 replace E:=Z4 E (Ext.of_below hb2)
 refine ⟨_,_,rfl,(by simp only [ls,lz];exact rfl),eS,?_⟩
 refine Z0k (i:=17) rfl (by kernel_rfl) rfl rfl (by kernel_rfl) (Z2c t.sl 0 5 _) fun e w' hR=>?_
 obtain ⟨rfl,rfl⟩:=hR
 refine ⟨_,_,rfl,(by simp only [ls,lz];exact rfl),eS,?_⟩
 refine Z4k (i:=18) rfl (by kernel_rfl) rfl rfl (ZE rfl Try.underlying169 (size:=1) (by kernel_rfl) (by decide) (by decide) Try.zeroValue37 (cells:=#[.int .i64 (Z0y t.S 1 3),.int .i64 (Z0y t.A 1 3),.int .i64 (Z0y t.T 1 3),.int .i64 (Z1n t.bl t.bm 20 200),.int .i64 (Z1n t.pl t.pm (-9) 9),.int .i64 (Z0y t.sl 0 5)]) (by kernel_rfl)) (by simp only [ls,lz];exact rfl) fun w9 hw=>?_
 replace eS:=Z2 eS hw
 obtain ⟨n32,hn⟩:∃ n,n = w7.heap.size:=⟨_,rfl⟩
 rw [← hn]
 have l32:w.heap.size ≤ n32:=by rw [hn];exact E.size
 have m32_1:n1 < n32:=by rw [hn];exact Z7 q1
 replace q1:=Z1 hw q1
 have q32:=Zw hw hn
 replace E:=Z2 E hw
 clear hw hn
 refine ⟨eS,?_⟩
 refine Z0k (i:=19) rfl (by kernel_rfl) rfl rfl (by kernel_rfl) (Z2N [Z0y t.S 1 3,Z0y t.A 1 3,Z0y t.T 1 3,Z1n t.bl t.bm 20 200,Z1n t.pl t.pm (-9) 9,Z0y t.sl 0 5] _ 37 _ _ rfl (by simp) (by simp) q32) fun e w' hR=>?_
 obtain ⟨rfl,rfl⟩:=hR
 refine ⟨_,_,rfl,(by simp only [ls,lz];exact rfl),eS,?_⟩
 refine Zf (i:=20) rfl (by kernel_rfl) (by kernel_rfl) (by kernel_rfl) (fun _ _ _ h=>h) rfl rfl (fun w' hS=>Z8 (v:=.int .i64 _) rfl rfl) eS (by simp only [ls,lz];exact rfl) ?_
 refine wpAnyH_done (by kernel_rfl) ?_ _
 clear q1_ hh eS
 clear hb1 hb2 q32
 obtain ⟨hd,hhd⟩:∃ hd,hd = Z2Y t:=⟨_,rfl⟩
 have Hhd:=Lib.hid hhd
 rw [show ZU [Z0y t.S 1 3,Z0y t.A 1 3,Z0y t.T 1 3,Z1n t.bl t.bm 20 200,Z1n t.pl t.pm (-9) 9,Z0y t.sl 0 5] = hd from hhd.symm]
 clear hhd
 by_cases c1:hd = 0
 ·subst c1
  have hz:=Lib.hid (Z3W Hhd.out.symm)
  have hr:=hz.out
  have c1_0:=(Z0 q1 0).trans rfl
  have c1_8:=(Z0 q1 8).trans rfl
  by_cases c2:(t.gr.length:Int) < t.S
  ·have HC:Hid (Z08 t = 7):=by show _ = _;rw [Z08,if_neg (by rw [← Hhd.out];decide),if_pos c2]
   go_wp2
   go_ret
   exact ⟨ZM HC.out.symm,E⟩
  by_cases c3:t.S < (t.gr.length:Int)
  ·have HC:Hid (Z08 t = 6):=by show _ = _;rw [Z08,if_neg (by rw [← Hhd.out];decide),if_neg c2,if_pos c3]
   go_wp2
   go_ret
   exact ⟨ZM HC.out.symm,E⟩
  have HC:Hid (Z08 t = if ZU (t.gr.map grE) ≠ 0 then ZU (t.gr.map grE) else if 8 < t.rd.length then 6 else if ZU (t.rd.map (rdE t)) ≠ 0 then ZU (t.rd.map (rdE t)) else if 3 < t.lk.length then 6 else ZU (t.lk.map (lkE t))):=by
   show _ = _;rw [Z08,if_neg (by rw [← Hhd.out];decide),if_neg c2,if_neg c3]
  go_wp2_with fail
  clear c1_0 c1_8
  clear c2 c3
  go_loopw [53] (fun iv wr=>∃ i:Nat,i ≤ t.gr.length ∧ iv = .int .i64 i ∧ wr.heap[n1]? = some (.cells #[.int .i64 t.S,.int .i64 t.A,.int .i64 t.T,.int .i64 t.bl,.int .i64 t.bm,.int .i64 t.pl,.int .i64 t.pm,.int .i64 t.sl,.slice ga t.gr.length gcap,.slice ra t.rd.length rcap,.slice la t.lk.length lcap] 28 (0,0)) ∧ Ext [] w wr ∧ ZU ((t.gr.map grE).drop i) = ZU (t.gr.map grE)) (fun iv _=>t.gr.length - (intOf iv).toNat)
  case atStart=>exact ⟨0,Nat.zero_le _,rfl,q1,E,rfl⟩
  case round =>
   clear q1 E
   obtain ⟨i,hi,rfl,q1,E,hf⟩:=hrel
   have HF:=Lib.hid hf;clear hf
   by_cases hlt:(i:Int) < (t.gr.length:Int)
   ·go_upto_region 11 with (fail)
    obtain ⟨rb,roff,hra,hrr⟩:=Z3A (0,0) Ht.out.gr E (i:=i) (by omega)
    refine wp_region_lit ?_
    refine Z3 rfl rfl (ZJ (sz:=2) rfl (hra t.gr.length gcap) rfl Try.underlying24 (by kernel_rfl) (by omega) (by omega)) (by simp only [ls,lz];exact rfl) ?_
    refine Z3 rfl rfl (ZP (cs:=[.int .i64 (t.gr.getD i (0,0)).1,.int .i64 (t.gr.getD i (0,0)).2]) rfl rfl Try.underlying23 rfl (by kernel_rfl) hrr) (by simp only [ls,lz];exact rfl) ?_
    refine Zy rfl rfl (ZB rfl Try.zeroValue23) (by simp only [ls,lz];exact rfl) fun w11 hw=>?_
    obtain ⟨n6,hn⟩:∃ n,n = wr.heap.size:=⟨_,rfl⟩
    rw [← hn]
    have l6:w.heap.size ≤ n6:=by rw [hn];exact E.size
    have m6_1:n1 < n6:=by rw [hn];exact Z7 q1
    replace q1:=Z1 hw q1
    have q6:=Zr hw hn
    replace E:=Z2 E hw
    clear hw hn
    refine ZY rfl rfl (Zg rfl rfl rfl (by kernel_rfl) (by simp [Value.oneCell']) q6 rfl) fun w12 hw=>?_
    replace q1:=Z5 hw q1 (by omega)
    replace q6:=Zz hw q6 rfl
    replace E:=Za E hw (fun h=>by first | exact absurd h (by omega) | simp)
    clear hw
    refine wpList_nil ?_
    clear hrr
    go_upto_region 12 with (fail)
    refine wp_region_lit ?_
    refine Z3 rfl rfl (Zt rfl rfl Try.underlying23 rfl (by kernel_rfl) q6) (by simp only [ls,lz];exact rfl) ?_
    refine ZC rfl rfl (by kernel_rfl) (Z3d (t.gr.getD i (0,0)).1 (t.gr.getD i (0,0)).2 (-20) 20 _) fun e w13 hR=>?_
    obtain ⟨rfl,hb3⟩:=hR
    refine ⟨_,_,rfl,(by simp only [ls,lz];exact rfl),?_⟩
    replace q1:=(Ext.of_below hb3).keep0 q1
    replace q6:=(Ext.of_below hb3).keep0 q6
    replace E:=Z4 E (Ext.of_below hb3)
    refine Z3 rfl rfl (Z8 (v:=.int .i64 _) rfl rfl) (by simp only [ls,lz];exact rfl) ?_
    refine wpList_nil ?_
    clear hb3
    obtain ⟨v,hv⟩:∃ v,v = grE (t.gr.getD i (0,0)):=⟨_,rfl⟩
    rw [show Z1n (t.gr.getD i (0,0)).1 (t.gr.getD i (0,0)).2 (-20) 20 = v from hv.symm]
    by_cases h0:v = 0
    ·subst h0
     have H1:=Lib.hid ((Z1H (0,0) (by omega) hv.symm).trans HF.out)
     clear hv
     go_wp2
     go_roundw
     case rel=>exact ⟨i + 1,by omega,by go_num,q1,E,H1.out⟩
     case measure=>simp [intOf];omega
    ·have hh:=Z24 (f:=grE) (xs:=t.gr) (0,0) (i:=i) (by omega) (by rw [← hv];exact h0)
     have H1:Hid (Z08 t = v):=by show _ = _;rw [HC.out,← HF.out,hh,← hv,if_pos h0]
     clear hv hh
     have hb:(v != 0) = true:=by simpa using h0
     go_wp2
     go_ret
     exact ⟨ZM H1.out.symm,E⟩
   ·skip
    have HC2:Hid (Z08 t = if 8 < t.rd.length then 6 else if ZU (t.rd.map (rdE t)) ≠ 0 then ZU (t.rd.map (rdE t)) else if 3 < t.lk.length then 6 else ZU (t.lk.map (lkE t))):=by
     show _ = _;rw [HC.out,if_neg (by rw [Z25 (by omega) HF.out];decide)]
    clear HC HF
    have c1_9:=(Z0 q1 9).trans rfl
    by_cases c4:(8:Int) < (t.rd.length:Int)
    ·have H1:Hid (Z08 t = 6):=by show _ = _;rw [HC2.out,if_pos (by omega)]
     go_wp2
     go_ret
     exact ⟨ZM H1.out.symm,E⟩
    have HC3:Hid (Z08 t = if ZU (t.rd.map (rdE t)) ≠ 0 then ZU (t.rd.map (rdE t)) else if 3 < t.lk.length then 6 else ZU (t.lk.map (lkE t))):=by
     show _ = _;rw [HC2.out,if_neg (by omega)]
    clear HC2
    go_wp2_with fail
    clear c1_9
    clear hlt hi c4
    obtain ⟨wq,rfl⟩:∃ wq:World,wq = wr:=⟨_,rfl⟩
    go_loopw [70] (fun iv wr=>∃ j:Nat,j ≤ t.rd.length ∧ iv = .int .i64 j ∧ wr.heap[n1]? = some (.cells #[.int .i64 t.S,.int .i64 t.A,.int .i64 t.T,.int .i64 t.bl,.int .i64 t.bm,.int .i64 t.pl,.int .i64 t.pm,.int .i64 t.sl,.slice ga t.gr.length gcap,.slice ra t.rd.length rcap,.slice la t.lk.length lcap] 28 (0,0)) ∧ Ext [] w wr ∧ ZU ((t.rd.map (rdE t)).drop j) = ZU (t.rd.map (rdE t))) (fun iv _=>t.rd.length - (intOf iv).toNat)
    case atStart=>exact ⟨0,Nat.zero_le _,rfl,q1,E,rfl⟩
    case round =>
     clear q1 E
     obtain ⟨j,hj,rfl,q1,E,hf⟩:=hrel
     have HF:=Lib.hid hf;clear hf
     by_cases hlt:(j:Int) < (t.rd.length:Int)
     ·go_upto_region 20 with (fail)
      obtain ⟨rb,roff,hra,hrr⟩:=Z3A (0,0,0,0) Ht.out.rd E (i:=j) (by omega)
      refine wp_region_lit ?_
      refine Z3 rfl rfl (ZJ (sz:=4) rfl (hra t.rd.length rcap) rfl Try.underlying25 (by kernel_rfl) (by omega) (by omega)) (by simp only [ls,lz];exact rfl) ?_
      refine Z3 rfl rfl (ZP (cs:=[.int .i64 (t.rd.getD j (0,0,0,0)).1,.int .i64 (t.rd.getD j (0,0,0,0)).2.1,.int .i64 (t.rd.getD j (0,0,0,0)).2.2.1,.int .i64 (t.rd.getD j (0,0,0,0)).2.2.2]) rfl rfl Try.underlying66 rfl (by kernel_rfl) hrr) (by simp only [ls,lz];exact rfl) ?_
      refine Zy rfl rfl (ZB rfl Try.zeroValue66) (by simp only [ls,lz];exact rfl) fun w11 hw=>?_
      obtain ⟨n9,hn⟩:∃ n,n = wr.heap.size:=⟨_,rfl⟩
      rw [← hn]
      have l9:w.heap.size ≤ n9:=by rw [hn];exact E.size
      have m9_1:n1 < n9:=by rw [hn];exact Z7 q1
      replace q1:=Z1 hw q1
      have q9:=Zr hw hn
      replace E:=Z2 E hw
      clear hw hn
      refine ZY rfl rfl (Zg rfl rfl rfl (by kernel_rfl) (by simp [Value.oneCell']) q9 rfl) fun w12 hw=>?_
      replace q1:=Z5 hw q1 (by omega)
      replace q9:=Zz hw q9 rfl
      replace E:=Za E hw (fun h=>by first | exact absurd h (by omega) | simp)
      clear hw
      refine wpList_nil ?_
      clear hrr
      go_upto_region 21 with (fail)
      refine wp_region_lit ?_
      refine Z3 rfl rfl (Zt rfl rfl Try.underlying28 rfl (by kernel_rfl) q1) (by simp only [ls,lz];exact rfl) ?_
      refine Z3 rfl rfl (Zt rfl rfl Try.underlying66 rfl (by kernel_rfl) q9) (by simp only [ls,lz];exact rfl) ?_
      refine ZC rfl rfl (by kernel_rfl) (Z4j t.S t.A t.T t.bl t.bm t.pl t.pm t.sl (.slice ga t.gr.length gcap) (.slice ra t.rd.length rcap) (.slice la t.lk.length lcap) (t.rd.getD j (0,0,0,0)).1 (t.rd.getD j (0,0,0,0)).2.1 (t.rd.getD j (0,0,0,0)).2.2.1 (t.rd.getD j (0,0,0,0)).2.2.2 _ (by omega) (by omega) (by omega) (by omega) (by omega) (by omega)) fun e w13 hR=>?_
      obtain ⟨rfl,hb3⟩:=hR
      refine ⟨_,_,rfl,(by simp only [ls,lz];exact rfl),?_⟩
      replace q1:=(Ext.of_below hb3).keep0 q1
      replace q9:=(Ext.of_below hb3).keep0 q9
      replace E:=Z4 E (Ext.of_below hb3)
      refine Z3 rfl rfl (Z8 (v:=.int .i64 _) rfl rfl) (by simp only [ls,lz];exact rfl) ?_
      refine wpList_nil ?_
      clear hb3
      obtain ⟨v,hv⟩:∃ v,v = rdE t (t.rd.getD j (0,0,0,0)):=⟨_,rfl⟩
      rw [show rdgE t.S t.A t.T (t.rd.getD j (0,0,0,0)).1 (t.rd.getD j (0,0,0,0)).2.1 (t.rd.getD j (0,0,0,0)).2.2.1 (t.rd.getD j (0,0,0,0)).2.2.2 = v from hv.symm]
      by_cases h0:v = 0
      ·subst h0
       have H1:=Lib.hid ((Z1H (0,0,0,0) (by omega) hv.symm).trans HF.out)
       clear hv
       go_wp2
       go_roundw
       case rel=>exact ⟨j + 1,by omega,by go_num,q1,E,H1.out⟩
       case measure=>simp [intOf];omega
      ·have hh:=Z24 (f:=rdE t) (xs:=t.rd) (0,0,0,0) (i:=j) (by omega) (by rw [← hv];exact h0)
       have H1:Hid (Z08 t = v):=by show _ = _;rw [HC3.out,← HF.out,hh,← hv,if_pos h0]
       clear hv hh
       have hb:(v != 0) = true:=by simpa using h0
       go_wp2
       go_ret
       exact ⟨ZM H1.out.symm,E⟩
     ·skip
      have HC4:Hid (Z08 t = if 3 < t.lk.length then 6 else ZU (t.lk.map (lkE t))):=by
       show _ = _;rw [HC3.out,if_neg (by rw [Z25 (by omega) HF.out];decide)]
      clear HC3 HF
      have c1_10:=(Z0 q1 10).trans rfl
      by_cases c5:(3:Int) < (t.lk.length:Int)
      ·have H1:Hid (Z08 t = 6):=by show _ = _;rw [HC4.out,if_pos (by omega)]
       go_wp2
       go_ret
       exact ⟨ZM H1.out.symm,E⟩
      have HC5:Hid (Z08 t = ZU (t.lk.map (lkE t))):=by
       show _ = _;rw [HC4.out,if_neg (by omega)]
      clear HC4
      go_wp2_with fail
      clear c1_10
      clear hlt hj c5
      obtain ⟨wq2,rfl⟩:∃ wq:World,wq = wr:=⟨_,rfl⟩
      go_loopw [88] (fun iv wr=>∃ j:Nat,j ≤ t.lk.length ∧ iv = .int .i64 j ∧ wr.heap[n1]? = some (.cells #[.int .i64 t.S,.int .i64 t.A,.int .i64 t.T,.int .i64 t.bl,.int .i64 t.bm,.int .i64 t.pl,.int .i64 t.pm,.int .i64 t.sl,.slice ga t.gr.length gcap,.slice ra t.rd.length rcap,.slice la t.lk.length lcap] 28 (0,0)) ∧ Ext [] w wr ∧ ZU ((t.lk.map (lkE t)).drop j) = ZU (t.lk.map (lkE t))) (fun iv _=>t.lk.length - (intOf iv).toNat)
      case atStart=>exact ⟨0,Nat.zero_le _,rfl,q1,E,rfl⟩
      case round =>
       clear q1 E
       obtain ⟨l,hl,rfl,q1,E,hf⟩:=hrel
       have HF:=Lib.hid hf;clear hf
       by_cases hlt:(l:Int) < (t.lk.length:Int)
       ·go_upto_region 29 with (fail)
        obtain ⟨rb,roff,hra,hrr⟩:=Z3A (0,0,0,0,0,0) Ht.out.lk E (i:=l) (by omega)
        refine wp_region_lit ?_
        refine Z3 rfl rfl (ZJ (sz:=6) rfl (hra t.lk.length lcap) rfl Try.underlying26 (by kernel_rfl) (by omega) (by omega)) (by simp only [ls,lz];exact rfl) ?_
        refine Z3 rfl rfl (ZP (cs:=[.int .i64 (t.lk.getD l (0,0,0,0,0,0)).1,.int .i64 (t.lk.getD l (0,0,0,0,0,0)).2.1,.int .i64 (t.lk.getD l (0,0,0,0,0,0)).2.2.1,.int .i64 (t.lk.getD l (0,0,0,0,0,0)).2.2.2.1,.int .i64 (t.lk.getD l (0,0,0,0,0,0)).2.2.2.2.1,.int .i64 (t.lk.getD l (0,0,0,0,0,0)).2.2.2.2.2]) rfl rfl Try.underlying75 rfl (by kernel_rfl) hrr) (by simp only [ls,lz];exact rfl) ?_
        refine Zy rfl rfl (ZB rfl Try.zeroValue75) (by simp only [ls,lz];exact rfl) fun w11 hw=>?_
        obtain ⟨n12,hn⟩:∃ n,n = wr.heap.size:=⟨_,rfl⟩
        rw [← hn]
        have l12:w.heap.size ≤ n12:=by rw [hn];exact E.size
        have m12_1:n1 < n12:=by rw [hn];exact Z7 q1
        replace q1:=Z1 hw q1
        have q12:=Zr hw hn
        replace E:=Z2 E hw
        clear hw hn
        refine ZY rfl rfl (Zg rfl rfl rfl (by kernel_rfl) (by simp [Value.oneCell']) q12 rfl) fun w12 hw=>?_
        replace q1:=Z5 hw q1 (by omega)
        replace q12:=Zz hw q12 rfl
        replace E:=Za E hw (fun h=>by first | exact absurd h (by omega) | simp)
        clear hw
        refine wpList_nil ?_
        clear hrr
        go_upto_region 30 with (fail)
        refine wp_region_lit ?_
        refine Z3 rfl rfl (Zt rfl rfl Try.underlying28 rfl (by kernel_rfl) q1) (by simp only [ls,lz];exact rfl) ?_
        refine Z3 rfl rfl (Zt rfl rfl Try.underlying75 rfl (by kernel_rfl) q12) (by simp only [ls,lz];exact rfl) ?_
        refine ZC rfl rfl (by kernel_rfl) (Z5m t.S t.A t.T t.bl t.bm t.pl t.pm t.sl (.slice ga t.gr.length gcap) (.slice ra t.rd.length rcap) (.slice la t.lk.length lcap) (t.lk.getD l (0,0,0,0,0,0)).1 (t.lk.getD l (0,0,0,0,0,0)).2.1 (t.lk.getD l (0,0,0,0,0,0)).2.2.1 (t.lk.getD l (0,0,0,0,0,0)).2.2.2.1 (t.lk.getD l (0,0,0,0,0,0)).2.2.2.2.1 (t.lk.getD l (0,0,0,0,0,0)).2.2.2.2.2 _ (by omega) (by omega) (by omega) (by omega)) fun e w13 hR=>?_
        obtain ⟨rfl,e3⟩:=hR
        refine ⟨_,_,rfl,(by simp only [ls,lz];exact rfl),?_⟩
        replace q1:=(e3).keep0 q1
        replace q12:=(e3).keep0 q12
        replace E:=Z4 E (e3)
        refine Z3 rfl rfl (Z8 (v:=.int .i64 _) rfl rfl) (by simp only [ls,lz];exact rfl) ?_
        refine wpList_nil ?_
        clear e3
        obtain ⟨v,hv⟩:∃ v,v = lkE t (t.lk.getD l (0,0,0,0,0,0)):=⟨_,rfl⟩
        rw [show lnkE t.S t.A (t.lk.getD l (0,0,0,0,0,0)).1 (t.lk.getD l (0,0,0,0,0,0)).2.1 (t.lk.getD l (0,0,0,0,0,0)).2.2.1 (t.lk.getD l (0,0,0,0,0,0)).2.2.2.1 (t.lk.getD l (0,0,0,0,0,0)).2.2.2.2.1 (t.lk.getD l (0,0,0,0,0,0)).2.2.2.2.2 = v from hv.symm]
        by_cases h0:v = 0
        ·subst h0
         have H1:=Lib.hid ((Z1H (0,0,0,0,0,0) (by omega) hv.symm).trans HF.out)
         clear hv
         go_wp2
         go_roundw
         case rel=>exact ⟨l + 1,by omega,by go_num,q1,E,H1.out⟩
         case measure=>simp [intOf];omega
        ·have hh:=Z24 (f:=lkE t) (xs:=t.lk) (0,0,0,0,0,0) (i:=l) (by omega) (by rw [← hv];exact h0)
         have H1:Hid (Z08 t = v):=by show _ = _;rw [HC5.out,← HF.out,hh,← hv]
         clear hv hh
         have hb:(v != 0) = true:=by simpa using h0
         go_wp2
         go_ret
         exact ⟨ZM H1.out.symm,E⟩
       ·have H1:Hid (Z08 t = 0):=by show _ = _;rw [HC5.out];exact Z25 (by omega) HF.out
        go_wp2
        go_ret
        exact ⟨ZM H1.out.symm,E⟩
 ·have HC:Hid (Z08 t = hd):=by show _ = _;rw [Z08,if_pos (by rw [← Hhd.out];exact c1),Hhd.out]
  have hb:(hd != 0) = true:=by simpa using c1
  go_wp2
  go_ret
  exact ⟨ZM HC.out.symm,E⟩
section
variable {P:Program} {fn:Func} {tmps:Array Value} {w:World}
theorem Z2e {ty:TypeId} {b:Nat} {cs:Array Value} {T:TypeId} {d:TypeDesc} {fz:Nat × Nat} (hd:P.underlying ty = some d) (ha:d.isRow = true) (hi:(P.info? ty).map (·.size) = some cs.size) (H:w.heap[b]? = some (.cells cs T fz)):(loadVar ty ⟨b,0,none⟩).run P w = .ok (.agg cs) w:=by
 have hc:w.rangeAt b 0 cs.toList:=fun j v hv=>by
  rw [Nat.zero_add,Z0 H];simpa using hv
 simpa using run_loadVar_mid (P:=P) w b 0 ty cs.toList d hc hd ha (by simpa using hi)
theorem Z3T {t s:Tmp} {ty:TypeId} {b:Nat} {cs:Array Value} {T:TypeId} {d:TypeDesc} {fz:Nat × Nat} {v:Value} (hr:fn.results = #[.cell t ty,.tmp s]) (ht:tmps.getD t undef = .pointer (some ⟨b,0,none⟩)) (hd:P.underlying ty = some d) (ha:d.isRow = true) (hi:(P.info? ty).map (·.size) = some cs.size) (H:w.heap[b]? = some (.cells cs T fz)) (hv:tmps.getD s undef = v) :
  (results fn tmps).run P w = .ok (.tuple #[.agg cs,v]) w:=by
 have hl:=Z2e (P:=P) hd ha hi H
 have ht':tmps[t]?.getD undef = .pointer (some ⟨b,0,none⟩):=by simpa using ht
 have hv':tmps[s]?.getD undef = v:=by simpa using hv
 simp [results,hr,ht',hv',asAddr,hl,Sem.run_bind,Result.andThen]
theorem Z6Y {t t2 s:Tmp} {ty ty2:TypeId} {b b2:Nat} {cs cs2:Array Value} {T T2:TypeId} {d d2:TypeDesc} {fz fz2:Nat × Nat} {v:Value} (hr:fn.results = #[.cell t ty,.cell t2 ty2,.tmp s]) (ht:tmps.getD t undef = .pointer (some ⟨b,0,none⟩)) (hd:P.underlying ty = some d) (ha:d.isRow = true) (hi:(P.info? ty).map (·.size) = some cs.size) (H:w.heap[b]? = some (.cells cs T fz))
  (ht2:tmps.getD t2 undef = .pointer (some ⟨b2,0,none⟩)) (hd2:P.underlying ty2 = some d2) (ha2:d2.isRow = true) (hi2:(P.info? ty2).map (·.size) = some cs2.size) (H2:w.heap[b2]? = some (.cells cs2 T2 fz2)) (hv:tmps.getD s undef = v) :
  (results fn tmps).run P w = .ok (.tuple #[.agg cs,.agg cs2,v]) w:=by
 have hl:=Z2e (P:=P) hd ha hi H
 have hl2:=Z2e (P:=P) hd2 ha2 hi2 H2
 have ht':tmps[t]?.getD undef = .pointer (some ⟨b,0,none⟩):=by simpa using ht
 have ht2':tmps[t2]?.getD undef = .pointer (some ⟨b2,0,none⟩):=by simpa using ht2
 have hv':tmps[s]?.getD undef = v:=by simpa using hv
 simp [results,hr,ht',ht2',hv',asAddr,hl,hl2,Sem.run_bind,Result.andThen]
end
def Z0Q (x:Int):List Value:=[.int .i64 x]
def Z26 (t:Tp) (gv rv lv:Value):Array Value:=#[.int .i64 t.S,.int .i64 t.A,.int .i64 t.T,.int .i64 t.bl,.int .i64 t.bm,.int .i64 t.pl,.int .i64 t.pm,.int .i64 t.sl,gv,rv,lv]
def Z30:Array Value:=#[.int .i64 0,.int .i64 0,.int .i64 0,.int .i64 0,.int .i64 0,.int .i64 0,.int .i64 0,.int .i64 0,.slice none 0 0,.slice none 0 0,.slice none 0 0]
def lim (t:Tp) (i:Nat):Int:=if i = 0 then t.S else if i = 1 then t.A else t.T
def askE (t:Tp) (xs:Nat → List Int) (i:Nat):Int:=ZU ((xs i).map fun n=>Z0h n (lim t i))
def Z1o (t:Tp) (xs:Nat → List Int):Int:=if Z08 t ≠ 0 then Z08 t else ZU ((List.range 3).map (askE t xs))
theorem Z6z {t:Tp} (h:Z08 t = 0):Z2Y t = 0:=by
 unfold Z08 at h
 by_cases c:Z2Y t = 0
 ·exact c
 ·rw [if_pos c] at h;exact h
def Z2E (t:Tp) (xs:Nat → List Int) (gv rv lv:Value):Array Value:=if Z1o t xs = 0 then Z26 t gv rv lv else Z30
theorem Z2V {t:Tp} {xs:Nat → List Int} (h:Z1o t xs = 0) (gv rv lv:Value):Z2E t xs gv rv lv = Z26 t gv rv lv:=if_pos h
theorem Z3e {t:Tp} {xs:Nat → List Int} (h:Z1o t xs ≠ 0) (gv rv lv:Value):Z2E t xs gv rv lv = Z30:=if_neg h
set_option maxRecDepth 100000 in
set_option maxHeartbeats 2000000 in
theorem Z5z (t:Tp) (gv rv lv:Value) (xs:Nat → List Int) (va:Nat → Option Addr) (vc:Nat → Nat) (w:World) (ht:IsTp w gv rv lv t) (hl1:t.gr.length ≤ 1000) (hl2:t.rd.length ≤ 1000) (hl3:t.lk.length ≤ 1000)
  (hx:∀ i,i < 3 → Z0E w (.slice (va i) (xs i).length (vc i)) 1 ((xs i).map Z0Q)) (hxl:∀ i,i < 3 → (xs i).length ≤ 1000) :
  Calls Try.prog 79 #[tpV t gv rv lv,.slice (va 0) (xs 0).length (vc 0),.slice (va 1) (xs 1).length (vc 1),.slice (va 2) (xs 2).length (vc 2)] w fun e w'=>e = .returned (.tuple #[.agg (Z2E t xs gv rv lv),.int .i64 (Z1o t xs)]) ∧ Ext [] w w':=by
 have HK:=Lib.hid (Z8a t gv rv lv)
 unfold tpV at HK ⊢
 have hone:gv.oneCell' = true ∧ rv.oneCell' = true ∧ lv.oneCell' = true:=by
  obtain ⟨_,_,e1⟩:=Z1U ht.gr
  obtain ⟨_,_,e2⟩:=Z1U ht.rd
  obtain ⟨_,_,e3⟩:=Z1U ht.lk
  rw [e1,e2,e3];exact ⟨rfl,rfl,rfl⟩
 have E:Ext [] w w:=Ext.refl _ _
 have Ht:=Lib.hid ht;clear ht
 have Hx:=Lib.hid hx;clear hx
 have Hxl:=Lib.hid hxl;clear hxl
 go_enter Try.func79,Try.ntmps79
 go_upto_region 0 with (fail)
 refine wp_region_lit ?_
 refine Zy rfl rfl (Z0z (v:=.agg _) rfl rfl) (by simp only [ls,lz];exact rfl) fun w1 hw=>?_
 obtain ⟨n4,hn⟩:∃ n,n = w.heap.size:=⟨_,rfl⟩
 rw [← hn]
 have l4:w.heap.size ≤ n4:=by rw [hn];exact E.size
 have q4:=Zr hw hn
 replace E:=Z2 E hw
 clear hw hn
 refine Zy rfl rfl (ZB rfl Try.zeroValue100) (by simp only [ls,lz];exact rfl) fun w2 hw=>?_
 obtain ⟨n8,hn⟩:∃ n,n = w1.heap.size:=⟨_,rfl⟩
 rw [← hn]
 have l8:w.heap.size ≤ n8:=by rw [hn];exact E.size
 have m8_4:n4 < n8:=by rw [hn];exact Z7 q4
 replace q4:=Z1 hw q4
 have q8:=Zr hw hn
 replace E:=Z2 E hw
 clear hw hn
 refine Z3 rfl rfl (Z8 (v:=.int .i64 _) rfl rfl) (by simp only [ls,lz];exact rfl) ?_
 refine wpList_nil ?_
 go_upto_region 1 with (fail)
 refine wp_region_lit ?_
 refine Z3 rfl rfl (Zt rfl rfl Try.underlying28 rfl (by kernel_rfl) q4) (by simp only [ls,lz];exact rfl) ?_
 refine ZC rfl rfl (by kernel_rfl) (HK.out _ (Ht.out.ext E (by simp)) hl1 hl2 hl3) fun e w3 hR=>?_
 obtain ⟨rfl,e1⟩:=hR
 refine ⟨_,_,rfl,(by simp only [ls,lz];exact rfl),?_⟩
 replace q4:=(e1).keep0 q4
 replace q8:=(e1).keep0 q8
 replace E:=Z4 E (e1)
 refine Z3 rfl rfl (Z8 (v:=.int .i64 _) rfl rfl) (by simp only [ls,lz];exact rfl) ?_
 refine wpList_nil ?_
 clear e1
 obtain ⟨ce,hce⟩:∃ ce,ce = Z08 t:=⟨_,rfl⟩
 have Hce:=Lib.hid hce
 rw [← hce]
 clear hce HK
 by_cases c1:ce = 0
 ·subst c1
  have hhd:=Z3W (Z6z Hce.out.symm)
  have HO:Hid (Z1o t xs = ZU ((List.range 3).map (askE t xs))):=by show _ = _;rw [Z1o,if_neg (by rw [← Hce.out];decide)]
  go_upto_region 4 with (fail)
  refine wp_region_lit ?_
  refine Z3 rfl rfl (Zi (v:=.slice _ _ _) rfl rfl) (by simp only [ls,lz];exact rfl) ?_
  refine Z3 rfl rfl (Zi (v:=.slice _ _ _) rfl rfl) (by simp only [ls,lz];exact rfl) ?_
  refine Z3 rfl rfl (Zi (v:=.slice _ _ _) rfl rfl) (by simp only [ls,lz];exact rfl) ?_
  refine Zy rfl rfl (ZE rfl Try.underlying50 (size:=1) (by kernel_rfl) (by decide) (by decide) Try.zeroValue29 (cells:=#[.slice (va 0) (xs 0).length (vc 0),.slice (va 1) (xs 1).length (vc 1),.slice (va 2) (xs 2).length (vc 2)]) (by kernel_rfl)) (by simp only [ls,lz];exact rfl) fun w4 hw=>?_
  obtain ⟨n25,hn⟩:∃ n,n = w3.heap.size:=⟨_,rfl⟩
  rw [← hn]
  have l25:w.heap.size ≤ n25:=by rw [hn];exact E.size
  have m25_4:n4 < n25:=by rw [hn];exact Z7 q4
  have m25_8:n8 < n25:=by rw [hn];exact Z7 q8
  replace q4:=Z1 hw q4
  replace q8:=Z1 hw q8
  have q25:=Zw hw hn
  replace E:=Z2 E hw
  clear hw hn
  refine Z3 rfl rfl (Z1c rfl rfl rfl Try.underlying50) (by simp only [ls,lz];exact rfl) ?_
  refine Z3 rfl rfl (Zi (v:=.int .i64 _) rfl rfl) (by simp only [ls,lz];exact rfl) ?_
  refine wpList_nil ?_
  go_wp2_with fail
  go_loopw [27] (fun iv wr=>∃ i:Nat,i ≤ 3 ∧ iv = .int .i64 i ∧ wr.heap[n4]? = some (.cells #[.int .i64 t.S,.int .i64 t.A,.int .i64 t.T,.int .i64 t.bl,.int .i64 t.bm,.int .i64 t.pl,.int .i64 t.pm,.int .i64 t.sl,gv,rv,lv] 28 (0,0)) ∧ wr.heap[n8]? = some (.cells Z30 100 (0,0)) ∧ wr.heap[n25]? = some (.cells #[.slice (va 0) (xs 0).length (vc 0),.slice (va 1) (xs 1).length (vc 1),.slice (va 2) (xs 2).length (vc 2)] 29 (0,0)) ∧ Ext [] w wr ∧ ZU (((List.range 3).map (askE t xs)).drop i) = ZU ((List.range 3).map (askE t xs))) (fun iv _=>3 - (intOf iv).toNat)
  case atStart=>exact ⟨0,Nat.zero_le _,rfl,q4,q8,q25,E,rfl⟩
  case round =>
   clear q4 q8 q25 E
   obtain ⟨i,hi,rfl,q4,q8,q25,E,hf⟩:=hrel
   have HF:=Lib.hid hf;clear hf
   by_cases hlt:i < 3
   ·have hS:Hid (wr.cell? ⟨n25,0 + (i:Int).toNat * 1,none⟩ = some (.slice (va i) (xs i).length (vc i))):=by
     show _ = _
     rw [show 0 + (i:Int).toNat * 1 = i by omega,Z0 q25]
     rcases i with _ | _ | _ | i <;> first | rfl | omega
    go_upto_region 6 with (fail)
    refine wp_region_lit ?_
    refine Z3 rfl rfl (Zi (v:=.int .i64 _) rfl rfl) (by simp only [ls,lz];exact rfl) ?_
    refine Z3 rfl rfl (ZJ (sz:=1) rfl rfl rfl Try.underlying50 (by kernel_rfl) (by omega) (by omega)) (by simp only [ls,lz];exact rfl) ?_
    refine Z3 rfl rfl (Zh (v:=.slice (va i) (xs i).length (vc i)) rfl rfl Try.underlying29 rfl hS.out) (by simp only [ls,lz];exact rfl) ?_
    refine Z3 rfl rfl (Z8 (v:=.int .i64 _) rfl rfl) (by simp only [ls,lz];exact rfl) ?_
    refine Z3 rfl rfl (Z8 (v:=.slice _ _ _) rfl rfl) (by simp only [ls,lz];exact rfl) ?_
    refine wpList_nil ?_
    clear hS
    go_wp2_with fail
    have H4:=Lib.hid q4
    have H8:=Lib.hid q8
    have H25:=Lib.hid q25
    have EE:=Lib.hid E
    obtain ⟨wo,hwo⟩:∃ wo:World,wo = wr:=⟨_,rfl⟩
    have hxl:=Hxl.out i hlt
    go_loopw [34] (fun kv wr=>∃ k:Nat,k ≤ (xs i).length ∧ kv = .int .i64 k ∧ wr.heap[n4]? = some (.cells #[.int .i64 t.S,.int .i64 t.A,.int .i64 t.T,.int .i64 t.bl,.int .i64 t.bm,.int .i64 t.pl,.int .i64 t.pm,.int .i64 t.sl,gv,rv,lv] 28 (0,0)) ∧ wr.heap[n8]? = some (.cells Z30 100 (0,0)) ∧ wr.heap[n25]? = some (.cells #[.slice (va 0) (xs 0).length (vc 0),.slice (va 1) (xs 1).length (vc 1),.slice (va 2) (xs 2).length (vc 2)] 29 (0,0)) ∧ Ext [] w wr ∧ ZU (((xs i).map fun n=>Z0h n (lim t i)).drop k) = askE t xs i) (fun kv _=>(xs i).length - (intOf kv).toNat)
    case atStart=>exact ⟨0,Nat.zero_le _,rfl,q4,q8,q25,E,rfl⟩
    case round =>
     clear q4 q8 q25 E hwo
     obtain ⟨k,hk,rfl,q4,q8,q25,E,hf⟩:=hrel
     have HF2:=Lib.hid hf;clear hf
     by_cases hltk:(k:Int) < ((xs i).length:Int)
     ·go_upto_region 9 with (fail)
      obtain ⟨rb,roff,hra,hrr⟩:=Z3A 0 (Hx.out i hlt) E (i:=k) (by omega)
      have hc:Hid (wr.cell? ⟨rb,roff + (k:Int).toNat * 1,none⟩ = some (.int .i64 ((xs i).getD k 0))):=by
       show _ = _
       have:=hrr 0 (.int .i64 ((xs i).getD k 0)) rfl
       simpa using this
      clear hrr
      refine wp_region_lit ?_
      refine Z3 rfl rfl (ZJ (sz:=1) rfl (hra (xs i).length (vc i)) rfl Try.underlying29 (by kernel_rfl) (by omega) (by omega)) (by simp only [ls,lz];exact rfl) ?_
      refine Z3 rfl rfl (Zh (v:=.int .i64 ((xs i).getD k 0)) rfl rfl Try.underlying3 rfl hc.out) (by simp only [ls,lz];exact rfl) ?_
      refine Z3 rfl rfl (Z8 (v:=.int .i64 _) rfl rfl) (by simp only [ls,lz];exact rfl) ?_
      refine wpList_nil ?_
      clear hc
      have hlm:Hid (#[Value.int .i64 t.S,Value.int .i64 t.A,Value.int .i64 t.T][(i:Int).toNat]? = some (.int .i64 (lim t i))):=by
       show _ = _
       rw [Int.toNat_natCast]
       rcases i with _ | _ | _ | i <;> first | rfl | omega
      have hlb:-1000000 ≤ lim t i ∧ lim t i ≤ 1000000:=by unfold lim;split <;> (try split) <;> omega
      go_upto_region 10 with (fail)
      refine wp_region_lit ?_
      refine Z3 rfl rfl (Zi (v:=.int .i64 _) rfl rfl) (by simp only [ls,lz];exact rfl) ?_
      refine Z3 rfl rfl (Z9 rfl rfl Try.underlying28 rfl (n:=0) (sz:=1) rfl (by kernel_rfl) (by decide)) (by simp only [ls,lz];exact rfl) ?_
      refine Z3 rfl rfl (Zh rfl rfl Try.underlying3 rfl ((Z0 q4 0).trans (get0))) (by simp only [ls,lz];exact rfl) ?_
      refine Z3 rfl rfl (Z9 rfl rfl Try.underlying28 rfl (n:=1) (sz:=1) rfl (by kernel_rfl) (by decide)) (by simp only [ls,lz];exact rfl) ?_
      refine Z3 rfl rfl (Zh rfl rfl Try.underlying3 rfl ((Z0 q4 1).trans (getS (get0)))) (by simp only [ls,lz];exact rfl) ?_
      refine Z3 rfl rfl (Z9 rfl rfl Try.underlying28 rfl (n:=2) (sz:=1) rfl (by kernel_rfl) (by decide)) (by simp only [ls,lz];exact rfl) ?_
      refine Z3 rfl rfl (Zh rfl rfl Try.underlying3 rfl ((Z0 q4 2).trans (getS (getS (get0))))) (by simp only [ls,lz];exact rfl) ?_
      refine Z3 rfl rfl (ZZ rfl (cells:=#[.int .i64 t.S,.int .i64 t.A,.int .i64 t.T]) (by kernel_rfl)) (by simp only [ls,lz];exact rfl) ?_
      refine Z3 rfl rfl (Zi (v:=.int .i64 _) rfl rfl) (by simp only [ls,lz];exact rfl) ?_
      refine Z3 rfl rfl (ZaX rfl rfl rfl Try.underlying162 (by kernel_rfl) Try.underlying3 rfl (by omega) (by omega) hlm.out) (by simp only [ls,lz];exact rfl) ?_
      refine ZC rfl rfl (by kernel_rfl) (Z15 ((xs i).getD k 0) (lim t i) _ hlb.1 hlb.2) fun e w' hR=>?_
      obtain ⟨rfl,rfl⟩:=hR
      refine ⟨_,_,rfl,(by simp only [ls,lz];exact rfl),?_⟩
      refine Z3 rfl rfl (Z8 (v:=.int .i64 _) rfl rfl) (by simp only [ls,lz];exact rfl) ?_
      refine wpList_nil ?_
      clear hlm
      obtain ⟨v,hv⟩:∃ v,v = Z0h ((xs i).getD k 0) (lim t i):=⟨_,rfl⟩
      rw [← hv]
      by_cases h0:v = 0
      ·subst h0
       have H1:=Lib.hid ((Z1H (f:=fun n=>Z0h n (lim t i)) 0 (by omega) hv.symm).trans HF2.out)
       clear hv
       go_wp2
       go_roundw
       case rel=>exact ⟨k + 1,by omega,by go_num,q4,q8,q25,E,H1.out⟩
       case measure=>simp [intOf];omega
      ·have hh:=Z24 (f:=fun n=>Z0h n (lim t i)) (xs:=xs i) 0 (i:=k) (by omega) (by rw [← hv];exact h0)
       have ha:askE t xs i = v:=by rw [← HF2.out,hh,← hv]
       have H1:Hid (Z1o t xs = v):=by
        show _ = _
        rw [HO.out,← HF.out,Z24 (f:=askE t xs) (xs:=List.range 3) 0 (i:=i) (by simpa using hlt) (by simp [List.getD_eq_getElem?_getD,hlt,ha,h0])]
        simp [List.getD_eq_getElem?_getD,hlt,ha]
       clear hv hh
       have hb:(v != 0) = true:=by simpa using h0
       go_upto_region 12 with (fail)
       refine wp_region_lit ?_
       refine Z3 rfl rfl (ZZ rfl (cells:=Z30) (by kernel_rfl)) (by simp only [ls,lz];exact rfl) ?_
       refine Z3 rfl rfl (Zi (v:=.int .i64 _) rfl rfl) (by simp only [ls,lz];exact rfl) ?_
       refine ZY rfl rfl (Zg rfl rfl rfl (by kernel_rfl) (by simp [Z30,Value.oneCell']) q8 rfl) fun w5 hw=>?_
       replace q4:=Z5 hw q4 (by omega)
       replace q8:=Zz hw q8 rfl
       replace q25:=Z5 hw q25 (by omega)
       replace E:=Za E hw (fun h=>by first | exact absurd h (by omega) | simp)
       clear hw
       refine Z3 rfl rfl (Z8 (v:=.int .i64 _) rfl rfl) (by simp only [ls,lz];exact rfl) ?_
       refine wpList_nil ?_
       go_wp2
       refine bodyPost_ret (Z3T rfl rfl Try.underlying100 rfl (by kernel_rfl) q8 rfl) rfl ⟨?_,E⟩
       rw [Z3e (by rw [H1.out];exact h0),H1.out]
       rfl
     ·have ha:askE t xs i = 0:=Z25 (f:=fun n=>Z0h n (lim t i)) (by omega) HF2.out
      have H1:Hid (ZU (((List.range 3).map (askE t xs)).drop (i + 1)) = ZU ((List.range 3).map (askE t xs))):=by
       refine (Z1H (f:=askE t xs) (xs:=List.range 3) 0 (by simpa using hlt) ?_).trans HF.out
       simpa [List.getD_eq_getElem?_getD,hlt] using ha
      go_wp2
      go_roundw
      case rel=>exact ⟨i + 1,by omega,by go_num,q4,q8,q25,E,H1.out⟩
      case measure=>simp [intOf];omega
   ·skip
    have H1:Hid (Z1o t xs = 0):=by show _ = _;rw [HO.out];exact Z25 (f:=askE t xs) (by simp;omega) HF.out
    go_upto_region 15 with (fail)
    refine wp_region_lit ?_
    refine Z3 rfl rfl (Zt rfl rfl Try.underlying28 rfl (by kernel_rfl) q4) (by simp only [ls,lz];exact rfl) ?_
    refine Z3 rfl rfl (ZZ rfl (cells:=#[.int .i64 t.S,.int .i64 t.A,.int .i64 t.T,.int .i64 t.bl,.int .i64 t.bm,.int .i64 t.pl,.int .i64 t.pm,.int .i64 t.sl,gv,rv,lv]) (by kernel_rfl)) (by simp only [ls,lz];exact rfl) ?_
    refine ZY rfl rfl (Zg rfl rfl rfl (by kernel_rfl) (by simp [hone.1,hone.2.1,hone.2.2,show ∀ k n,(Value.int k n).oneCell' = true from fun _ _=>rfl]) q8 rfl) fun w5 hw=>?_
    replace q4:=Z5 hw q4 (by omega)
    replace q8:=Zz hw q8 rfl
    replace q25:=Z5 hw q25 (by omega)
    replace E:=Za E hw (fun h=>by first | exact absurd h (by omega) | simp)
    clear hw
    refine Z3 rfl rfl (Z8 (v:=.int .i64 _) rfl rfl) (by simp only [ls,lz];exact rfl) ?_
    refine wpList_nil ?_
    go_wp2
    refine bodyPost_ret (Z3T rfl rfl Try.underlying100 rfl (by kernel_rfl) q8 rfl) rfl ⟨?_,E⟩
    rw [Z2V H1.out,H1.out]
    rfl
 ·have HO:Hid (Z1o t xs = ce):=by show _ = _;rw [Z1o,if_pos (by rw [← Hce.out];exact c1),← Hce.out]
  have hb:(ce != 0) = true:=by simpa using c1
  go_upto_region 3 with (fail)
  refine wp_region_lit ?_
  refine Z3 rfl rfl (ZZ rfl (cells:=Z30) (by kernel_rfl)) (by simp only [ls,lz];exact rfl) ?_
  refine Z3 rfl rfl (Zi (v:=.int .i64 _) rfl rfl) (by simp only [ls,lz];exact rfl) ?_
  refine ZY rfl rfl (Zg rfl rfl rfl (by kernel_rfl) (by simp [Z30,Value.oneCell']) q8 rfl) fun w4 hw=>?_
  replace q4:=Z5 hw q4 (by omega)
  replace q8:=Zz hw q8 rfl
  replace E:=Za E hw (fun h=>by first | exact absurd h (by omega) | simp)
  clear hw
  refine Z3 rfl rfl (Z8 (v:=.int .i64 _) rfl rfl) (by simp only [ls,lz];exact rfl) ?_
  refine wpList_nil ?_
  go_wp2
  refine bodyPost_ret (Z3T rfl rfl Try.underlying100 rfl (by kernel_rfl) q8 rfl) rfl ⟨?_,E⟩
  rw [Z3e (by rw [HO.out];exact c1),HO.out]
  rfl
theorem Z31 {w w':World} {base:Nat} {e:TypeId} {size:Nat} {v:Value} {n:Nat} {xs:List Value} (h:w.ownsRow base e size v n xs) (k:∀ (g:Nat) (o:Obj),base ≤ g → w.heap[g]? = some o → w'.heap[g]? = some o):w'.ownsRow base e size v n xs:=by
 refine ⟨h.1,?_⟩
 rcases h.2 with h | ⟨g,cap,cur,h1,h2,h3,h4⟩
 ·exact .inl h
 ·exact .inr ⟨g,cap,cur,h1,h2,k g _ h2 h3,h4⟩
theorem Zq {X:List Nat} {w w':World} {base:Nat} {e:TypeId} {size:Nat} {v:Value} {n:Nat} {xs:List Value} (h:w.ownsRow base e size v n xs) (E:Ext X w w') (hx:∀ b ∈ X,b < base):w'.ownsRow base e size v n xs:=
 Z31 h fun g o hg ho=>E.keep ho fun hm=>by have:=hx g hm;omega
theorem Z10 {w w2:World} {c o:Nat} {l:List Value} {base:Nat} {e:TypeId} {size:Nat} {v:Value} {n:Nat} {xs:List Value} (hw:w2 = w.setCells c o l) (h:w.ownsRow base e size v n xs) (hb:c < base):w2.ownsRow base e size v n xs:=
 Z31 h fun g x hg ho=>Z5 hw ho (by omega)
theorem Z1q {w w2:World} {c o:Nat} {u:Value} {base:Nat} {e:TypeId} {size:Nat} {v:Value} {n:Nat} {xs:List Value} (hw:w2 = w.setCell ⟨c,o,none⟩ u) (h:w.ownsRow base e size v n xs) (hb:c < base):w2.ownsRow base e size v n xs:=
 Z31 h fun g x hg ho=>ZA hw ho (by omega)
theorem Zc {w w2:World} {ob:Obj} {base:Nat} {e:TypeId} {size:Nat} {v:Value} {n:Nat} {xs:List Value} (hw:w2 = w.alloc ob) (h:w.ownsRow base e size v n xs):w2.ownsRow base e size v n xs:=
 Z31 h fun g x hg ho=>Z1 hw ho
theorem ZW {w w2:World} {base:Nat} {e:TypeId} {size:Nat} {v:Value} {n:Nat} {xs:List Value} (hw:w2.heap = w.heap) (h:w.ownsRow base e size v n xs):w2.ownsRow base e size v n xs:=
 Z31 h fun g x hg ho=>Zn hw ho
theorem Z42 {w0 w w':World} {base:Nat} {e:TypeId} {size:Nat} {v:Value} {n:Nat} {xs:List Value} (E:Ext [] w0 w) (h:w.ownsRow base e size v n xs) (hg:w.grownBy w' v.ownBlock) (hb:w0.heap.size ≤ base):Ext [] w0 w':=
 Ext.of_below (E.below.grown hg E.size fun k hk=>by have:=h.lt k hk;omega)
theorem Z4E {w w':World} {base:Nat} {e:TypeId} {size:Nat} {v:Value} {n:Nat} {xs:List Value} {b:Nat} {o:Obj} (h:w.ownsRow base e size v n xs) (hg:w.grownBy w' v.ownBlock) (q:w.heap[b]? = some o) (hb:b < base):w'.heap[b]? = some o:=by
 rw [hg.block b (Z7 q) fun hk=>by have:=h.lt b hk.symm;omega,q]
theorem Z5O {w w':World} {g b n c:Nat} {o:Obj} (hg:w.grownBy w' (Value.ownBlock (.slice (some ⟨g,0,none⟩) n c))) (q:w.heap[b]? = some o) (hb:b ≠ g):w'.heap[b]? = some o:=by
 rw [hg.block b (Z7 q) fun hk=>hb (by cases hk;rfl),q]
theorem Z3K {w:World} {base b n size:Nat} {cs:List Value} {e:TypeId} (h:w.heap[b]? = some (.cells cs.toArray e (0,0))) (hb:base ≤ b) (hl:cs.length = n * size) (hn:n ≤ 1000000):w.ownsRow base e size (.slice (some ⟨b,0,none⟩) n n) n cs:=
 ⟨hl,.inr ⟨b,n,_,rfl,hb,h,Nat.le_refl _,by simp only [maxLen];omega,by simpa using hl,by rw [← hl];simp⟩⟩
theorem Z9S {w:World} {base n size m c:Nat} {a:Option Addr} {cs:List Value} {e:TypeId} (h:w.ownsRow base e size (.slice a m c) n cs):n ≤ c:=by
 rcases h.2 with ⟨hv,hn⟩ | ⟨g,cap,cur,hv,h1,h2,h3,-⟩
 ·omega
 ·cases hv;exact h3
theorem Z13 {α:Type} {w:World} {base:Nat} {e:TypeId} {sz:Nat} {v:Value} {xs:List α} {row:α → List Value} (h:w.ownsRow base e sz v xs.length ((xs.map row).flatten)) (hr:∀ x,(row x).length = sz):Z0E w v sz (xs.map row):=by
 have flat:∀ (ys:List α) (i j:Nat) (x:List Value),(ys.map row)[i]? = some x → j < sz → (ys.map row).flatten[i * sz + j]? = x[j]?:=by
  intro ys
  induction ys with
  | nil=>intro i j x hi;simp at hi
  | cons y ys ih =>
   intro i j x hi hj
   simp only [List.map_cons,List.flatten_cons]
   cases i with
   | zero =>
    simp at hi;subst hi
    rw [List.getElem?_append_left (by rw [hr];omega)];simp
   | succ i =>
    rw [List.getElem?_append_right (by rw [hr,Nat.add_mul];omega),hr,show (i + 1) * sz + j - sz = i * sz + j by rw [Nat.add_mul];omega]
    exact ih i j x (by simpa using hi) hj
 rcases h.2 with ⟨hv,hn⟩ | ⟨g,cap,cur,hv,hb,hg,h1,h2,h3,h4⟩
 ·obtain rfl:xs = []:=List.length_eq_zero_iff.1 hn
  exact ⟨none,0,by simpa using hv,by simp,fun h=>absurd rfl h⟩
 ·refine ⟨some ⟨g,0,none⟩,cap,by simpa using hv,fun x hx=>?_,fun _=>⟨g,0,rfl,Z7 hg,fun i j x hi hj=>?_⟩⟩
  ·obtain ⟨y,-,rfl⟩:=List.mem_map.1 hx;exact hr y
  ·have hf:=flat xs i j x hi hj
   rw [Z0 hg,← hf,← h4,Nat.zero_add,List.getElem?_take,if_pos,Array.getElem?_toList]
   have hil:i < xs.length:=by have:=(List.getElem?_eq_some_iff.1 hi).1;simpa using this
   calc i * sz + j < i * sz + sz:=by omega
    _ = (i + 1) * sz:=by rw [Nat.add_mul];omega
    _ ≤ xs.length * sz:=Nat.mul_le_mul_right _ hil
theorem Zs {w:World} {base:Nat} {e:TypeId} {sz:Nat} {v:Value} {n:Nat} {xs:List Value} (h:w.ownsRow base e sz v n xs):∃ a cap,v = .slice a n cap:=by
 rcases h.2 with ⟨hv,hn⟩ | ⟨g,cap,cur,hv,-⟩
 ·subst hn;exact ⟨none,0,hv⟩
 ·exact ⟨_,_,hv⟩
section
variable {P:Program} {ops:Array Oper} {Q:Exit → Act → World → Prop} {o:Oper} {rest:List Oper} {w:World}
theorem Z1G {l:List Value} {ds:List Deferred} {d:Tmp} {s x:Operand} {t:TypeId} (hd:o.dst = some d) (hw:Region.wanted o (yielded ops l.toArray) = true)
  (ho:o.op = .call { callee:=.builtin .append,args:=#[s,x],argTypes:=#[t,t] })
  (base:Nat) {e:TypeId} {size bytes:Nat} (ht:P.underlying t = some (.slice e)) (hi:(P.info? e).map (fun i=>(i.size,i.bytes,i.zero.map (·.cells.size))) = some (size,bytes,some size)) (hsz:0 < size)
  {v:Value} {n:Nat} {xs:List Value} (hs:(Act.mk l.toArray ds).eval s = v) (hown:w.ownsRow base e size v n xs)
  {g c:Nat} {T:TypeId} {fz:Nat × Nat} {news:List Value} (hx:(Act.mk l.toArray ds).eval x = .slice (some ⟨g,0,none⟩) 1 c) (hg:w.heap[g]? = some (.cells news.toArray T fz)) (hl:news.length = size) (h1:∀ u ∈ news,u.oneCell' = true)
  (hn:n ≤ 1000000) (hbytes:(n + 1) * bytes ≤ 140737488355328) (hbase:base ≤ w.heap.size)
  (h:∀ v' w',w'.ownsRow base e size v' (n + 1) (xs ++ news) → w.grownBy w' v.ownBlock → ∃ l',l.set d v' = l' ∧ wpList P ops Q rest ⟨l'.toArray,ds⟩ w'):wpList P ops Q (o :: rest) ⟨l.toArray,ds⟩ w:=by
 cases hq:P.info? e with
 | none=>simp [hq] at hi
 | some i =>
  simp only [hq,Option.map_some,Option.some.injEq,Prod.mk.injEq,Option.map_eq_some_iff] at hi
  obtain ⟨hi1,hi2,z,hz,hz2⟩:=hi
  obtain ⟨v',w',hr,h2,h3,-⟩:=run_append_own (P:=P) w base t o.type e i z size bytes ht hq hz hi1 hi2 hz2 hsz v n xs hown ⟨g,0,none⟩ 1 c news (by omega) (fun j u hu=>by
   rw [Addr.add_lit,Nat.zero_add,Z0 hg];simpa using hu) h1 (by simp only [maxLen];omega) hbytes hbase
  have hrun:(execOp (Act.eval ⟨l.toArray,ds⟩) o).run P w = .ok (.value v') w':=by
   unfold execOp
   simp only [ho,resolve,invoke,builtin,Sem.run_bind,Sem.run_pure,Result.andThen_ok,List.map_toArray,List.map_cons,List.map_nil,hs,hx,hr]
  obtain ⟨l',hl',h4⟩:=h v' w' h2 h3
  exact Z3 hd hw hrun hl' h4
end
end Go.Proofs.Ytholfdgebdlgjaa
