/- Parts of a proof: Vt. No conditions. -/
import Derived.Test.YtholfdgebdlgjaaPE7
import Derived.Test.YtholfdgebdlgjaaPE9
import Derived.Test.YtholfdgebdlgjaaPE10
set_option linter.unusedVariables false
set_option linter.unusedSimpArgs false
namespace Go.Proofs.Ytholfdgebdlgjaa
open Go.RowKit
def Za8 (t:Tp) (w:World) (e:Ending) (w':World):Prop:=∃ gv rv lv,e = .returned (tpV t gv rv lv) ∧ Zbj w' w.heap.size gv rv lv t ∧ Ext [] w w'
set_option maxRecDepth 100000 in
theorem Z3L (t:Tp) (ga ra la:Option Addr) (gc rc lc:Nat) (w:World) (h:IsTp w (.slice ga t.gr.length gc) (.slice ra t.rd.length rc) (.slice la t.lk.length lc) t) (h1:t.gr.length ≤ 1000) (h2:t.rd.length ≤ 1000) (h3:t.lk.length ≤ 1000) :
  Calls Try.prog 28 #[tpV t (.slice ga t.gr.length gc) (.slice ra t.rd.length rc) (.slice la t.lk.length lc)] w (Za8 t w):=by
 have HG:Hid (∀ W,Ext [] w W → SrcAt W 2 ga t.gr.length (Z4U t.gr)):=fun W E=>Z2R (h.gr.ext E (by simp)) (by decide) (fun _=>rfl) Zbv
 have HR:Hid (∀ W,Ext [] w W → SrcAt W 4 ra t.rd.length (Z37 t.rd)):=fun W E=>Z2R (h.rd.ext E (by simp)) (by decide) (fun _=>rfl) Zbh
 have HK:Hid (∀ W,Ext [] w W → SrcAt W 6 la t.lk.length (Z4z t.lk)):=fun W E=>Z2R (h.lk.ext E (by simp)) (by decide) (fun _=>rfl) Zbw
 clear h
 have E:Ext [] w w:=Ext.refl _ _
 unfold tpV
 refine Z01 19 Try.func28 rfl Try.ntmps28 (Nat.le_of_ble_eq_true rfl) ?_
 intro fa F
 refine wp_seq_k fun K1 hK1=>?_
 refine wp_region_lit ?_
 refine Z00 F rfl (by decide) rfl (Z0z rfl (F.at rfl)) ?_;clear F fa;intro fa w1 F hw
 obtain ⟨n1,hn⟩:∃ n,n = w.heap.size:=⟨_,rfl⟩
 rw [← hn] at F
 have s1:w.heap.size ≤ n1:=Nat.le_of_eq hn.symm
 have l1_E:w.heap.size ≤ n1:=by rw [hn];exact E.size
 replace E:=Z2 E hw
 have q1:=Zr hw hn
 clear hw hn
 refine Z00 F rfl (by decide) rfl (ZB rfl Try.zeroValue28) ?_;clear F fa;intro fa w2 F hw
 obtain ⟨n2,hn⟩:∃ n,n = w1.heap.size:=⟨_,rfl⟩
 rw [← hn] at F
 have s2:w1.heap.size ≤ n2:=Nat.le_of_eq hn.symm
 have l2_E:w.heap.size ≤ n2:=by rw [hn];exact E.size
 have m2_1:n1 < n2:=by rw [hn];exact Z7 q1
 replace q1:=Z1 hw q1
 replace E:=Z2 E hw
 have q2:=Zr hw hn
 clear hw hn
 refine wpList_nil ?_
 refine hK1 _ _ ?_
 clear hK1
 refine wp_seq_k fun K2 hK2=>?_
 suffices hcut:∀ (va6 va10 va14:Option Addr) (vc6 vc10 vc14:Nat) (fa:Act) (w116:World),Has 19 fa [(1,.pointer (some ⟨n1,0,none⟩)),(2,.pointer (some ⟨n2,0,none⟩))] → w116.heap[n1]? = some (.cells #[.int .i64 t.S,.int .i64 t.A,.int .i64 t.T,.int .i64 t.bl,.int .i64 t.bm,.int .i64 t.pl,.int .i64 t.pm,.int .i64 t.sl,.slice va6 t.gr.length vc6,.slice va10 t.rd.length vc10,.slice va14 t.lk.length vc14] 28 (0,0)) → w116.heap[n2]? = some (.cells #[.int .i64 0,.int .i64 0,.int .i64 0,.int .i64 0,.int .i64 0,.int .i64 0,.int .i64 0,.int .i64 0,.slice none 0 0,.slice none 0 0,.slice none 0 0] 28 (0,0)) → Ext [] w w116 → w116.ownsRow w.heap.size 23 2 (.slice va6 t.gr.length vc6) t.gr.length (Z4U t.gr) → w116.ownsRow w.heap.size 66 4 (.slice va10 t.rd.length vc10) t.rd.length (Z37 t.rd) → w116.ownsRow w.heap.size 75 6 (.slice va14 t.lk.length vc14) t.lk.length (Z4z t.lk) → K2 fa w116 by
  refine Z0P (Ext [] w2) (some 13) follows fun w3 hh eh=>?_
  have q1_:=q1
  replace q1:=Zn hh q1
  have q2_:=q2
  replace q2:=Zn hh q2
  have E_:=E
  have zEw3:=E.size
  replace E:=Z4 E eh
  have eT:=eh
  clear hh eh
  refine F.x (i:=1) rfl (fun w'=>Z9 rfl (F.at rfl) Try.underlying28 rfl (n:=8) (sz:=1) rfl (by kernel_rfl) (by decide)) (fun _=>eT) ?_;clear F fa;intro fa F
  refine F.xr (i:=2) rfl (fun w' hS=>Zh rfl (F.at rfl) Try.underlying24 rfl ((Z0 (hS.keep q1_ (by simp)) 8).trans (getS (getS (getS (getS (getS (getS (getS (getS (get0))))))))))) (fun _=>eT) ?_;clear F fa;intro fa F
  refine F.x (i:=5) rfl (fun w'=>Z9 rfl (F.at rfl) Try.underlying28 rfl (n:=9) (sz:=1) rfl (by kernel_rfl) (by decide)) (fun _=>eT) ?_;clear F fa;intro fa F
  refine F.xr (i:=6) rfl (fun w' hS=>Zh rfl (F.at rfl) Try.underlying25 rfl ((Z0 (hS.keep q1_ (by simp)) 9).trans (getS (getS (getS (getS (getS (getS (getS (getS (getS (get0)))))))))))) (fun _=>eT) ?_;clear F fa;intro fa F
  refine F.x (i:=9) rfl (fun w'=>Z9 rfl (F.at rfl) Try.underlying28 rfl (n:=10) (sz:=1) rfl (by kernel_rfl) (by decide)) (fun _=>eT) ?_;clear F fa;intro fa F
  refine F.xr (i:=10) rfl (fun w' hS=>Zh rfl (F.at rfl) Try.underlying26 rfl ((Z0 (hS.keep q1_ (by simp)) 10).trans (getS (getS (getS (getS (getS (getS (getS (getS (getS (getS (get0))))))))))))) (fun _=>eT) ?_;clear F fa;intro fa F
  refine Z7z (i:=0) (j:=4) (k:=8) (by kernel_rfl) ?_ ?_ ?_
  ·skip
   refine (Z0w F rfl rfl (by decide) rfl (ZT rfl Try.underlying24 (size:=2) (by kernel_rfl)) ?_);clear F fa;intro fa w4 F hw
   obtain ⟨n3,hn⟩:∃ n,n = w3.heap.size:=⟨_,rfl⟩
   rw [← hn] at F
   have s3:w3.heap.size ≤ n3:=Nat.le_of_eq hn.symm
   have l3_E:w.heap.size ≤ n3:=by rw [hn];exact E.size
   have lT3:w2.heap.size ≤ n3:=by rw [hn];exact eT.size
   have m3_1:n1 < n3:=by rw [hn];exact Z7 q1
   have m3_2:n2 < n3:=by rw [hn];exact Z7 q2
   replace q1:=Z1 hw q1
   replace q2:=Z1 hw q2
   replace E:=Z2 E hw
   replace eT:=Z2 eT hw
   have q3:=Zw hw hn
   clear hw hn
   refine ⟨fun _=>eT,?_⟩
   refine Z7z (i:=3) (j:=4) (k:=8) (by kernel_rfl) ?_ ?_ ?_
   ·skip
    have ho6:=ZS (base:=w2.heap.size) (size:=2) q3 (by omega)
    have hbl:=Z7 q3
    have hTs:=eT.size
    clear q3
    refine (Z0f F rfl rfl (by decide) rfl (ZN rfl (w2.heap.size) (e:=23) (size:=2) (bytes:=16) Try.underlying24 (by kernel_rfl) (by decide) (F.at rfl) ho6 (F.at rfl) (HG.out _ E) (by omega) (by omega) (by omega)) ?_);clear F fa;rintro fa v' w5 F ⟨hown',hg⟩
    rw [Nat.zero_add,List.nil_append] at hown'
    clear hbl
    obtain ⟨va6,vc6,rfl⟩:=Zs hown'
    replace q1:=Zb ho6 hg q1 (by decide)
    replace q2:=Zb ho6 hg q2 (by decide)
    replace E:=Zd E ho6 hg (by omega)
    replace eT:=Zd eT ho6 hg (by omega)
    replace ho6:=hown'
    clear hg
    refine ⟨fun _=>eT,?_⟩
    replace ho6:=ZH (base':=w.heap.size) ho6 (by omega)
    refine F.x (i:=12) rfl (fun w'=>Z9 rfl (F.at rfl) Try.underlying28 rfl (n:=8) (sz:=1) rfl (by kernel_rfl) (by decide)) (fun _=>eT) ?_;clear F fa;intro fa F
    refine Z19 (i:=4) (j:=8) (by kernel_rfl) ?_ ?_
    ·skip
     refine (Z0w F rfl rfl (by decide) rfl (ZT rfl Try.underlying25 (size:=4) (by kernel_rfl)) ?_);clear F fa;intro fa w6 F hw
     obtain ⟨n7,hn⟩:∃ n,n = w5.heap.size:=⟨_,rfl⟩
     rw [← hn] at F
     have s7:w5.heap.size ≤ n7:=Nat.le_of_eq hn.symm
     have l7_E:w.heap.size ≤ n7:=by rw [hn];exact E.size
     have lT7:w2.heap.size ≤ n7:=by rw [hn];exact eT.size
     have m7_1:n1 < n7:=by rw [hn];exact Z7 q1
     have m7_2:n2 < n7:=by rw [hn];exact Z7 q2
     have o7_ho6:=Lib.hid (Zo ho6 hn)
     replace ho6:=Zc hw ho6
     replace q1:=Z1 hw q1
     replace q2:=Z1 hw q2
     replace E:=Z2 E hw
     replace eT:=Z2 eT hw
     have q7:=Zw hw hn
     clear hw hn
     refine ⟨fun _=>eT,?_⟩
     refine Z19 (i:=7) (j:=8) (by kernel_rfl) ?_ ?_
     ·skip
      have ho10:=ZS (base:=w2.heap.size) (size:=4) q7 (by omega)
      have hbl:=Z7 q7
      have hTs:=eT.size
      clear q7
      refine (Z0f F rfl rfl (by decide) rfl (ZN rfl (w2.heap.size) (e:=66) (size:=4) (bytes:=32) Try.underlying25 (by kernel_rfl) (by decide) (F.at rfl) ho10 (F.at rfl) (HR.out _ E) (by omega) (by omega) (by omega)) ?_);clear F fa;rintro fa v' w7 F ⟨hown',hg⟩
      rw [Nat.zero_add,List.nil_append] at hown'
      clear hbl
      obtain ⟨va10,vc10,rfl⟩:=Zs hown'
      replace q1:=Zb ho10 hg q1 (by decide)
      replace q2:=Zb ho10 hg q2 (by decide)
      replace ho6:=Zx ho6 ho10 hg (by decide)
      replace E:=Zd E ho10 hg (by omega)
      replace eT:=Zd eT ho10 hg (by omega)
      replace ho10:=hown'
      clear hg
      refine ⟨fun _=>eT,?_⟩
      replace ho10:=ZH (base':=w.heap.size) ho10 (by omega)
      refine Zv (i:=8) (by kernel_rfl) (Z0w F rfl rfl (by decide) rfl (ZT rfl Try.underlying26 (size:=6) (by kernel_rfl)) ?_);clear F fa;intro fa w8 F hw
      obtain ⟨n11,hn⟩:∃ n,n = w7.heap.size:=⟨_,rfl⟩
      rw [← hn] at F
      have s11:w7.heap.size ≤ n11:=Nat.le_of_eq hn.symm
      have l11_E:w.heap.size ≤ n11:=by rw [hn];exact E.size
      have lT11:w2.heap.size ≤ n11:=by rw [hn];exact eT.size
      have m11_1:n1 < n11:=by rw [hn];exact Z7 q1
      have m11_2:n2 < n11:=by rw [hn];exact Z7 q2
      have o11_ho6:=Lib.hid (Zo ho6 hn)
      have o11_ho10:=Lib.hid (Zo ho10 hn)
      replace ho6:=Zc hw ho6
      replace ho10:=Zc hw ho10
      replace q1:=Z1 hw q1
      replace q2:=Z1 hw q2
      replace E:=Z2 E hw
      replace eT:=Z2 eT hw
      have q11:=Zw hw hn
      clear hw hn
      refine ⟨fun _=>eT,?_⟩
      have ho14:=ZS (base:=w2.heap.size) (size:=6) q11 (by omega)
      have hbl:=Z7 q11
      have hTs:=eT.size
      clear q11
      refine Zv (i:=11) (by kernel_rfl) (Z0f F rfl rfl (by decide) rfl (ZN rfl (w2.heap.size) (e:=75) (size:=6) (bytes:=48) Try.underlying26 (by kernel_rfl) (by decide) (F.at rfl) ho14 (F.at rfl) (HK.out _ E) (by omega) (by omega) (by omega)) ?_);clear F fa;rintro fa v' w9 F ⟨hown',hg⟩
      rw [Nat.zero_add,List.nil_append] at hown'
      clear hbl
      obtain ⟨va14,vc14,rfl⟩:=Zs hown'
      replace q1:=Zb ho14 hg q1 (by decide)
      replace q2:=Zb ho14 hg q2 (by decide)
      replace ho6:=Zx ho6 ho14 hg (by decide)
      replace ho10:=Zx ho10 ho14 hg (by decide)
      replace E:=Zd E ho14 hg (by omega)
      replace eT:=Zd eT ho14 hg (by omega)
      replace ho14:=hown'
      clear hg
      refine ⟨fun _=>eT,?_⟩
      replace ho14:=ZH (base':=w.heap.size) ho14 (by omega)
      refine Zv (i:=13) (by kernel_rfl) (Z0u rfl rfl rfl (ZR rfl (F.at rfl) (F.at rfl) rfl (by kernel_rfl) ((Z0 q1 8).trans (getS (getS (getS (getS (getS (getS (getS (getS (get0)))))))))) (Zl q1 8)) ?_);intro w10 hw
      replace ho6:=Ze hw ho6 (Z6 ho6 q1 (by decide))
      replace ho10:=Ze hw ho10 (Z6 ho10 q1 (by decide))
      replace ho14:=Ze hw ho14 (Z6 ho14 q1 (by decide))
      replace q1:=ZK hw q1 (by simp only [List.setIfInBounds_toArray,ls,lz];exact rfl)
      replace q2:=ZA hw q2 (by omega)
      replace E:=ZF E hw (fun h=>by first | exact absurd h (by omega) | simp)
      clear hw
      refine ⟨gone (by kernel_rfl),?_⟩
      refine F.x (i:=14) rfl (fun w'=>Z9 rfl (F.at rfl) Try.underlying28 rfl (n:=9) (sz:=1) rfl (by kernel_rfl) (by decide)) (gone (by kernel_rfl)) ?_;clear F fa;intro fa F
      refine Zv (i:=15) (by kernel_rfl) (Z0u rfl rfl rfl (ZR rfl (F.at rfl) (F.at rfl) rfl (by kernel_rfl) ((Z0 q1 9).trans (getS (getS (getS (getS (getS (getS (getS (getS (getS (get0))))))))))) (Zl q1 9)) ?_);intro w11 hw
      replace ho6:=Ze hw ho6 (Z6 ho6 q1 (by decide))
      replace ho10:=Ze hw ho10 (Z6 ho10 q1 (by decide))
      replace ho14:=Ze hw ho14 (Z6 ho14 q1 (by decide))
      replace q1:=ZK hw q1 (by simp only [List.setIfInBounds_toArray,ls,lz];exact rfl)
      replace q2:=ZA hw q2 (by omega)
      replace E:=ZF E hw (fun h=>by first | exact absurd h (by omega) | simp)
      clear hw
      refine ⟨gone (by kernel_rfl),?_⟩
      refine F.x (i:=16) rfl (fun w'=>Z9 rfl (F.at rfl) Try.underlying28 rfl (n:=10) (sz:=1) rfl (by kernel_rfl) (by decide)) (gone (by kernel_rfl)) ?_;clear F fa;intro fa F
      refine Zv (i:=17) (by kernel_rfl) (Z0u rfl rfl rfl (ZR rfl (F.at rfl) (F.at rfl) rfl (by kernel_rfl) ((Z0 q1 10).trans (getS (getS (getS (getS (getS (getS (getS (getS (getS (getS (get0)))))))))))) (Zl q1 10)) ?_);intro w12 hw
      replace ho6:=Ze hw ho6 (Z6 ho6 q1 (by decide))
      replace ho10:=Ze hw ho10 (Z6 ho10 q1 (by decide))
      replace ho14:=Ze hw ho14 (Z6 ho14 q1 (by decide))
      replace q1:=ZK hw q1 (by simp only [List.setIfInBounds_toArray,ls,lz];exact rfl)
      replace q2:=ZA hw q2 (by omega)
      replace E:=ZF E hw (fun h=>by first | exact absurd h (by omega) | simp)
      clear hw
      refine ⟨gone (by kernel_rfl),?_⟩
      refine Z0a (by kernel_rfl) ?_ _
      exact hcut _ _ _ _ _ _ _ _ (F.sub (.c 1 rfl (.c 2 rfl .n))) q1 q2 E ho6 ho10 ho14
     ·skip
      refine (Z0w F rfl rfl (by decide) rfl (ZT rfl Try.underlying26 (size:=6) (by kernel_rfl)) ?_);clear F fa;intro fa w13 F hw
      obtain ⟨n11,hn⟩:∃ n,n = w6.heap.size:=⟨_,rfl⟩
      rw [← hn] at F
      have s11:w6.heap.size ≤ n11:=Nat.le_of_eq hn.symm
      have l11_E:w.heap.size ≤ n11:=by rw [hn];exact E.size
      have lT11:w2.heap.size ≤ n11:=by rw [hn];exact eT.size
      have m11_1:n1 < n11:=by rw [hn];exact Z7 q1
      have m11_2:n2 < n11:=by rw [hn];exact Z7 q2
      have m11_7:n7 < n11:=by rw [hn];exact Z7 q7
      have o11_ho6:=Lib.hid (Zo ho6 hn)
      replace ho6:=Zc hw ho6
      replace q1:=Z1 hw q1
      replace q2:=Z1 hw q2
      replace q7:=Z1 hw q7
      replace E:=Z2 E hw
      replace eT:=Z2 eT hw
      have q11:=Zw hw hn
      clear hw hn
      refine ⟨fun _=>eT,?_⟩
      have ho10:=ZS (base:=w2.heap.size) (size:=4) q7 (by omega)
      have hbl:=Z7 q7
      have hTs:=eT.size
      clear q7
      refine Zv (i:=7) (by kernel_rfl) (Z0f F rfl rfl (by decide) rfl (ZN rfl (w2.heap.size) (e:=66) (size:=4) (bytes:=32) Try.underlying25 (by kernel_rfl) (by decide) (F.at rfl) ho10 (F.at rfl) (HR.out _ E) (by omega) (by omega) (by omega)) ?_);clear F fa;rintro fa v' w14 F ⟨hown',hg⟩
      rw [Nat.zero_add,List.nil_append] at hown'
      clear hbl
      obtain ⟨va10,vc10,rfl⟩:=Zs hown'
      replace q1:=Zb ho10 hg q1 (by decide)
      replace q2:=Zb ho10 hg q2 (by decide)
      replace q11:=Zb ho10 hg q11 (by decide)
      replace ho6:=Zx ho6 ho10 hg (by decide)
      replace E:=Zd E ho10 hg (by omega)
      replace eT:=Zd eT ho10 hg (by omega)
      replace ho10:=hown'
      clear hg
      refine ⟨fun _=>eT,?_⟩
      replace ho10:=ZH (base':=w.heap.size) ho10 (by omega)
      have ho14:=ZS (base:=w2.heap.size) (size:=6) q11 (by omega)
      have hbl:=Z7 q11
      have hTs:=eT.size
      clear q11
      refine Zv (i:=11) (by kernel_rfl) (Z0f F rfl rfl (by decide) rfl (ZN rfl (w2.heap.size) (e:=75) (size:=6) (bytes:=48) Try.underlying26 (by kernel_rfl) (by decide) (F.at rfl) ho14 (F.at rfl) (HK.out _ E) (by omega) (by omega) (by omega)) ?_);clear F fa;rintro fa v' w15 F ⟨hown',hg⟩
      rw [Nat.zero_add,List.nil_append] at hown'
      clear hbl
      obtain ⟨va14,vc14,rfl⟩:=Zs hown'
      replace q1:=Zb ho14 hg q1 (by decide)
      replace q2:=Zb ho14 hg q2 (by decide)
      replace ho6:=Zx ho6 ho14 hg (by decide)
      replace ho10:=Zx ho10 ho14 hg (by decide)
      replace E:=Zd E ho14 hg (by omega)
      replace eT:=Zd eT ho14 hg (by omega)
      replace ho14:=hown'
      clear hg
      refine ⟨fun _=>eT,?_⟩
      replace ho14:=ZH (base':=w.heap.size) ho14 (by omega)
      refine Zv (i:=13) (by kernel_rfl) (Z0u rfl rfl rfl (ZR rfl (F.at rfl) (F.at rfl) rfl (by kernel_rfl) ((Z0 q1 8).trans (getS (getS (getS (getS (getS (getS (getS (getS (get0)))))))))) (Zl q1 8)) ?_);intro w16 hw
      replace ho6:=Ze hw ho6 (Z6 ho6 q1 (by decide))
      replace ho10:=Ze hw ho10 (Z6 ho10 q1 (by decide))
      replace ho14:=Ze hw ho14 (Z6 ho14 q1 (by decide))
      replace q1:=ZK hw q1 (by simp only [List.setIfInBounds_toArray,ls,lz];exact rfl)
      replace q2:=ZA hw q2 (by omega)
      replace E:=ZF E hw (fun h=>by first | exact absurd h (by omega) | simp)
      clear hw
      refine ⟨gone (by kernel_rfl),?_⟩
      refine F.x (i:=14) rfl (fun w'=>Z9 rfl (F.at rfl) Try.underlying28 rfl (n:=9) (sz:=1) rfl (by kernel_rfl) (by decide)) (gone (by kernel_rfl)) ?_;clear F fa;intro fa F
      refine Zv (i:=15) (by kernel_rfl) (Z0u rfl rfl rfl (ZR rfl (F.at rfl) (F.at rfl) rfl (by kernel_rfl) ((Z0 q1 9).trans (getS (getS (getS (getS (getS (getS (getS (getS (getS (get0))))))))))) (Zl q1 9)) ?_);intro w17 hw
      replace ho6:=Ze hw ho6 (Z6 ho6 q1 (by decide))
      replace ho10:=Ze hw ho10 (Z6 ho10 q1 (by decide))
      replace ho14:=Ze hw ho14 (Z6 ho14 q1 (by decide))
      replace q1:=ZK hw q1 (by simp only [List.setIfInBounds_toArray,ls,lz];exact rfl)
      replace q2:=ZA hw q2 (by omega)
      replace E:=ZF E hw (fun h=>by first | exact absurd h (by omega) | simp)
      clear hw
      refine ⟨gone (by kernel_rfl),?_⟩
      refine F.x (i:=16) rfl (fun w'=>Z9 rfl (F.at rfl) Try.underlying28 rfl (n:=10) (sz:=1) rfl (by kernel_rfl) (by decide)) (gone (by kernel_rfl)) ?_;clear F fa;intro fa F
      refine Zv (i:=17) (by kernel_rfl) (Z0u rfl rfl rfl (ZR rfl (F.at rfl) (F.at rfl) rfl (by kernel_rfl) ((Z0 q1 10).trans (getS (getS (getS (getS (getS (getS (getS (getS (getS (getS (get0)))))))))))) (Zl q1 10)) ?_);intro w18 hw
      replace ho6:=Ze hw ho6 (Z6 ho6 q1 (by decide))
      replace ho10:=Ze hw ho10 (Z6 ho10 q1 (by decide))
      replace ho14:=Ze hw ho14 (Z6 ho14 q1 (by decide))
      replace q1:=ZK hw q1 (by simp only [List.setIfInBounds_toArray,ls,lz];exact rfl)
      replace q2:=ZA hw q2 (by omega)
      replace E:=ZF E hw (fun h=>by first | exact absurd h (by omega) | simp)
      clear hw
      refine ⟨gone (by kernel_rfl),?_⟩
      refine Z0a (by kernel_rfl) ?_ _
      exact hcut _ _ _ _ _ _ _ _ (F.sub (.c 1 rfl (.c 2 rfl .n))) q1 q2 E ho6 ho10 ho14
    ·skip
     refine (Z0w F rfl rfl (by decide) rfl (ZT rfl Try.underlying26 (size:=6) (by kernel_rfl)) ?_);clear F fa;intro fa w19 F hw
     obtain ⟨n11,hn⟩:∃ n,n = w5.heap.size:=⟨_,rfl⟩
     rw [← hn] at F
     have s11:w5.heap.size ≤ n11:=Nat.le_of_eq hn.symm
     have l11_E:w.heap.size ≤ n11:=by rw [hn];exact E.size
     have lT11:w2.heap.size ≤ n11:=by rw [hn];exact eT.size
     have m11_1:n1 < n11:=by rw [hn];exact Z7 q1
     have m11_2:n2 < n11:=by rw [hn];exact Z7 q2
     have o11_ho6:=Lib.hid (Zo ho6 hn)
     replace ho6:=Zc hw ho6
     replace q1:=Z1 hw q1
     replace q2:=Z1 hw q2
     replace E:=Z2 E hw
     replace eT:=Z2 eT hw
     have q11:=Zw hw hn
     clear hw hn
     refine ⟨fun _=>eT,?_⟩
     refine Zv (i:=4) (by kernel_rfl) (Z0w F rfl rfl (by decide) rfl (ZT rfl Try.underlying25 (size:=4) (by kernel_rfl)) ?_);clear F fa;intro fa w20 F hw
     obtain ⟨n7,hn⟩:∃ n,n = w19.heap.size:=⟨_,rfl⟩
     rw [← hn] at F
     have s7:w19.heap.size ≤ n7:=Nat.le_of_eq hn.symm
     have l7_E:w.heap.size ≤ n7:=by rw [hn];exact E.size
     have lT7:w2.heap.size ≤ n7:=by rw [hn];exact eT.size
     have m7_1:n1 < n7:=by rw [hn];exact Z7 q1
     have m7_2:n2 < n7:=by rw [hn];exact Z7 q2
     have m7_11:n11 < n7:=by rw [hn];exact Z7 q11
     have o7_ho6:=Lib.hid (Zo ho6 hn)
     replace ho6:=Zc hw ho6
     replace q1:=Z1 hw q1
     replace q2:=Z1 hw q2
     replace q11:=Z1 hw q11
     replace E:=Z2 E hw
     replace eT:=Z2 eT hw
     have q7:=Zw hw hn
     clear hw hn
     refine ⟨fun _=>eT,?_⟩
     have ho10:=ZS (base:=w2.heap.size) (size:=4) q7 (by omega)
     have hbl:=Z7 q7
     have hTs:=eT.size
     clear q7
     refine Zv (i:=7) (by kernel_rfl) (Z0f F rfl rfl (by decide) rfl (ZN rfl (w2.heap.size) (e:=66) (size:=4) (bytes:=32) Try.underlying25 (by kernel_rfl) (by decide) (F.at rfl) ho10 (F.at rfl) (HR.out _ E) (by omega) (by omega) (by omega)) ?_);clear F fa;rintro fa v' w21 F ⟨hown',hg⟩
     rw [Nat.zero_add,List.nil_append] at hown'
     clear hbl
     obtain ⟨va10,vc10,rfl⟩:=Zs hown'
     replace q1:=Zb ho10 hg q1 (by decide)
     replace q2:=Zb ho10 hg q2 (by decide)
     replace q11:=Zb ho10 hg q11 (by decide)
     replace ho6:=Zx ho6 ho10 hg (by decide)
     replace E:=Zd E ho10 hg (by omega)
     replace eT:=Zd eT ho10 hg (by omega)
     replace ho10:=hown'
     clear hg
     refine ⟨fun _=>eT,?_⟩
     replace ho10:=ZH (base':=w.heap.size) ho10 (by omega)
     have ho14:=ZS (base:=w2.heap.size) (size:=6) q11 (by omega)
     have hbl:=Z7 q11
     have hTs:=eT.size
     clear q11
     refine Zv (i:=11) (by kernel_rfl) (Z0f F rfl rfl (by decide) rfl (ZN rfl (w2.heap.size) (e:=75) (size:=6) (bytes:=48) Try.underlying26 (by kernel_rfl) (by decide) (F.at rfl) ho14 (F.at rfl) (HK.out _ E) (by omega) (by omega) (by omega)) ?_);clear F fa;rintro fa v' w22 F ⟨hown',hg⟩
     rw [Nat.zero_add,List.nil_append] at hown'
     clear hbl
     obtain ⟨va14,vc14,rfl⟩:=Zs hown'
     replace q1:=Zb ho14 hg q1 (by decide)
     replace q2:=Zb ho14 hg q2 (by decide)
     replace ho6:=Zx ho6 ho14 hg (by decide)
     replace ho10:=Zx ho10 ho14 hg (by decide)
     replace E:=Zd E ho14 hg (by omega)
     replace eT:=Zd eT ho14 hg (by omega)
     replace ho14:=hown'
     clear hg
     refine ⟨fun _=>eT,?_⟩
     replace ho14:=ZH (base':=w.heap.size) ho14 (by omega)
     refine Zv (i:=13) (by kernel_rfl) (Z0u rfl rfl rfl (ZR rfl (F.at rfl) (F.at rfl) rfl (by kernel_rfl) ((Z0 q1 8).trans (getS (getS (getS (getS (getS (getS (getS (getS (get0)))))))))) (Zl q1 8)) ?_);intro w23 hw
     replace ho6:=Ze hw ho6 (Z6 ho6 q1 (by decide))
     replace ho10:=Ze hw ho10 (Z6 ho10 q1 (by decide))
     replace ho14:=Ze hw ho14 (Z6 ho14 q1 (by decide))
     replace q1:=ZK hw q1 (by simp only [List.setIfInBounds_toArray,ls,lz];exact rfl)
     replace q2:=ZA hw q2 (by omega)
     replace E:=ZF E hw (fun h=>by first | exact absurd h (by omega) | simp)
     clear hw
     refine ⟨gone (by kernel_rfl),?_⟩
     refine F.x (i:=14) rfl (fun w'=>Z9 rfl (F.at rfl) Try.underlying28 rfl (n:=9) (sz:=1) rfl (by kernel_rfl) (by decide)) (gone (by kernel_rfl)) ?_;clear F fa;intro fa F
     refine Zv (i:=15) (by kernel_rfl) (Z0u rfl rfl rfl (ZR rfl (F.at rfl) (F.at rfl) rfl (by kernel_rfl) ((Z0 q1 9).trans (getS (getS (getS (getS (getS (getS (getS (getS (getS (get0))))))))))) (Zl q1 9)) ?_);intro w24 hw
     replace ho6:=Ze hw ho6 (Z6 ho6 q1 (by decide))
     replace ho10:=Ze hw ho10 (Z6 ho10 q1 (by decide))
     replace ho14:=Ze hw ho14 (Z6 ho14 q1 (by decide))
     replace q1:=ZK hw q1 (by simp only [List.setIfInBounds_toArray,ls,lz];exact rfl)
     replace q2:=ZA hw q2 (by omega)
     replace E:=ZF E hw (fun h=>by first | exact absurd h (by omega) | simp)
     clear hw
     refine ⟨gone (by kernel_rfl),?_⟩
     refine F.x (i:=16) rfl (fun w'=>Z9 rfl (F.at rfl) Try.underlying28 rfl (n:=10) (sz:=1) rfl (by kernel_rfl) (by decide)) (gone (by kernel_rfl)) ?_;clear F fa;intro fa F
     refine Zv (i:=17) (by kernel_rfl) (Z0u rfl rfl rfl (ZR rfl (F.at rfl) (F.at rfl) rfl (by kernel_rfl) ((Z0 q1 10).trans (getS (getS (getS (getS (getS (getS (getS (getS (getS (getS (get0)))))))))))) (Zl q1 10)) ?_);intro w25 hw
     replace ho6:=Ze hw ho6 (Z6 ho6 q1 (by decide))
     replace ho10:=Ze hw ho10 (Z6 ho10 q1 (by decide))
     replace ho14:=Ze hw ho14 (Z6 ho14 q1 (by decide))
     replace q1:=ZK hw q1 (by simp only [List.setIfInBounds_toArray,ls,lz];exact rfl)
     replace q2:=ZA hw q2 (by omega)
     replace E:=ZF E hw (fun h=>by first | exact absurd h (by omega) | simp)
     clear hw
     refine ⟨gone (by kernel_rfl),?_⟩
     refine Z0a (by kernel_rfl) ?_ _
     exact hcut _ _ _ _ _ _ _ _ (F.sub (.c 1 rfl (.c 2 rfl .n))) q1 q2 E ho6 ho10 ho14
   ·skip
    refine (Z0w F rfl rfl (by decide) rfl (ZT rfl Try.underlying25 (size:=4) (by kernel_rfl)) ?_);clear F fa;intro fa w26 F hw
    obtain ⟨n7,hn⟩:∃ n,n = w4.heap.size:=⟨_,rfl⟩
    rw [← hn] at F
    have s7:w4.heap.size ≤ n7:=Nat.le_of_eq hn.symm
    have l7_E:w.heap.size ≤ n7:=by rw [hn];exact E.size
    have lT7:w2.heap.size ≤ n7:=by rw [hn];exact eT.size
    have m7_1:n1 < n7:=by rw [hn];exact Z7 q1
    have m7_2:n2 < n7:=by rw [hn];exact Z7 q2
    have m7_3:n3 < n7:=by rw [hn];exact Z7 q3
    replace q1:=Z1 hw q1
    replace q2:=Z1 hw q2
    replace q3:=Z1 hw q3
    replace E:=Z2 E hw
    replace eT:=Z2 eT hw
    have q7:=Zw hw hn
    clear hw hn
    refine ⟨fun _=>eT,?_⟩
    refine Z19 (i:=3) (j:=8) (by kernel_rfl) ?_ ?_
    ·skip
     have ho6:=ZS (base:=w2.heap.size) (size:=2) q3 (by omega)
     have hbl:=Z7 q3
     have hTs:=eT.size
     clear q3
     refine (Z0f F rfl rfl (by decide) rfl (ZN rfl (w2.heap.size) (e:=23) (size:=2) (bytes:=16) Try.underlying24 (by kernel_rfl) (by decide) (F.at rfl) ho6 (F.at rfl) (HG.out _ E) (by omega) (by omega) (by omega)) ?_);clear F fa;rintro fa v' w27 F ⟨hown',hg⟩
     rw [Nat.zero_add,List.nil_append] at hown'
     clear hbl
     obtain ⟨va6,vc6,rfl⟩:=Zs hown'
     replace q1:=Zb ho6 hg q1 (by decide)
     replace q2:=Zb ho6 hg q2 (by decide)
     replace q7:=Zb ho6 hg q7 (by decide)
     replace E:=Zd E ho6 hg (by omega)
     replace eT:=Zd eT ho6 hg (by omega)
     replace ho6:=hown'
     clear hg
     refine ⟨fun _=>eT,?_⟩
     replace ho6:=ZH (base':=w.heap.size) ho6 (by omega)
     refine F.x (i:=12) rfl (fun w'=>Z9 rfl (F.at rfl) Try.underlying28 rfl (n:=8) (sz:=1) rfl (by kernel_rfl) (by decide)) (fun _=>eT) ?_;clear F fa;intro fa F
     refine Z19 (i:=7) (j:=8) (by kernel_rfl) ?_ ?_
     ·skip
      have ho10:=ZS (base:=w2.heap.size) (size:=4) q7 (by omega)
      have hbl:=Z7 q7
      have hTs:=eT.size
      clear q7
      refine (Z0f F rfl rfl (by decide) rfl (ZN rfl (w2.heap.size) (e:=66) (size:=4) (bytes:=32) Try.underlying25 (by kernel_rfl) (by decide) (F.at rfl) ho10 (F.at rfl) (HR.out _ E) (by omega) (by omega) (by omega)) ?_);clear F fa;rintro fa v' w28 F ⟨hown',hg⟩
      rw [Nat.zero_add,List.nil_append] at hown'
      clear hbl
      obtain ⟨va10,vc10,rfl⟩:=Zs hown'
      replace q1:=Zb ho10 hg q1 (by decide)
      replace q2:=Zb ho10 hg q2 (by decide)
      replace ho6:=Zx ho6 ho10 hg (by decide)
      replace E:=Zd E ho10 hg (by omega)
      replace eT:=Zd eT ho10 hg (by omega)
      replace ho10:=hown'
      clear hg
      refine ⟨fun _=>eT,?_⟩
      replace ho10:=ZH (base':=w.heap.size) ho10 (by omega)
      refine Zv (i:=8) (by kernel_rfl) (Z0w F rfl rfl (by decide) rfl (ZT rfl Try.underlying26 (size:=6) (by kernel_rfl)) ?_);clear F fa;intro fa w29 F hw
      obtain ⟨n11,hn⟩:∃ n,n = w28.heap.size:=⟨_,rfl⟩
      rw [← hn] at F
      have s11:w28.heap.size ≤ n11:=Nat.le_of_eq hn.symm
      have l11_E:w.heap.size ≤ n11:=by rw [hn];exact E.size
      have lT11:w2.heap.size ≤ n11:=by rw [hn];exact eT.size
      have m11_1:n1 < n11:=by rw [hn];exact Z7 q1
      have m11_2:n2 < n11:=by rw [hn];exact Z7 q2
      have o11_ho6:=Lib.hid (Zo ho6 hn)
      have o11_ho10:=Lib.hid (Zo ho10 hn)
      replace ho6:=Zc hw ho6
      replace ho10:=Zc hw ho10
      replace q1:=Z1 hw q1
      replace q2:=Z1 hw q2
      replace E:=Z2 E hw
      replace eT:=Z2 eT hw
      have q11:=Zw hw hn
      clear hw hn
      refine ⟨fun _=>eT,?_⟩
      have ho14:=ZS (base:=w2.heap.size) (size:=6) q11 (by omega)
      have hbl:=Z7 q11
      have hTs:=eT.size
      clear q11
      refine Zv (i:=11) (by kernel_rfl) (Z0f F rfl rfl (by decide) rfl (ZN rfl (w2.heap.size) (e:=75) (size:=6) (bytes:=48) Try.underlying26 (by kernel_rfl) (by decide) (F.at rfl) ho14 (F.at rfl) (HK.out _ E) (by omega) (by omega) (by omega)) ?_);clear F fa;rintro fa v' w30 F ⟨hown',hg⟩
      rw [Nat.zero_add,List.nil_append] at hown'
      clear hbl
      obtain ⟨va14,vc14,rfl⟩:=Zs hown'
      replace q1:=Zb ho14 hg q1 (by decide)
      replace q2:=Zb ho14 hg q2 (by decide)
      replace ho6:=Zx ho6 ho14 hg (by decide)
      replace ho10:=Zx ho10 ho14 hg (by decide)
      replace E:=Zd E ho14 hg (by omega)
      replace eT:=Zd eT ho14 hg (by omega)
      replace ho14:=hown'
      clear hg
      refine ⟨fun _=>eT,?_⟩
      replace ho14:=ZH (base':=w.heap.size) ho14 (by omega)
      refine Zv (i:=13) (by kernel_rfl) (Z0u rfl rfl rfl (ZR rfl (F.at rfl) (F.at rfl) rfl (by kernel_rfl) ((Z0 q1 8).trans (getS (getS (getS (getS (getS (getS (getS (getS (get0)))))))))) (Zl q1 8)) ?_);intro w31 hw
      replace ho6:=Ze hw ho6 (Z6 ho6 q1 (by decide))
      replace ho10:=Ze hw ho10 (Z6 ho10 q1 (by decide))
      replace ho14:=Ze hw ho14 (Z6 ho14 q1 (by decide))
      replace q1:=ZK hw q1 (by simp only [List.setIfInBounds_toArray,ls,lz];exact rfl)
      replace q2:=ZA hw q2 (by omega)
      replace E:=ZF E hw (fun h=>by first | exact absurd h (by omega) | simp)
      clear hw
      refine ⟨gone (by kernel_rfl),?_⟩
      refine F.x (i:=14) rfl (fun w'=>Z9 rfl (F.at rfl) Try.underlying28 rfl (n:=9) (sz:=1) rfl (by kernel_rfl) (by decide)) (gone (by kernel_rfl)) ?_;clear F fa;intro fa F
      refine Zv (i:=15) (by kernel_rfl) (Z0u rfl rfl rfl (ZR rfl (F.at rfl) (F.at rfl) rfl (by kernel_rfl) ((Z0 q1 9).trans (getS (getS (getS (getS (getS (getS (getS (getS (getS (get0))))))))))) (Zl q1 9)) ?_);intro w32 hw
      replace ho6:=Ze hw ho6 (Z6 ho6 q1 (by decide))
      replace ho10:=Ze hw ho10 (Z6 ho10 q1 (by decide))
      replace ho14:=Ze hw ho14 (Z6 ho14 q1 (by decide))
      replace q1:=ZK hw q1 (by simp only [List.setIfInBounds_toArray,ls,lz];exact rfl)
      replace q2:=ZA hw q2 (by omega)
      replace E:=ZF E hw (fun h=>by first | exact absurd h (by omega) | simp)
      clear hw
      refine ⟨gone (by kernel_rfl),?_⟩
      refine F.x (i:=16) rfl (fun w'=>Z9 rfl (F.at rfl) Try.underlying28 rfl (n:=10) (sz:=1) rfl (by kernel_rfl) (by decide)) (gone (by kernel_rfl)) ?_;clear F fa;intro fa F
      refine Zv (i:=17) (by kernel_rfl) (Z0u rfl rfl rfl (ZR rfl (F.at rfl) (F.at rfl) rfl (by kernel_rfl) ((Z0 q1 10).trans (getS (getS (getS (getS (getS (getS (getS (getS (getS (getS (get0)))))))))))) (Zl q1 10)) ?_);intro w33 hw
      replace ho6:=Ze hw ho6 (Z6 ho6 q1 (by decide))
      replace ho10:=Ze hw ho10 (Z6 ho10 q1 (by decide))
      replace ho14:=Ze hw ho14 (Z6 ho14 q1 (by decide))
      replace q1:=ZK hw q1 (by simp only [List.setIfInBounds_toArray,ls,lz];exact rfl)
      replace q2:=ZA hw q2 (by omega)
      replace E:=ZF E hw (fun h=>by first | exact absurd h (by omega) | simp)
      clear hw
      refine ⟨gone (by kernel_rfl),?_⟩
      refine Z0a (by kernel_rfl) ?_ _
      exact hcut _ _ _ _ _ _ _ _ (F.sub (.c 1 rfl (.c 2 rfl .n))) q1 q2 E ho6 ho10 ho14
     ·skip
      refine (Z0w F rfl rfl (by decide) rfl (ZT rfl Try.underlying26 (size:=6) (by kernel_rfl)) ?_);clear F fa;intro fa w34 F hw
      obtain ⟨n11,hn⟩:∃ n,n = w27.heap.size:=⟨_,rfl⟩
      rw [← hn] at F
      have s11:w27.heap.size ≤ n11:=Nat.le_of_eq hn.symm
      have l11_E:w.heap.size ≤ n11:=by rw [hn];exact E.size
      have lT11:w2.heap.size ≤ n11:=by rw [hn];exact eT.size
      have m11_1:n1 < n11:=by rw [hn];exact Z7 q1
      have m11_2:n2 < n11:=by rw [hn];exact Z7 q2
      have m11_7:n7 < n11:=by rw [hn];exact Z7 q7
      have o11_ho6:=Lib.hid (Zo ho6 hn)
      replace ho6:=Zc hw ho6
      replace q1:=Z1 hw q1
      replace q2:=Z1 hw q2
      replace q7:=Z1 hw q7
      replace E:=Z2 E hw
      replace eT:=Z2 eT hw
      have q11:=Zw hw hn
      clear hw hn
      refine ⟨fun _=>eT,?_⟩
      have ho10:=ZS (base:=w2.heap.size) (size:=4) q7 (by omega)
      have hbl:=Z7 q7
      have hTs:=eT.size
      clear q7
      refine Zv (i:=7) (by kernel_rfl) (Z0f F rfl rfl (by decide) rfl (ZN rfl (w2.heap.size) (e:=66) (size:=4) (bytes:=32) Try.underlying25 (by kernel_rfl) (by decide) (F.at rfl) ho10 (F.at rfl) (HR.out _ E) (by omega) (by omega) (by omega)) ?_);clear F fa;rintro fa v' w35 F ⟨hown',hg⟩
      rw [Nat.zero_add,List.nil_append] at hown'
      clear hbl
      obtain ⟨va10,vc10,rfl⟩:=Zs hown'
      replace q1:=Zb ho10 hg q1 (by decide)
      replace q2:=Zb ho10 hg q2 (by decide)
      replace q11:=Zb ho10 hg q11 (by decide)
      replace ho6:=Zx ho6 ho10 hg (by decide)
      replace E:=Zd E ho10 hg (by omega)
      replace eT:=Zd eT ho10 hg (by omega)
      replace ho10:=hown'
      clear hg
      refine ⟨fun _=>eT,?_⟩
      replace ho10:=ZH (base':=w.heap.size) ho10 (by omega)
      have ho14:=ZS (base:=w2.heap.size) (size:=6) q11 (by omega)
      have hbl:=Z7 q11
      have hTs:=eT.size
      clear q11
      refine Zv (i:=11) (by kernel_rfl) (Z0f F rfl rfl (by decide) rfl (ZN rfl (w2.heap.size) (e:=75) (size:=6) (bytes:=48) Try.underlying26 (by kernel_rfl) (by decide) (F.at rfl) ho14 (F.at rfl) (HK.out _ E) (by omega) (by omega) (by omega)) ?_);clear F fa;rintro fa v' w36 F ⟨hown',hg⟩
      rw [Nat.zero_add,List.nil_append] at hown'
      clear hbl
      obtain ⟨va14,vc14,rfl⟩:=Zs hown'
      replace q1:=Zb ho14 hg q1 (by decide)
      replace q2:=Zb ho14 hg q2 (by decide)
      replace ho6:=Zx ho6 ho14 hg (by decide)
      replace ho10:=Zx ho10 ho14 hg (by decide)
      replace E:=Zd E ho14 hg (by omega)
      replace eT:=Zd eT ho14 hg (by omega)
      replace ho14:=hown'
      clear hg
      refine ⟨fun _=>eT,?_⟩
      replace ho14:=ZH (base':=w.heap.size) ho14 (by omega)
      refine Zv (i:=13) (by kernel_rfl) (Z0u rfl rfl rfl (ZR rfl (F.at rfl) (F.at rfl) rfl (by kernel_rfl) ((Z0 q1 8).trans (getS (getS (getS (getS (getS (getS (getS (getS (get0)))))))))) (Zl q1 8)) ?_);intro w37 hw
      replace ho6:=Ze hw ho6 (Z6 ho6 q1 (by decide))
      replace ho10:=Ze hw ho10 (Z6 ho10 q1 (by decide))
      replace ho14:=Ze hw ho14 (Z6 ho14 q1 (by decide))
      replace q1:=ZK hw q1 (by simp only [List.setIfInBounds_toArray,ls,lz];exact rfl)
      replace q2:=ZA hw q2 (by omega)
      replace E:=ZF E hw (fun h=>by first | exact absurd h (by omega) | simp)
      clear hw
      refine ⟨gone (by kernel_rfl),?_⟩
      refine F.x (i:=14) rfl (fun w'=>Z9 rfl (F.at rfl) Try.underlying28 rfl (n:=9) (sz:=1) rfl (by kernel_rfl) (by decide)) (gone (by kernel_rfl)) ?_;clear F fa;intro fa F
      refine Zv (i:=15) (by kernel_rfl) (Z0u rfl rfl rfl (ZR rfl (F.at rfl) (F.at rfl) rfl (by kernel_rfl) ((Z0 q1 9).trans (getS (getS (getS (getS (getS (getS (getS (getS (getS (get0))))))))))) (Zl q1 9)) ?_);intro w38 hw
      replace ho6:=Ze hw ho6 (Z6 ho6 q1 (by decide))
      replace ho10:=Ze hw ho10 (Z6 ho10 q1 (by decide))
      replace ho14:=Ze hw ho14 (Z6 ho14 q1 (by decide))
      replace q1:=ZK hw q1 (by simp only [List.setIfInBounds_toArray,ls,lz];exact rfl)
      replace q2:=ZA hw q2 (by omega)
      replace E:=ZF E hw (fun h=>by first | exact absurd h (by omega) | simp)
      clear hw
      refine ⟨gone (by kernel_rfl),?_⟩
      refine F.x (i:=16) rfl (fun w'=>Z9 rfl (F.at rfl) Try.underlying28 rfl (n:=10) (sz:=1) rfl (by kernel_rfl) (by decide)) (gone (by kernel_rfl)) ?_;clear F fa;intro fa F
      refine Zv (i:=17) (by kernel_rfl) (Z0u rfl rfl rfl (ZR rfl (F.at rfl) (F.at rfl) rfl (by kernel_rfl) ((Z0 q1 10).trans (getS (getS (getS (getS (getS (getS (getS (getS (getS (getS (get0)))))))))))) (Zl q1 10)) ?_);intro w39 hw
      replace ho6:=Ze hw ho6 (Z6 ho6 q1 (by decide))
      replace ho10:=Ze hw ho10 (Z6 ho10 q1 (by decide))
      replace ho14:=Ze hw ho14 (Z6 ho14 q1 (by decide))
      replace q1:=ZK hw q1 (by simp only [List.setIfInBounds_toArray,ls,lz];exact rfl)
      replace q2:=ZA hw q2 (by omega)
      replace E:=ZF E hw (fun h=>by first | exact absurd h (by omega) | simp)
      clear hw
      refine ⟨gone (by kernel_rfl),?_⟩
      refine Z0a (by kernel_rfl) ?_ _
      exact hcut _ _ _ _ _ _ _ _ (F.sub (.c 1 rfl (.c 2 rfl .n))) q1 q2 E ho6 ho10 ho14
    ·skip
     refine (Z0w F rfl rfl (by decide) rfl (ZT rfl Try.underlying26 (size:=6) (by kernel_rfl)) ?_);clear F fa;intro fa w40 F hw
     obtain ⟨n11,hn⟩:∃ n,n = w26.heap.size:=⟨_,rfl⟩
     rw [← hn] at F
     have s11:w26.heap.size ≤ n11:=Nat.le_of_eq hn.symm
     have l11_E:w.heap.size ≤ n11:=by rw [hn];exact E.size
     have lT11:w2.heap.size ≤ n11:=by rw [hn];exact eT.size
     have m11_1:n1 < n11:=by rw [hn];exact Z7 q1
     have m11_2:n2 < n11:=by rw [hn];exact Z7 q2
     have m11_3:n3 < n11:=by rw [hn];exact Z7 q3
     have m11_7:n7 < n11:=by rw [hn];exact Z7 q7
     replace q1:=Z1 hw q1
     replace q2:=Z1 hw q2
     replace q3:=Z1 hw q3
     replace q7:=Z1 hw q7
     replace E:=Z2 E hw
     replace eT:=Z2 eT hw
     have q11:=Zw hw hn
     clear hw hn
     refine ⟨fun _=>eT,?_⟩
     have ho6:=ZS (base:=w2.heap.size) (size:=2) q3 (by omega)
     have hbl:=Z7 q3
     have hTs:=eT.size
     clear q3
     refine Zv (i:=3) (by kernel_rfl) (Z0f F rfl rfl (by decide) rfl (ZN rfl (w2.heap.size) (e:=23) (size:=2) (bytes:=16) Try.underlying24 (by kernel_rfl) (by decide) (F.at rfl) ho6 (F.at rfl) (HG.out _ E) (by omega) (by omega) (by omega)) ?_);clear F fa;rintro fa v' w41 F ⟨hown',hg⟩
     rw [Nat.zero_add,List.nil_append] at hown'
     clear hbl
     obtain ⟨va6,vc6,rfl⟩:=Zs hown'
     replace q1:=Zb ho6 hg q1 (by decide)
     replace q2:=Zb ho6 hg q2 (by decide)
     replace q7:=Zb ho6 hg q7 (by decide)
     replace q11:=Zb ho6 hg q11 (by decide)
     replace E:=Zd E ho6 hg (by omega)
     replace eT:=Zd eT ho6 hg (by omega)
     replace ho6:=hown'
     clear hg
     refine ⟨fun _=>eT,?_⟩
     replace ho6:=ZH (base':=w.heap.size) ho6 (by omega)
     refine F.x (i:=12) rfl (fun w'=>Z9 rfl (F.at rfl) Try.underlying28 rfl (n:=8) (sz:=1) rfl (by kernel_rfl) (by decide)) (fun _=>eT) ?_;clear F fa;intro fa F
     have ho10:=ZS (base:=w2.heap.size) (size:=4) q7 (by omega)
     have hbl:=Z7 q7
     have hTs:=eT.size
     clear q7
     refine Zv (i:=7) (by kernel_rfl) (Z0f F rfl rfl (by decide) rfl (ZN rfl (w2.heap.size) (e:=66) (size:=4) (bytes:=32) Try.underlying25 (by kernel_rfl) (by decide) (F.at rfl) ho10 (F.at rfl) (HR.out _ E) (by omega) (by omega) (by omega)) ?_);clear F fa;rintro fa v' w42 F ⟨hown',hg⟩
     rw [Nat.zero_add,List.nil_append] at hown'
     clear hbl
     obtain ⟨va10,vc10,rfl⟩:=Zs hown'
     replace q1:=Zb ho10 hg q1 (by decide)
     replace q2:=Zb ho10 hg q2 (by decide)
     replace q11:=Zb ho10 hg q11 (by decide)
     replace ho6:=Zx ho6 ho10 hg (by decide)
     replace E:=Zd E ho10 hg (by omega)
     replace eT:=Zd eT ho10 hg (by omega)
     replace ho10:=hown'
     clear hg
     refine ⟨fun _=>eT,?_⟩
     replace ho10:=ZH (base':=w.heap.size) ho10 (by omega)
     have ho14:=ZS (base:=w2.heap.size) (size:=6) q11 (by omega)
     have hbl:=Z7 q11
     have hTs:=eT.size
     clear q11
     refine Zv (i:=11) (by kernel_rfl) (Z0f F rfl rfl (by decide) rfl (ZN rfl (w2.heap.size) (e:=75) (size:=6) (bytes:=48) Try.underlying26 (by kernel_rfl) (by decide) (F.at rfl) ho14 (F.at rfl) (HK.out _ E) (by omega) (by omega) (by omega)) ?_);clear F fa;rintro fa v' w43 F ⟨hown',hg⟩
     rw [Nat.zero_add,List.nil_append] at hown'
     clear hbl
     obtain ⟨va14,vc14,rfl⟩:=Zs hown'
     replace q1:=Zb ho14 hg q1 (by decide)
     replace q2:=Zb ho14 hg q2 (by decide)
     replace ho6:=Zx ho6 ho14 hg (by decide)
     replace ho10:=Zx ho10 ho14 hg (by decide)
     replace E:=Zd E ho14 hg (by omega)
     replace eT:=Zd eT ho14 hg (by omega)
     replace ho14:=hown'
     clear hg
     refine ⟨fun _=>eT,?_⟩
     replace ho14:=ZH (base':=w.heap.size) ho14 (by omega)
     refine Zv (i:=13) (by kernel_rfl) (Z0u rfl rfl rfl (ZR rfl (F.at rfl) (F.at rfl) rfl (by kernel_rfl) ((Z0 q1 8).trans (getS (getS (getS (getS (getS (getS (getS (getS (get0)))))))))) (Zl q1 8)) ?_);intro w44 hw
     replace ho6:=Ze hw ho6 (Z6 ho6 q1 (by decide))
     replace ho10:=Ze hw ho10 (Z6 ho10 q1 (by decide))
     replace ho14:=Ze hw ho14 (Z6 ho14 q1 (by decide))
     replace q1:=ZK hw q1 (by simp only [List.setIfInBounds_toArray,ls,lz];exact rfl)
     replace q2:=ZA hw q2 (by omega)
     replace E:=ZF E hw (fun h=>by first | exact absurd h (by omega) | simp)
     clear hw
     refine ⟨gone (by kernel_rfl),?_⟩
     refine F.x (i:=14) rfl (fun w'=>Z9 rfl (F.at rfl) Try.underlying28 rfl (n:=9) (sz:=1) rfl (by kernel_rfl) (by decide)) (gone (by kernel_rfl)) ?_;clear F fa;intro fa F
     refine Zv (i:=15) (by kernel_rfl) (Z0u rfl rfl rfl (ZR rfl (F.at rfl) (F.at rfl) rfl (by kernel_rfl) ((Z0 q1 9).trans (getS (getS (getS (getS (getS (getS (getS (getS (getS (get0))))))))))) (Zl q1 9)) ?_);intro w45 hw
     replace ho6:=Ze hw ho6 (Z6 ho6 q1 (by decide))
     replace ho10:=Ze hw ho10 (Z6 ho10 q1 (by decide))
     replace ho14:=Ze hw ho14 (Z6 ho14 q1 (by decide))
     replace q1:=ZK hw q1 (by simp only [List.setIfInBounds_toArray,ls,lz];exact rfl)
     replace q2:=ZA hw q2 (by omega)
     replace E:=ZF E hw (fun h=>by first | exact absurd h (by omega) | simp)
     clear hw
     refine ⟨gone (by kernel_rfl),?_⟩
     refine F.x (i:=16) rfl (fun w'=>Z9 rfl (F.at rfl) Try.underlying28 rfl (n:=10) (sz:=1) rfl (by kernel_rfl) (by decide)) (gone (by kernel_rfl)) ?_;clear F fa;intro fa F
     refine Zv (i:=17) (by kernel_rfl) (Z0u rfl rfl rfl (ZR rfl (F.at rfl) (F.at rfl) rfl (by kernel_rfl) ((Z0 q1 10).trans (getS (getS (getS (getS (getS (getS (getS (getS (getS (getS (get0)))))))))))) (Zl q1 10)) ?_);intro w46 hw
     replace ho6:=Ze hw ho6 (Z6 ho6 q1 (by decide))
     replace ho10:=Ze hw ho10 (Z6 ho10 q1 (by decide))
     replace ho14:=Ze hw ho14 (Z6 ho14 q1 (by decide))
     replace q1:=ZK hw q1 (by simp only [List.setIfInBounds_toArray,ls,lz];exact rfl)
     replace q2:=ZA hw q2 (by omega)
     replace E:=ZF E hw (fun h=>by first | exact absurd h (by omega) | simp)
     clear hw
     refine ⟨gone (by kernel_rfl),?_⟩
     refine Z0a (by kernel_rfl) ?_ _
     exact hcut _ _ _ _ _ _ _ _ (F.sub (.c 1 rfl (.c 2 rfl .n))) q1 q2 E ho6 ho10 ho14
   ·skip
    refine (Z0w F rfl rfl (by decide) rfl (ZT rfl Try.underlying26 (size:=6) (by kernel_rfl)) ?_);clear F fa;intro fa w47 F hw
    obtain ⟨n11,hn⟩:∃ n,n = w4.heap.size:=⟨_,rfl⟩
    rw [← hn] at F
    have s11:w4.heap.size ≤ n11:=Nat.le_of_eq hn.symm
    have l11_E:w.heap.size ≤ n11:=by rw [hn];exact E.size
    have lT11:w2.heap.size ≤ n11:=by rw [hn];exact eT.size
    have m11_1:n1 < n11:=by rw [hn];exact Z7 q1
    have m11_2:n2 < n11:=by rw [hn];exact Z7 q2
    have m11_3:n3 < n11:=by rw [hn];exact Z7 q3
    replace q1:=Z1 hw q1
    replace q2:=Z1 hw q2
    replace q3:=Z1 hw q3
    replace E:=Z2 E hw
    replace eT:=Z2 eT hw
    have q11:=Zw hw hn
    clear hw hn
    refine ⟨fun _=>eT,?_⟩
    refine Z19 (i:=3) (j:=4) (by kernel_rfl) ?_ ?_
    ·skip
     have ho6:=ZS (base:=w2.heap.size) (size:=2) q3 (by omega)
     have hbl:=Z7 q3
     have hTs:=eT.size
     clear q3
     refine (Z0f F rfl rfl (by decide) rfl (ZN rfl (w2.heap.size) (e:=23) (size:=2) (bytes:=16) Try.underlying24 (by kernel_rfl) (by decide) (F.at rfl) ho6 (F.at rfl) (HG.out _ E) (by omega) (by omega) (by omega)) ?_);clear F fa;rintro fa v' w48 F ⟨hown',hg⟩
     rw [Nat.zero_add,List.nil_append] at hown'
     clear hbl
     obtain ⟨va6,vc6,rfl⟩:=Zs hown'
     replace q1:=Zb ho6 hg q1 (by decide)
     replace q2:=Zb ho6 hg q2 (by decide)
     replace q11:=Zb ho6 hg q11 (by decide)
     replace E:=Zd E ho6 hg (by omega)
     replace eT:=Zd eT ho6 hg (by omega)
     replace ho6:=hown'
     clear hg
     refine ⟨fun _=>eT,?_⟩
     replace ho6:=ZH (base':=w.heap.size) ho6 (by omega)
     refine F.x (i:=12) rfl (fun w'=>Z9 rfl (F.at rfl) Try.underlying28 rfl (n:=8) (sz:=1) rfl (by kernel_rfl) (by decide)) (fun _=>eT) ?_;clear F fa;intro fa F
     refine Zv (i:=4) (by kernel_rfl) (Z0w F rfl rfl (by decide) rfl (ZT rfl Try.underlying25 (size:=4) (by kernel_rfl)) ?_);clear F fa;intro fa w49 F hw
     obtain ⟨n7,hn⟩:∃ n,n = w48.heap.size:=⟨_,rfl⟩
     rw [← hn] at F
     have s7:w48.heap.size ≤ n7:=Nat.le_of_eq hn.symm
     have l7_E:w.heap.size ≤ n7:=by rw [hn];exact E.size
     have lT7:w2.heap.size ≤ n7:=by rw [hn];exact eT.size
     have m7_1:n1 < n7:=by rw [hn];exact Z7 q1
     have m7_2:n2 < n7:=by rw [hn];exact Z7 q2
     have m7_11:n11 < n7:=by rw [hn];exact Z7 q11
     have o7_ho6:=Lib.hid (Zo ho6 hn)
     replace ho6:=Zc hw ho6
     replace q1:=Z1 hw q1
     replace q2:=Z1 hw q2
     replace q11:=Z1 hw q11
     replace E:=Z2 E hw
     replace eT:=Z2 eT hw
     have q7:=Zw hw hn
     clear hw hn
     refine ⟨fun _=>eT,?_⟩
     have ho10:=ZS (base:=w2.heap.size) (size:=4) q7 (by omega)
     have hbl:=Z7 q7
     have hTs:=eT.size
     clear q7
     refine Zv (i:=7) (by kernel_rfl) (Z0f F rfl rfl (by decide) rfl (ZN rfl (w2.heap.size) (e:=66) (size:=4) (bytes:=32) Try.underlying25 (by kernel_rfl) (by decide) (F.at rfl) ho10 (F.at rfl) (HR.out _ E) (by omega) (by omega) (by omega)) ?_);clear F fa;rintro fa v' w50 F ⟨hown',hg⟩
     rw [Nat.zero_add,List.nil_append] at hown'
     clear hbl
     obtain ⟨va10,vc10,rfl⟩:=Zs hown'
     replace q1:=Zb ho10 hg q1 (by decide)
     replace q2:=Zb ho10 hg q2 (by decide)
     replace q11:=Zb ho10 hg q11 (by decide)
     replace ho6:=Zx ho6 ho10 hg (by decide)
     replace E:=Zd E ho10 hg (by omega)
     replace eT:=Zd eT ho10 hg (by omega)
     replace ho10:=hown'
     clear hg
     refine ⟨fun _=>eT,?_⟩
     replace ho10:=ZH (base':=w.heap.size) ho10 (by omega)
     have ho14:=ZS (base:=w2.heap.size) (size:=6) q11 (by omega)
     have hbl:=Z7 q11
     have hTs:=eT.size
     clear q11
     refine Zv (i:=11) (by kernel_rfl) (Z0f F rfl rfl (by decide) rfl (ZN rfl (w2.heap.size) (e:=75) (size:=6) (bytes:=48) Try.underlying26 (by kernel_rfl) (by decide) (F.at rfl) ho14 (F.at rfl) (HK.out _ E) (by omega) (by omega) (by omega)) ?_);clear F fa;rintro fa v' w51 F ⟨hown',hg⟩
     rw [Nat.zero_add,List.nil_append] at hown'
     clear hbl
     obtain ⟨va14,vc14,rfl⟩:=Zs hown'
     replace q1:=Zb ho14 hg q1 (by decide)
     replace q2:=Zb ho14 hg q2 (by decide)
     replace ho6:=Zx ho6 ho14 hg (by decide)
     replace ho10:=Zx ho10 ho14 hg (by decide)
     replace E:=Zd E ho14 hg (by omega)
     replace eT:=Zd eT ho14 hg (by omega)
     replace ho14:=hown'
     clear hg
     refine ⟨fun _=>eT,?_⟩
     replace ho14:=ZH (base':=w.heap.size) ho14 (by omega)
     refine Zv (i:=13) (by kernel_rfl) (Z0u rfl rfl rfl (ZR rfl (F.at rfl) (F.at rfl) rfl (by kernel_rfl) ((Z0 q1 8).trans (getS (getS (getS (getS (getS (getS (getS (getS (get0)))))))))) (Zl q1 8)) ?_);intro w52 hw
     replace ho6:=Ze hw ho6 (Z6 ho6 q1 (by decide))
     replace ho10:=Ze hw ho10 (Z6 ho10 q1 (by decide))
     replace ho14:=Ze hw ho14 (Z6 ho14 q1 (by decide))
     replace q1:=ZK hw q1 (by simp only [List.setIfInBounds_toArray,ls,lz];exact rfl)
     replace q2:=ZA hw q2 (by omega)
     replace E:=ZF E hw (fun h=>by first | exact absurd h (by omega) | simp)
     clear hw
     refine ⟨gone (by kernel_rfl),?_⟩
     refine F.x (i:=14) rfl (fun w'=>Z9 rfl (F.at rfl) Try.underlying28 rfl (n:=9) (sz:=1) rfl (by kernel_rfl) (by decide)) (gone (by kernel_rfl)) ?_;clear F fa;intro fa F
     refine Zv (i:=15) (by kernel_rfl) (Z0u rfl rfl rfl (ZR rfl (F.at rfl) (F.at rfl) rfl (by kernel_rfl) ((Z0 q1 9).trans (getS (getS (getS (getS (getS (getS (getS (getS (getS (get0))))))))))) (Zl q1 9)) ?_);intro w53 hw
     replace ho6:=Ze hw ho6 (Z6 ho6 q1 (by decide))
     replace ho10:=Ze hw ho10 (Z6 ho10 q1 (by decide))
     replace ho14:=Ze hw ho14 (Z6 ho14 q1 (by decide))
     replace q1:=ZK hw q1 (by simp only [List.setIfInBounds_toArray,ls,lz];exact rfl)
     replace q2:=ZA hw q2 (by omega)
     replace E:=ZF E hw (fun h=>by first | exact absurd h (by omega) | simp)
     clear hw
     refine ⟨gone (by kernel_rfl),?_⟩
     refine F.x (i:=16) rfl (fun w'=>Z9 rfl (F.at rfl) Try.underlying28 rfl (n:=10) (sz:=1) rfl (by kernel_rfl) (by decide)) (gone (by kernel_rfl)) ?_;clear F fa;intro fa F
     refine Zv (i:=17) (by kernel_rfl) (Z0u rfl rfl rfl (ZR rfl (F.at rfl) (F.at rfl) rfl (by kernel_rfl) ((Z0 q1 10).trans (getS (getS (getS (getS (getS (getS (getS (getS (getS (getS (get0)))))))))))) (Zl q1 10)) ?_);intro w54 hw
     replace ho6:=Ze hw ho6 (Z6 ho6 q1 (by decide))
     replace ho10:=Ze hw ho10 (Z6 ho10 q1 (by decide))
     replace ho14:=Ze hw ho14 (Z6 ho14 q1 (by decide))
     replace q1:=ZK hw q1 (by simp only [List.setIfInBounds_toArray,ls,lz];exact rfl)
     replace q2:=ZA hw q2 (by omega)
     replace E:=ZF E hw (fun h=>by first | exact absurd h (by omega) | simp)
     clear hw
     refine ⟨gone (by kernel_rfl),?_⟩
     refine Z0a (by kernel_rfl) ?_ _
     exact hcut _ _ _ _ _ _ _ _ (F.sub (.c 1 rfl (.c 2 rfl .n))) q1 q2 E ho6 ho10 ho14
    ·skip
     refine (Z0w F rfl rfl (by decide) rfl (ZT rfl Try.underlying25 (size:=4) (by kernel_rfl)) ?_);clear F fa;intro fa w55 F hw
     obtain ⟨n7,hn⟩:∃ n,n = w47.heap.size:=⟨_,rfl⟩
     rw [← hn] at F
     have s7:w47.heap.size ≤ n7:=Nat.le_of_eq hn.symm
     have l7_E:w.heap.size ≤ n7:=by rw [hn];exact E.size
     have lT7:w2.heap.size ≤ n7:=by rw [hn];exact eT.size
     have m7_1:n1 < n7:=by rw [hn];exact Z7 q1
     have m7_2:n2 < n7:=by rw [hn];exact Z7 q2
     have m7_3:n3 < n7:=by rw [hn];exact Z7 q3
     have m7_11:n11 < n7:=by rw [hn];exact Z7 q11
     replace q1:=Z1 hw q1
     replace q2:=Z1 hw q2
     replace q3:=Z1 hw q3
     replace q11:=Z1 hw q11
     replace E:=Z2 E hw
     replace eT:=Z2 eT hw
     have q7:=Zw hw hn
     clear hw hn
     refine ⟨fun _=>eT,?_⟩
     have ho6:=ZS (base:=w2.heap.size) (size:=2) q3 (by omega)
     have hbl:=Z7 q3
     have hTs:=eT.size
     clear q3
     refine Zv (i:=3) (by kernel_rfl) (Z0f F rfl rfl (by decide) rfl (ZN rfl (w2.heap.size) (e:=23) (size:=2) (bytes:=16) Try.underlying24 (by kernel_rfl) (by decide) (F.at rfl) ho6 (F.at rfl) (HG.out _ E) (by omega) (by omega) (by omega)) ?_);clear F fa;rintro fa v' w56 F ⟨hown',hg⟩
     rw [Nat.zero_add,List.nil_append] at hown'
     clear hbl
     obtain ⟨va6,vc6,rfl⟩:=Zs hown'
     replace q1:=Zb ho6 hg q1 (by decide)
     replace q2:=Zb ho6 hg q2 (by decide)
     replace q11:=Zb ho6 hg q11 (by decide)
     replace q7:=Zb ho6 hg q7 (by decide)
     replace E:=Zd E ho6 hg (by omega)
     replace eT:=Zd eT ho6 hg (by omega)
     replace ho6:=hown'
     clear hg
     refine ⟨fun _=>eT,?_⟩
     replace ho6:=ZH (base':=w.heap.size) ho6 (by omega)
     refine F.x (i:=12) rfl (fun w'=>Z9 rfl (F.at rfl) Try.underlying28 rfl (n:=8) (sz:=1) rfl (by kernel_rfl) (by decide)) (fun _=>eT) ?_;clear F fa;intro fa F
     have ho10:=ZS (base:=w2.heap.size) (size:=4) q7 (by omega)
     have hbl:=Z7 q7
     have hTs:=eT.size
     clear q7
     refine Zv (i:=7) (by kernel_rfl) (Z0f F rfl rfl (by decide) rfl (ZN rfl (w2.heap.size) (e:=66) (size:=4) (bytes:=32) Try.underlying25 (by kernel_rfl) (by decide) (F.at rfl) ho10 (F.at rfl) (HR.out _ E) (by omega) (by omega) (by omega)) ?_);clear F fa;rintro fa v' w57 F ⟨hown',hg⟩
     rw [Nat.zero_add,List.nil_append] at hown'
     clear hbl
     obtain ⟨va10,vc10,rfl⟩:=Zs hown'
     replace q1:=Zb ho10 hg q1 (by decide)
     replace q2:=Zb ho10 hg q2 (by decide)
     replace q11:=Zb ho10 hg q11 (by decide)
     replace ho6:=Zx ho6 ho10 hg (by decide)
     replace E:=Zd E ho10 hg (by omega)
     replace eT:=Zd eT ho10 hg (by omega)
     replace ho10:=hown'
     clear hg
     refine ⟨fun _=>eT,?_⟩
     replace ho10:=ZH (base':=w.heap.size) ho10 (by omega)
     have ho14:=ZS (base:=w2.heap.size) (size:=6) q11 (by omega)
     have hbl:=Z7 q11
     have hTs:=eT.size
     clear q11
     refine Zv (i:=11) (by kernel_rfl) (Z0f F rfl rfl (by decide) rfl (ZN rfl (w2.heap.size) (e:=75) (size:=6) (bytes:=48) Try.underlying26 (by kernel_rfl) (by decide) (F.at rfl) ho14 (F.at rfl) (HK.out _ E) (by omega) (by omega) (by omega)) ?_);clear F fa;rintro fa v' w58 F ⟨hown',hg⟩
     rw [Nat.zero_add,List.nil_append] at hown'
     clear hbl
     obtain ⟨va14,vc14,rfl⟩:=Zs hown'
     replace q1:=Zb ho14 hg q1 (by decide)
     replace q2:=Zb ho14 hg q2 (by decide)
     replace ho6:=Zx ho6 ho14 hg (by decide)
     replace ho10:=Zx ho10 ho14 hg (by decide)
     replace E:=Zd E ho14 hg (by omega)
     replace eT:=Zd eT ho14 hg (by omega)
     replace ho14:=hown'
     clear hg
     refine ⟨fun _=>eT,?_⟩
     replace ho14:=ZH (base':=w.heap.size) ho14 (by omega)
     refine Zv (i:=13) (by kernel_rfl) (Z0u rfl rfl rfl (ZR rfl (F.at rfl) (F.at rfl) rfl (by kernel_rfl) ((Z0 q1 8).trans (getS (getS (getS (getS (getS (getS (getS (getS (get0)))))))))) (Zl q1 8)) ?_);intro w59 hw
     replace ho6:=Ze hw ho6 (Z6 ho6 q1 (by decide))
     replace ho10:=Ze hw ho10 (Z6 ho10 q1 (by decide))
     replace ho14:=Ze hw ho14 (Z6 ho14 q1 (by decide))
     replace q1:=ZK hw q1 (by simp only [List.setIfInBounds_toArray,ls,lz];exact rfl)
     replace q2:=ZA hw q2 (by omega)
     replace E:=ZF E hw (fun h=>by first | exact absurd h (by omega) | simp)
     clear hw
     refine ⟨gone (by kernel_rfl),?_⟩
     refine F.x (i:=14) rfl (fun w'=>Z9 rfl (F.at rfl) Try.underlying28 rfl (n:=9) (sz:=1) rfl (by kernel_rfl) (by decide)) (gone (by kernel_rfl)) ?_;clear F fa;intro fa F
     refine Zv (i:=15) (by kernel_rfl) (Z0u rfl rfl rfl (ZR rfl (F.at rfl) (F.at rfl) rfl (by kernel_rfl) ((Z0 q1 9).trans (getS (getS (getS (getS (getS (getS (getS (getS (getS (get0))))))))))) (Zl q1 9)) ?_);intro w60 hw
     replace ho6:=Ze hw ho6 (Z6 ho6 q1 (by decide))
     replace ho10:=Ze hw ho10 (Z6 ho10 q1 (by decide))
     replace ho14:=Ze hw ho14 (Z6 ho14 q1 (by decide))
     replace q1:=ZK hw q1 (by simp only [List.setIfInBounds_toArray,ls,lz];exact rfl)
     replace q2:=ZA hw q2 (by omega)
     replace E:=ZF E hw (fun h=>by first | exact absurd h (by omega) | simp)
     clear hw
     refine ⟨gone (by kernel_rfl),?_⟩
     refine F.x (i:=16) rfl (fun w'=>Z9 rfl (F.at rfl) Try.underlying28 rfl (n:=10) (sz:=1) rfl (by kernel_rfl) (by decide)) (gone (by kernel_rfl)) ?_;clear F fa;intro fa F
     refine Zv (i:=17) (by kernel_rfl) (Z0u rfl rfl rfl (ZR rfl (F.at rfl) (F.at rfl) rfl (by kernel_rfl) ((Z0 q1 10).trans (getS (getS (getS (getS (getS (getS (getS (getS (getS (getS (get0)))))))))))) (Zl q1 10)) ?_);intro w61 hw
     replace ho6:=Ze hw ho6 (Z6 ho6 q1 (by decide))
     replace ho10:=Ze hw ho10 (Z6 ho10 q1 (by decide))
     replace ho14:=Ze hw ho14 (Z6 ho14 q1 (by decide))
     replace q1:=ZK hw q1 (by simp only [List.setIfInBounds_toArray,ls,lz];exact rfl)
     replace q2:=ZA hw q2 (by omega)
     replace E:=ZF E hw (fun h=>by first | exact absurd h (by omega) | simp)
     clear hw
     refine ⟨gone (by kernel_rfl),?_⟩
     refine Z0a (by kernel_rfl) ?_ _
     exact hcut _ _ _ _ _ _ _ _ (F.sub (.c 1 rfl (.c 2 rfl .n))) q1 q2 E ho6 ho10 ho14
  ·skip
   refine (Z0w F rfl rfl (by decide) rfl (ZT rfl Try.underlying25 (size:=4) (by kernel_rfl)) ?_);clear F fa;intro fa w62 F hw
   obtain ⟨n7,hn⟩:∃ n,n = w3.heap.size:=⟨_,rfl⟩
   rw [← hn] at F
   have s7:w3.heap.size ≤ n7:=Nat.le_of_eq hn.symm
   have l7_E:w.heap.size ≤ n7:=by rw [hn];exact E.size
   have lT7:w2.heap.size ≤ n7:=by rw [hn];exact eT.size
   have m7_1:n1 < n7:=by rw [hn];exact Z7 q1
   have m7_2:n2 < n7:=by rw [hn];exact Z7 q2
   replace q1:=Z1 hw q1
   replace q2:=Z1 hw q2
   replace E:=Z2 E hw
   replace eT:=Z2 eT hw
   have q7:=Zw hw hn
   clear hw hn
   refine ⟨fun _=>eT,?_⟩
   refine Z19 (i:=0) (j:=8) (by kernel_rfl) ?_ ?_
   ·skip
    refine (Z0w F rfl rfl (by decide) rfl (ZT rfl Try.underlying24 (size:=2) (by kernel_rfl)) ?_);clear F fa;intro fa w63 F hw
    obtain ⟨n3,hn⟩:∃ n,n = w62.heap.size:=⟨_,rfl⟩
    rw [← hn] at F
    have s3:w62.heap.size ≤ n3:=Nat.le_of_eq hn.symm
    have l3_E:w.heap.size ≤ n3:=by rw [hn];exact E.size
    have lT3:w2.heap.size ≤ n3:=by rw [hn];exact eT.size
    have m3_1:n1 < n3:=by rw [hn];exact Z7 q1
    have m3_2:n2 < n3:=by rw [hn];exact Z7 q2
    have m3_7:n7 < n3:=by rw [hn];exact Z7 q7
    replace q1:=Z1 hw q1
    replace q2:=Z1 hw q2
    replace q7:=Z1 hw q7
    replace E:=Z2 E hw
    replace eT:=Z2 eT hw
    have q3:=Zw hw hn
    clear hw hn
    refine ⟨fun _=>eT,?_⟩
    refine Z19 (i:=3) (j:=8) (by kernel_rfl) ?_ ?_
    ·skip
     have ho6:=ZS (base:=w2.heap.size) (size:=2) q3 (by omega)
     have hbl:=Z7 q3
     have hTs:=eT.size
     clear q3
     refine (Z0f F rfl rfl (by decide) rfl (ZN rfl (w2.heap.size) (e:=23) (size:=2) (bytes:=16) Try.underlying24 (by kernel_rfl) (by decide) (F.at rfl) ho6 (F.at rfl) (HG.out _ E) (by omega) (by omega) (by omega)) ?_);clear F fa;rintro fa v' w64 F ⟨hown',hg⟩
     rw [Nat.zero_add,List.nil_append] at hown'
     clear hbl
     obtain ⟨va6,vc6,rfl⟩:=Zs hown'
     replace q1:=Zb ho6 hg q1 (by decide)
     replace q2:=Zb ho6 hg q2 (by decide)
     replace q7:=Zb ho6 hg q7 (by decide)
     replace E:=Zd E ho6 hg (by omega)
     replace eT:=Zd eT ho6 hg (by omega)
     replace ho6:=hown'
     clear hg
     refine ⟨fun _=>eT,?_⟩
     replace ho6:=ZH (base':=w.heap.size) ho6 (by omega)
     refine F.x (i:=12) rfl (fun w'=>Z9 rfl (F.at rfl) Try.underlying28 rfl (n:=8) (sz:=1) rfl (by kernel_rfl) (by decide)) (fun _=>eT) ?_;clear F fa;intro fa F
     refine Z19 (i:=7) (j:=8) (by kernel_rfl) ?_ ?_
     ·skip
      have ho10:=ZS (base:=w2.heap.size) (size:=4) q7 (by omega)
      have hbl:=Z7 q7
      have hTs:=eT.size
      clear q7
      refine (Z0f F rfl rfl (by decide) rfl (ZN rfl (w2.heap.size) (e:=66) (size:=4) (bytes:=32) Try.underlying25 (by kernel_rfl) (by decide) (F.at rfl) ho10 (F.at rfl) (HR.out _ E) (by omega) (by omega) (by omega)) ?_);clear F fa;rintro fa v' w65 F ⟨hown',hg⟩
      rw [Nat.zero_add,List.nil_append] at hown'
      clear hbl
      obtain ⟨va10,vc10,rfl⟩:=Zs hown'
      replace q1:=Zb ho10 hg q1 (by decide)
      replace q2:=Zb ho10 hg q2 (by decide)
      replace ho6:=Zx ho6 ho10 hg (by decide)
      replace E:=Zd E ho10 hg (by omega)
      replace eT:=Zd eT ho10 hg (by omega)
      replace ho10:=hown'
      clear hg
      refine ⟨fun _=>eT,?_⟩
      replace ho10:=ZH (base':=w.heap.size) ho10 (by omega)
      refine Zv (i:=8) (by kernel_rfl) (Z0w F rfl rfl (by decide) rfl (ZT rfl Try.underlying26 (size:=6) (by kernel_rfl)) ?_);clear F fa;intro fa w66 F hw
      obtain ⟨n11,hn⟩:∃ n,n = w65.heap.size:=⟨_,rfl⟩
      rw [← hn] at F
      have s11:w65.heap.size ≤ n11:=Nat.le_of_eq hn.symm
      have l11_E:w.heap.size ≤ n11:=by rw [hn];exact E.size
      have lT11:w2.heap.size ≤ n11:=by rw [hn];exact eT.size
      have m11_1:n1 < n11:=by rw [hn];exact Z7 q1
      have m11_2:n2 < n11:=by rw [hn];exact Z7 q2
      have o11_ho6:=Lib.hid (Zo ho6 hn)
      have o11_ho10:=Lib.hid (Zo ho10 hn)
      replace ho6:=Zc hw ho6
      replace ho10:=Zc hw ho10
      replace q1:=Z1 hw q1
      replace q2:=Z1 hw q2
      replace E:=Z2 E hw
      replace eT:=Z2 eT hw
      have q11:=Zw hw hn
      clear hw hn
      refine ⟨fun _=>eT,?_⟩
      have ho14:=ZS (base:=w2.heap.size) (size:=6) q11 (by omega)
      have hbl:=Z7 q11
      have hTs:=eT.size
      clear q11
      refine Zv (i:=11) (by kernel_rfl) (Z0f F rfl rfl (by decide) rfl (ZN rfl (w2.heap.size) (e:=75) (size:=6) (bytes:=48) Try.underlying26 (by kernel_rfl) (by decide) (F.at rfl) ho14 (F.at rfl) (HK.out _ E) (by omega) (by omega) (by omega)) ?_);clear F fa;rintro fa v' w67 F ⟨hown',hg⟩
      rw [Nat.zero_add,List.nil_append] at hown'
      clear hbl
      obtain ⟨va14,vc14,rfl⟩:=Zs hown'
      replace q1:=Zb ho14 hg q1 (by decide)
      replace q2:=Zb ho14 hg q2 (by decide)
      replace ho6:=Zx ho6 ho14 hg (by decide)
      replace ho10:=Zx ho10 ho14 hg (by decide)
      replace E:=Zd E ho14 hg (by omega)
      replace eT:=Zd eT ho14 hg (by omega)
      replace ho14:=hown'
      clear hg
      refine ⟨fun _=>eT,?_⟩
      replace ho14:=ZH (base':=w.heap.size) ho14 (by omega)
      refine Zv (i:=13) (by kernel_rfl) (Z0u rfl rfl rfl (ZR rfl (F.at rfl) (F.at rfl) rfl (by kernel_rfl) ((Z0 q1 8).trans (getS (getS (getS (getS (getS (getS (getS (getS (get0)))))))))) (Zl q1 8)) ?_);intro w68 hw
      replace ho6:=Ze hw ho6 (Z6 ho6 q1 (by decide))
      replace ho10:=Ze hw ho10 (Z6 ho10 q1 (by decide))
      replace ho14:=Ze hw ho14 (Z6 ho14 q1 (by decide))
      replace q1:=ZK hw q1 (by simp only [List.setIfInBounds_toArray,ls,lz];exact rfl)
      replace q2:=ZA hw q2 (by omega)
      replace E:=ZF E hw (fun h=>by first | exact absurd h (by omega) | simp)
      clear hw
      refine ⟨gone (by kernel_rfl),?_⟩
      refine F.x (i:=14) rfl (fun w'=>Z9 rfl (F.at rfl) Try.underlying28 rfl (n:=9) (sz:=1) rfl (by kernel_rfl) (by decide)) (gone (by kernel_rfl)) ?_;clear F fa;intro fa F
      refine Zv (i:=15) (by kernel_rfl) (Z0u rfl rfl rfl (ZR rfl (F.at rfl) (F.at rfl) rfl (by kernel_rfl) ((Z0 q1 9).trans (getS (getS (getS (getS (getS (getS (getS (getS (getS (get0))))))))))) (Zl q1 9)) ?_);intro w69 hw
      replace ho6:=Ze hw ho6 (Z6 ho6 q1 (by decide))
      replace ho10:=Ze hw ho10 (Z6 ho10 q1 (by decide))
      replace ho14:=Ze hw ho14 (Z6 ho14 q1 (by decide))
      replace q1:=ZK hw q1 (by simp only [List.setIfInBounds_toArray,ls,lz];exact rfl)
      replace q2:=ZA hw q2 (by omega)
      replace E:=ZF E hw (fun h=>by first | exact absurd h (by omega) | simp)
      clear hw
      refine ⟨gone (by kernel_rfl),?_⟩
      refine F.x (i:=16) rfl (fun w'=>Z9 rfl (F.at rfl) Try.underlying28 rfl (n:=10) (sz:=1) rfl (by kernel_rfl) (by decide)) (gone (by kernel_rfl)) ?_;clear F fa;intro fa F
      refine Zv (i:=17) (by kernel_rfl) (Z0u rfl rfl rfl (ZR rfl (F.at rfl) (F.at rfl) rfl (by kernel_rfl) ((Z0 q1 10).trans (getS (getS (getS (getS (getS (getS (getS (getS (getS (getS (get0)))))))))))) (Zl q1 10)) ?_);intro w70 hw
      replace ho6:=Ze hw ho6 (Z6 ho6 q1 (by decide))
      replace ho10:=Ze hw ho10 (Z6 ho10 q1 (by decide))
      replace ho14:=Ze hw ho14 (Z6 ho14 q1 (by decide))
      replace q1:=ZK hw q1 (by simp only [List.setIfInBounds_toArray,ls,lz];exact rfl)
      replace q2:=ZA hw q2 (by omega)
      replace E:=ZF E hw (fun h=>by first | exact absurd h (by omega) | simp)
      clear hw
      refine ⟨gone (by kernel_rfl),?_⟩
      refine Z0a (by kernel_rfl) ?_ _
      exact hcut _ _ _ _ _ _ _ _ (F.sub (.c 1 rfl (.c 2 rfl .n))) q1 q2 E ho6 ho10 ho14
     ·skip
      refine (Z0w F rfl rfl (by decide) rfl (ZT rfl Try.underlying26 (size:=6) (by kernel_rfl)) ?_);clear F fa;intro fa w71 F hw
      obtain ⟨n11,hn⟩:∃ n,n = w64.heap.size:=⟨_,rfl⟩
      rw [← hn] at F
      have s11:w64.heap.size ≤ n11:=Nat.le_of_eq hn.symm
      have l11_E:w.heap.size ≤ n11:=by rw [hn];exact E.size
      have lT11:w2.heap.size ≤ n11:=by rw [hn];exact eT.size
      have m11_1:n1 < n11:=by rw [hn];exact Z7 q1
      have m11_2:n2 < n11:=by rw [hn];exact Z7 q2
      have m11_7:n7 < n11:=by rw [hn];exact Z7 q7
      have o11_ho6:=Lib.hid (Zo ho6 hn)
      replace ho6:=Zc hw ho6
      replace q1:=Z1 hw q1
      replace q2:=Z1 hw q2
      replace q7:=Z1 hw q7
      replace E:=Z2 E hw
      replace eT:=Z2 eT hw
      have q11:=Zw hw hn
      clear hw hn
      refine ⟨fun _=>eT,?_⟩
      have ho10:=ZS (base:=w2.heap.size) (size:=4) q7 (by omega)
      have hbl:=Z7 q7
      have hTs:=eT.size
      clear q7
      refine Zv (i:=7) (by kernel_rfl) (Z0f F rfl rfl (by decide) rfl (ZN rfl (w2.heap.size) (e:=66) (size:=4) (bytes:=32) Try.underlying25 (by kernel_rfl) (by decide) (F.at rfl) ho10 (F.at rfl) (HR.out _ E) (by omega) (by omega) (by omega)) ?_);clear F fa;rintro fa v' w72 F ⟨hown',hg⟩
      rw [Nat.zero_add,List.nil_append] at hown'
      clear hbl
      obtain ⟨va10,vc10,rfl⟩:=Zs hown'
      replace q1:=Zb ho10 hg q1 (by decide)
      replace q2:=Zb ho10 hg q2 (by decide)
      replace q11:=Zb ho10 hg q11 (by decide)
      replace ho6:=Zx ho6 ho10 hg (by decide)
      replace E:=Zd E ho10 hg (by omega)
      replace eT:=Zd eT ho10 hg (by omega)
      replace ho10:=hown'
      clear hg
      refine ⟨fun _=>eT,?_⟩
      replace ho10:=ZH (base':=w.heap.size) ho10 (by omega)
      have ho14:=ZS (base:=w2.heap.size) (size:=6) q11 (by omega)
      have hbl:=Z7 q11
      have hTs:=eT.size
      clear q11
      refine Zv (i:=11) (by kernel_rfl) (Z0f F rfl rfl (by decide) rfl (ZN rfl (w2.heap.size) (e:=75) (size:=6) (bytes:=48) Try.underlying26 (by kernel_rfl) (by decide) (F.at rfl) ho14 (F.at rfl) (HK.out _ E) (by omega) (by omega) (by omega)) ?_);clear F fa;rintro fa v' w73 F ⟨hown',hg⟩
      rw [Nat.zero_add,List.nil_append] at hown'
      clear hbl
      obtain ⟨va14,vc14,rfl⟩:=Zs hown'
      replace q1:=Zb ho14 hg q1 (by decide)
      replace q2:=Zb ho14 hg q2 (by decide)
      replace ho6:=Zx ho6 ho14 hg (by decide)
      replace ho10:=Zx ho10 ho14 hg (by decide)
      replace E:=Zd E ho14 hg (by omega)
      replace eT:=Zd eT ho14 hg (by omega)
      replace ho14:=hown'
      clear hg
      refine ⟨fun _=>eT,?_⟩
      replace ho14:=ZH (base':=w.heap.size) ho14 (by omega)
      refine Zv (i:=13) (by kernel_rfl) (Z0u rfl rfl rfl (ZR rfl (F.at rfl) (F.at rfl) rfl (by kernel_rfl) ((Z0 q1 8).trans (getS (getS (getS (getS (getS (getS (getS (getS (get0)))))))))) (Zl q1 8)) ?_);intro w74 hw
      replace ho6:=Ze hw ho6 (Z6 ho6 q1 (by decide))
      replace ho10:=Ze hw ho10 (Z6 ho10 q1 (by decide))
      replace ho14:=Ze hw ho14 (Z6 ho14 q1 (by decide))
      replace q1:=ZK hw q1 (by simp only [List.setIfInBounds_toArray,ls,lz];exact rfl)
      replace q2:=ZA hw q2 (by omega)
      replace E:=ZF E hw (fun h=>by first | exact absurd h (by omega) | simp)
      clear hw
      refine ⟨gone (by kernel_rfl),?_⟩
      refine F.x (i:=14) rfl (fun w'=>Z9 rfl (F.at rfl) Try.underlying28 rfl (n:=9) (sz:=1) rfl (by kernel_rfl) (by decide)) (gone (by kernel_rfl)) ?_;clear F fa;intro fa F
      refine Zv (i:=15) (by kernel_rfl) (Z0u rfl rfl rfl (ZR rfl (F.at rfl) (F.at rfl) rfl (by kernel_rfl) ((Z0 q1 9).trans (getS (getS (getS (getS (getS (getS (getS (getS (getS (get0))))))))))) (Zl q1 9)) ?_);intro w75 hw
      replace ho6:=Ze hw ho6 (Z6 ho6 q1 (by decide))
      replace ho10:=Ze hw ho10 (Z6 ho10 q1 (by decide))
      replace ho14:=Ze hw ho14 (Z6 ho14 q1 (by decide))
      replace q1:=ZK hw q1 (by simp only [List.setIfInBounds_toArray,ls,lz];exact rfl)
      replace q2:=ZA hw q2 (by omega)
      replace E:=ZF E hw (fun h=>by first | exact absurd h (by omega) | simp)
      clear hw
      refine ⟨gone (by kernel_rfl),?_⟩
      refine F.x (i:=16) rfl (fun w'=>Z9 rfl (F.at rfl) Try.underlying28 rfl (n:=10) (sz:=1) rfl (by kernel_rfl) (by decide)) (gone (by kernel_rfl)) ?_;clear F fa;intro fa F
      refine Zv (i:=17) (by kernel_rfl) (Z0u rfl rfl rfl (ZR rfl (F.at rfl) (F.at rfl) rfl (by kernel_rfl) ((Z0 q1 10).trans (getS (getS (getS (getS (getS (getS (getS (getS (getS (getS (get0)))))))))))) (Zl q1 10)) ?_);intro w76 hw
      replace ho6:=Ze hw ho6 (Z6 ho6 q1 (by decide))
      replace ho10:=Ze hw ho10 (Z6 ho10 q1 (by decide))
      replace ho14:=Ze hw ho14 (Z6 ho14 q1 (by decide))
      replace q1:=ZK hw q1 (by simp only [List.setIfInBounds_toArray,ls,lz];exact rfl)
      replace q2:=ZA hw q2 (by omega)
      replace E:=ZF E hw (fun h=>by first | exact absurd h (by omega) | simp)
      clear hw
      refine ⟨gone (by kernel_rfl),?_⟩
      refine Z0a (by kernel_rfl) ?_ _
      exact hcut _ _ _ _ _ _ _ _ (F.sub (.c 1 rfl (.c 2 rfl .n))) q1 q2 E ho6 ho10 ho14
    ·skip
     refine (Z0w F rfl rfl (by decide) rfl (ZT rfl Try.underlying26 (size:=6) (by kernel_rfl)) ?_);clear F fa;intro fa w77 F hw
     obtain ⟨n11,hn⟩:∃ n,n = w63.heap.size:=⟨_,rfl⟩
     rw [← hn] at F
     have s11:w63.heap.size ≤ n11:=Nat.le_of_eq hn.symm
     have l11_E:w.heap.size ≤ n11:=by rw [hn];exact E.size
     have lT11:w2.heap.size ≤ n11:=by rw [hn];exact eT.size
     have m11_1:n1 < n11:=by rw [hn];exact Z7 q1
     have m11_2:n2 < n11:=by rw [hn];exact Z7 q2
     have m11_7:n7 < n11:=by rw [hn];exact Z7 q7
     have m11_3:n3 < n11:=by rw [hn];exact Z7 q3
     replace q1:=Z1 hw q1
     replace q2:=Z1 hw q2
     replace q7:=Z1 hw q7
     replace q3:=Z1 hw q3
     replace E:=Z2 E hw
     replace eT:=Z2 eT hw
     have q11:=Zw hw hn
     clear hw hn
     refine ⟨fun _=>eT,?_⟩
     have ho6:=ZS (base:=w2.heap.size) (size:=2) q3 (by omega)
     have hbl:=Z7 q3
     have hTs:=eT.size
     clear q3
     refine Zv (i:=3) (by kernel_rfl) (Z0f F rfl rfl (by decide) rfl (ZN rfl (w2.heap.size) (e:=23) (size:=2) (bytes:=16) Try.underlying24 (by kernel_rfl) (by decide) (F.at rfl) ho6 (F.at rfl) (HG.out _ E) (by omega) (by omega) (by omega)) ?_);clear F fa;rintro fa v' w78 F ⟨hown',hg⟩
     rw [Nat.zero_add,List.nil_append] at hown'
     clear hbl
     obtain ⟨va6,vc6,rfl⟩:=Zs hown'
     replace q1:=Zb ho6 hg q1 (by decide)
     replace q2:=Zb ho6 hg q2 (by decide)
     replace q7:=Zb ho6 hg q7 (by decide)
     replace q11:=Zb ho6 hg q11 (by decide)
     replace E:=Zd E ho6 hg (by omega)
     replace eT:=Zd eT ho6 hg (by omega)
     replace ho6:=hown'
     clear hg
     refine ⟨fun _=>eT,?_⟩
     replace ho6:=ZH (base':=w.heap.size) ho6 (by omega)
     refine F.x (i:=12) rfl (fun w'=>Z9 rfl (F.at rfl) Try.underlying28 rfl (n:=8) (sz:=1) rfl (by kernel_rfl) (by decide)) (fun _=>eT) ?_;clear F fa;intro fa F
     have ho10:=ZS (base:=w2.heap.size) (size:=4) q7 (by omega)
     have hbl:=Z7 q7
     have hTs:=eT.size
     clear q7
     refine Zv (i:=7) (by kernel_rfl) (Z0f F rfl rfl (by decide) rfl (ZN rfl (w2.heap.size) (e:=66) (size:=4) (bytes:=32) Try.underlying25 (by kernel_rfl) (by decide) (F.at rfl) ho10 (F.at rfl) (HR.out _ E) (by omega) (by omega) (by omega)) ?_);clear F fa;rintro fa v' w79 F ⟨hown',hg⟩
     rw [Nat.zero_add,List.nil_append] at hown'
     clear hbl
     obtain ⟨va10,vc10,rfl⟩:=Zs hown'
     replace q1:=Zb ho10 hg q1 (by decide)
     replace q2:=Zb ho10 hg q2 (by decide)
     replace q11:=Zb ho10 hg q11 (by decide)
     replace ho6:=Zx ho6 ho10 hg (by decide)
     replace E:=Zd E ho10 hg (by omega)
     replace eT:=Zd eT ho10 hg (by omega)
     replace ho10:=hown'
     clear hg
     refine ⟨fun _=>eT,?_⟩
     replace ho10:=ZH (base':=w.heap.size) ho10 (by omega)
     have ho14:=ZS (base:=w2.heap.size) (size:=6) q11 (by omega)
     have hbl:=Z7 q11
     have hTs:=eT.size
     clear q11
     refine Zv (i:=11) (by kernel_rfl) (Z0f F rfl rfl (by decide) rfl (ZN rfl (w2.heap.size) (e:=75) (size:=6) (bytes:=48) Try.underlying26 (by kernel_rfl) (by decide) (F.at rfl) ho14 (F.at rfl) (HK.out _ E) (by omega) (by omega) (by omega)) ?_);clear F fa;rintro fa v' w80 F ⟨hown',hg⟩
     rw [Nat.zero_add,List.nil_append] at hown'
     clear hbl
     obtain ⟨va14,vc14,rfl⟩:=Zs hown'
     replace q1:=Zb ho14 hg q1 (by decide)
     replace q2:=Zb ho14 hg q2 (by decide)
     replace ho6:=Zx ho6 ho14 hg (by decide)
     replace ho10:=Zx ho10 ho14 hg (by decide)
     replace E:=Zd E ho14 hg (by omega)
     replace eT:=Zd eT ho14 hg (by omega)
     replace ho14:=hown'
     clear hg
     refine ⟨fun _=>eT,?_⟩
     replace ho14:=ZH (base':=w.heap.size) ho14 (by omega)
     refine Zv (i:=13) (by kernel_rfl) (Z0u rfl rfl rfl (ZR rfl (F.at rfl) (F.at rfl) rfl (by kernel_rfl) ((Z0 q1 8).trans (getS (getS (getS (getS (getS (getS (getS (getS (get0)))))))))) (Zl q1 8)) ?_);intro w81 hw
     replace ho6:=Ze hw ho6 (Z6 ho6 q1 (by decide))
     replace ho10:=Ze hw ho10 (Z6 ho10 q1 (by decide))
     replace ho14:=Ze hw ho14 (Z6 ho14 q1 (by decide))
     replace q1:=ZK hw q1 (by simp only [List.setIfInBounds_toArray,ls,lz];exact rfl)
     replace q2:=ZA hw q2 (by omega)
     replace E:=ZF E hw (fun h=>by first | exact absurd h (by omega) | simp)
     clear hw
     refine ⟨gone (by kernel_rfl),?_⟩
     refine F.x (i:=14) rfl (fun w'=>Z9 rfl (F.at rfl) Try.underlying28 rfl (n:=9) (sz:=1) rfl (by kernel_rfl) (by decide)) (gone (by kernel_rfl)) ?_;clear F fa;intro fa F
     refine Zv (i:=15) (by kernel_rfl) (Z0u rfl rfl rfl (ZR rfl (F.at rfl) (F.at rfl) rfl (by kernel_rfl) ((Z0 q1 9).trans (getS (getS (getS (getS (getS (getS (getS (getS (getS (get0))))))))))) (Zl q1 9)) ?_);intro w82 hw
     replace ho6:=Ze hw ho6 (Z6 ho6 q1 (by decide))
     replace ho10:=Ze hw ho10 (Z6 ho10 q1 (by decide))
     replace ho14:=Ze hw ho14 (Z6 ho14 q1 (by decide))
     replace q1:=ZK hw q1 (by simp only [List.setIfInBounds_toArray,ls,lz];exact rfl)
     replace q2:=ZA hw q2 (by omega)
     replace E:=ZF E hw (fun h=>by first | exact absurd h (by omega) | simp)
     clear hw
     refine ⟨gone (by kernel_rfl),?_⟩
     refine F.x (i:=16) rfl (fun w'=>Z9 rfl (F.at rfl) Try.underlying28 rfl (n:=10) (sz:=1) rfl (by kernel_rfl) (by decide)) (gone (by kernel_rfl)) ?_;clear F fa;intro fa F
     refine Zv (i:=17) (by kernel_rfl) (Z0u rfl rfl rfl (ZR rfl (F.at rfl) (F.at rfl) rfl (by kernel_rfl) ((Z0 q1 10).trans (getS (getS (getS (getS (getS (getS (getS (getS (getS (getS (get0)))))))))))) (Zl q1 10)) ?_);intro w83 hw
     replace ho6:=Ze hw ho6 (Z6 ho6 q1 (by decide))
     replace ho10:=Ze hw ho10 (Z6 ho10 q1 (by decide))
     replace ho14:=Ze hw ho14 (Z6 ho14 q1 (by decide))
     replace q1:=ZK hw q1 (by simp only [List.setIfInBounds_toArray,ls,lz];exact rfl)
     replace q2:=ZA hw q2 (by omega)
     replace E:=ZF E hw (fun h=>by first | exact absurd h (by omega) | simp)
     clear hw
     refine ⟨gone (by kernel_rfl),?_⟩
     refine Z0a (by kernel_rfl) ?_ _
     exact hcut _ _ _ _ _ _ _ _ (F.sub (.c 1 rfl (.c 2 rfl .n))) q1 q2 E ho6 ho10 ho14
   ·skip
    refine (Z0w F rfl rfl (by decide) rfl (ZT rfl Try.underlying26 (size:=6) (by kernel_rfl)) ?_);clear F fa;intro fa w84 F hw
    obtain ⟨n11,hn⟩:∃ n,n = w62.heap.size:=⟨_,rfl⟩
    rw [← hn] at F
    have s11:w62.heap.size ≤ n11:=Nat.le_of_eq hn.symm
    have l11_E:w.heap.size ≤ n11:=by rw [hn];exact E.size
    have lT11:w2.heap.size ≤ n11:=by rw [hn];exact eT.size
    have m11_1:n1 < n11:=by rw [hn];exact Z7 q1
    have m11_2:n2 < n11:=by rw [hn];exact Z7 q2
    have m11_7:n7 < n11:=by rw [hn];exact Z7 q7
    replace q1:=Z1 hw q1
    replace q2:=Z1 hw q2
    replace q7:=Z1 hw q7
    replace E:=Z2 E hw
    replace eT:=Z2 eT hw
    have q11:=Zw hw hn
    clear hw hn
    refine ⟨fun _=>eT,?_⟩
    refine Zv (i:=0) (by kernel_rfl) (Z0w F rfl rfl (by decide) rfl (ZT rfl Try.underlying24 (size:=2) (by kernel_rfl)) ?_);clear F fa;intro fa w85 F hw
    obtain ⟨n3,hn⟩:∃ n,n = w84.heap.size:=⟨_,rfl⟩
    rw [← hn] at F
    have s3:w84.heap.size ≤ n3:=Nat.le_of_eq hn.symm
    have l3_E:w.heap.size ≤ n3:=by rw [hn];exact E.size
    have lT3:w2.heap.size ≤ n3:=by rw [hn];exact eT.size
    have m3_1:n1 < n3:=by rw [hn];exact Z7 q1
    have m3_2:n2 < n3:=by rw [hn];exact Z7 q2
    have m3_7:n7 < n3:=by rw [hn];exact Z7 q7
    have m3_11:n11 < n3:=by rw [hn];exact Z7 q11
    replace q1:=Z1 hw q1
    replace q2:=Z1 hw q2
    replace q7:=Z1 hw q7
    replace q11:=Z1 hw q11
    replace E:=Z2 E hw
    replace eT:=Z2 eT hw
    have q3:=Zw hw hn
    clear hw hn
    refine ⟨fun _=>eT,?_⟩
    have ho6:=ZS (base:=w2.heap.size) (size:=2) q3 (by omega)
    have hbl:=Z7 q3
    have hTs:=eT.size
    clear q3
    refine Zv (i:=3) (by kernel_rfl) (Z0f F rfl rfl (by decide) rfl (ZN rfl (w2.heap.size) (e:=23) (size:=2) (bytes:=16) Try.underlying24 (by kernel_rfl) (by decide) (F.at rfl) ho6 (F.at rfl) (HG.out _ E) (by omega) (by omega) (by omega)) ?_);clear F fa;rintro fa v' w86 F ⟨hown',hg⟩
    rw [Nat.zero_add,List.nil_append] at hown'
    clear hbl
    obtain ⟨va6,vc6,rfl⟩:=Zs hown'
    replace q1:=Zb ho6 hg q1 (by decide)
    replace q2:=Zb ho6 hg q2 (by decide)
    replace q7:=Zb ho6 hg q7 (by decide)
    replace q11:=Zb ho6 hg q11 (by decide)
    replace E:=Zd E ho6 hg (by omega)
    replace eT:=Zd eT ho6 hg (by omega)
    replace ho6:=hown'
    clear hg
    refine ⟨fun _=>eT,?_⟩
    replace ho6:=ZH (base':=w.heap.size) ho6 (by omega)
    refine F.x (i:=12) rfl (fun w'=>Z9 rfl (F.at rfl) Try.underlying28 rfl (n:=8) (sz:=1) rfl (by kernel_rfl) (by decide)) (fun _=>eT) ?_;clear F fa;intro fa F
    have ho10:=ZS (base:=w2.heap.size) (size:=4) q7 (by omega)
    have hbl:=Z7 q7
    have hTs:=eT.size
    clear q7
    refine Zv (i:=7) (by kernel_rfl) (Z0f F rfl rfl (by decide) rfl (ZN rfl (w2.heap.size) (e:=66) (size:=4) (bytes:=32) Try.underlying25 (by kernel_rfl) (by decide) (F.at rfl) ho10 (F.at rfl) (HR.out _ E) (by omega) (by omega) (by omega)) ?_);clear F fa;rintro fa v' w87 F ⟨hown',hg⟩
    rw [Nat.zero_add,List.nil_append] at hown'
    clear hbl
    obtain ⟨va10,vc10,rfl⟩:=Zs hown'
    replace q1:=Zb ho10 hg q1 (by decide)
    replace q2:=Zb ho10 hg q2 (by decide)
    replace q11:=Zb ho10 hg q11 (by decide)
    replace ho6:=Zx ho6 ho10 hg (by decide)
    replace E:=Zd E ho10 hg (by omega)
    replace eT:=Zd eT ho10 hg (by omega)
    replace ho10:=hown'
    clear hg
    refine ⟨fun _=>eT,?_⟩
    replace ho10:=ZH (base':=w.heap.size) ho10 (by omega)
    have ho14:=ZS (base:=w2.heap.size) (size:=6) q11 (by omega)
    have hbl:=Z7 q11
    have hTs:=eT.size
    clear q11
    refine Zv (i:=11) (by kernel_rfl) (Z0f F rfl rfl (by decide) rfl (ZN rfl (w2.heap.size) (e:=75) (size:=6) (bytes:=48) Try.underlying26 (by kernel_rfl) (by decide) (F.at rfl) ho14 (F.at rfl) (HK.out _ E) (by omega) (by omega) (by omega)) ?_);clear F fa;rintro fa v' w88 F ⟨hown',hg⟩
    rw [Nat.zero_add,List.nil_append] at hown'
    clear hbl
    obtain ⟨va14,vc14,rfl⟩:=Zs hown'
    replace q1:=Zb ho14 hg q1 (by decide)
    replace q2:=Zb ho14 hg q2 (by decide)
    replace ho6:=Zx ho6 ho14 hg (by decide)
    replace ho10:=Zx ho10 ho14 hg (by decide)
    replace E:=Zd E ho14 hg (by omega)
    replace eT:=Zd eT ho14 hg (by omega)
    replace ho14:=hown'
    clear hg
    refine ⟨fun _=>eT,?_⟩
    replace ho14:=ZH (base':=w.heap.size) ho14 (by omega)
    refine Zv (i:=13) (by kernel_rfl) (Z0u rfl rfl rfl (ZR rfl (F.at rfl) (F.at rfl) rfl (by kernel_rfl) ((Z0 q1 8).trans (getS (getS (getS (getS (getS (getS (getS (getS (get0)))))))))) (Zl q1 8)) ?_);intro w89 hw
    replace ho6:=Ze hw ho6 (Z6 ho6 q1 (by decide))
    replace ho10:=Ze hw ho10 (Z6 ho10 q1 (by decide))
    replace ho14:=Ze hw ho14 (Z6 ho14 q1 (by decide))
    replace q1:=ZK hw q1 (by simp only [List.setIfInBounds_toArray,ls,lz];exact rfl)
    replace q2:=ZA hw q2 (by omega)
    replace E:=ZF E hw (fun h=>by first | exact absurd h (by omega) | simp)
    clear hw
    refine ⟨gone (by kernel_rfl),?_⟩
    refine F.x (i:=14) rfl (fun w'=>Z9 rfl (F.at rfl) Try.underlying28 rfl (n:=9) (sz:=1) rfl (by kernel_rfl) (by decide)) (gone (by kernel_rfl)) ?_;clear F fa;intro fa F
    refine Zv (i:=15) (by kernel_rfl) (Z0u rfl rfl rfl (ZR rfl (F.at rfl) (F.at rfl) rfl (by kernel_rfl) ((Z0 q1 9).trans (getS (getS (getS (getS (getS (getS (getS (getS (getS (get0))))))))))) (Zl q1 9)) ?_);intro w90 hw
    replace ho6:=Ze hw ho6 (Z6 ho6 q1 (by decide))
    replace ho10:=Ze hw ho10 (Z6 ho10 q1 (by decide))
    replace ho14:=Ze hw ho14 (Z6 ho14 q1 (by decide))
    replace q1:=ZK hw q1 (by simp only [List.setIfInBounds_toArray,ls,lz];exact rfl)
    replace q2:=ZA hw q2 (by omega)
    replace E:=ZF E hw (fun h=>by first | exact absurd h (by omega) | simp)
    clear hw
    refine ⟨gone (by kernel_rfl),?_⟩
    refine F.x (i:=16) rfl (fun w'=>Z9 rfl (F.at rfl) Try.underlying28 rfl (n:=10) (sz:=1) rfl (by kernel_rfl) (by decide)) (gone (by kernel_rfl)) ?_;clear F fa;intro fa F
    refine Zv (i:=17) (by kernel_rfl) (Z0u rfl rfl rfl (ZR rfl (F.at rfl) (F.at rfl) rfl (by kernel_rfl) ((Z0 q1 10).trans (getS (getS (getS (getS (getS (getS (getS (getS (getS (getS (get0)))))))))))) (Zl q1 10)) ?_);intro w91 hw
    replace ho6:=Ze hw ho6 (Z6 ho6 q1 (by decide))
    replace ho10:=Ze hw ho10 (Z6 ho10 q1 (by decide))
    replace ho14:=Ze hw ho14 (Z6 ho14 q1 (by decide))
    replace q1:=ZK hw q1 (by simp only [List.setIfInBounds_toArray,ls,lz];exact rfl)
    replace q2:=ZA hw q2 (by omega)
    replace E:=ZF E hw (fun h=>by first | exact absurd h (by omega) | simp)
    clear hw
    refine ⟨gone (by kernel_rfl),?_⟩
    refine Z0a (by kernel_rfl) ?_ _
    exact hcut _ _ _ _ _ _ _ _ (F.sub (.c 1 rfl (.c 2 rfl .n))) q1 q2 E ho6 ho10 ho14
  ·skip
   refine (Z0w F rfl rfl (by decide) rfl (ZT rfl Try.underlying26 (size:=6) (by kernel_rfl)) ?_);clear F fa;intro fa w92 F hw
   obtain ⟨n11,hn⟩:∃ n,n = w3.heap.size:=⟨_,rfl⟩
   rw [← hn] at F
   have s11:w3.heap.size ≤ n11:=Nat.le_of_eq hn.symm
   have l11_E:w.heap.size ≤ n11:=by rw [hn];exact E.size
   have lT11:w2.heap.size ≤ n11:=by rw [hn];exact eT.size
   have m11_1:n1 < n11:=by rw [hn];exact Z7 q1
   have m11_2:n2 < n11:=by rw [hn];exact Z7 q2
   replace q1:=Z1 hw q1
   replace q2:=Z1 hw q2
   replace E:=Z2 E hw
   replace eT:=Z2 eT hw
   have q11:=Zw hw hn
   clear hw hn
   refine ⟨fun _=>eT,?_⟩
   refine Z19 (i:=0) (j:=4) (by kernel_rfl) ?_ ?_
   ·skip
    refine (Z0w F rfl rfl (by decide) rfl (ZT rfl Try.underlying24 (size:=2) (by kernel_rfl)) ?_);clear F fa;intro fa w93 F hw
    obtain ⟨n3,hn⟩:∃ n,n = w92.heap.size:=⟨_,rfl⟩
    rw [← hn] at F
    have s3:w92.heap.size ≤ n3:=Nat.le_of_eq hn.symm
    have l3_E:w.heap.size ≤ n3:=by rw [hn];exact E.size
    have lT3:w2.heap.size ≤ n3:=by rw [hn];exact eT.size
    have m3_1:n1 < n3:=by rw [hn];exact Z7 q1
    have m3_2:n2 < n3:=by rw [hn];exact Z7 q2
    have m3_11:n11 < n3:=by rw [hn];exact Z7 q11
    replace q1:=Z1 hw q1
    replace q2:=Z1 hw q2
    replace q11:=Z1 hw q11
    replace E:=Z2 E hw
    replace eT:=Z2 eT hw
    have q3:=Zw hw hn
    clear hw hn
    refine ⟨fun _=>eT,?_⟩
    refine Z19 (i:=3) (j:=4) (by kernel_rfl) ?_ ?_
    ·skip
     have ho6:=ZS (base:=w2.heap.size) (size:=2) q3 (by omega)
     have hbl:=Z7 q3
     have hTs:=eT.size
     clear q3
     refine (Z0f F rfl rfl (by decide) rfl (ZN rfl (w2.heap.size) (e:=23) (size:=2) (bytes:=16) Try.underlying24 (by kernel_rfl) (by decide) (F.at rfl) ho6 (F.at rfl) (HG.out _ E) (by omega) (by omega) (by omega)) ?_);clear F fa;rintro fa v' w94 F ⟨hown',hg⟩
     rw [Nat.zero_add,List.nil_append] at hown'
     clear hbl
     obtain ⟨va6,vc6,rfl⟩:=Zs hown'
     replace q1:=Zb ho6 hg q1 (by decide)
     replace q2:=Zb ho6 hg q2 (by decide)
     replace q11:=Zb ho6 hg q11 (by decide)
     replace E:=Zd E ho6 hg (by omega)
     replace eT:=Zd eT ho6 hg (by omega)
     replace ho6:=hown'
     clear hg
     refine ⟨fun _=>eT,?_⟩
     replace ho6:=ZH (base':=w.heap.size) ho6 (by omega)
     refine F.x (i:=12) rfl (fun w'=>Z9 rfl (F.at rfl) Try.underlying28 rfl (n:=8) (sz:=1) rfl (by kernel_rfl) (by decide)) (fun _=>eT) ?_;clear F fa;intro fa F
     refine Zv (i:=4) (by kernel_rfl) (Z0w F rfl rfl (by decide) rfl (ZT rfl Try.underlying25 (size:=4) (by kernel_rfl)) ?_);clear F fa;intro fa w95 F hw
     obtain ⟨n7,hn⟩:∃ n,n = w94.heap.size:=⟨_,rfl⟩
     rw [← hn] at F
     have s7:w94.heap.size ≤ n7:=Nat.le_of_eq hn.symm
     have l7_E:w.heap.size ≤ n7:=by rw [hn];exact E.size
     have lT7:w2.heap.size ≤ n7:=by rw [hn];exact eT.size
     have m7_1:n1 < n7:=by rw [hn];exact Z7 q1
     have m7_2:n2 < n7:=by rw [hn];exact Z7 q2
     have m7_11:n11 < n7:=by rw [hn];exact Z7 q11
     have o7_ho6:=Lib.hid (Zo ho6 hn)
     replace ho6:=Zc hw ho6
     replace q1:=Z1 hw q1
     replace q2:=Z1 hw q2
     replace q11:=Z1 hw q11
     replace E:=Z2 E hw
     replace eT:=Z2 eT hw
     have q7:=Zw hw hn
     clear hw hn
     refine ⟨fun _=>eT,?_⟩
     have ho10:=ZS (base:=w2.heap.size) (size:=4) q7 (by omega)
     have hbl:=Z7 q7
     have hTs:=eT.size
     clear q7
     refine Zv (i:=7) (by kernel_rfl) (Z0f F rfl rfl (by decide) rfl (ZN rfl (w2.heap.size) (e:=66) (size:=4) (bytes:=32) Try.underlying25 (by kernel_rfl) (by decide) (F.at rfl) ho10 (F.at rfl) (HR.out _ E) (by omega) (by omega) (by omega)) ?_);clear F fa;rintro fa v' w96 F ⟨hown',hg⟩
     rw [Nat.zero_add,List.nil_append] at hown'
     clear hbl
     obtain ⟨va10,vc10,rfl⟩:=Zs hown'
     replace q1:=Zb ho10 hg q1 (by decide)
     replace q2:=Zb ho10 hg q2 (by decide)
     replace q11:=Zb ho10 hg q11 (by decide)
     replace ho6:=Zx ho6 ho10 hg (by decide)
     replace E:=Zd E ho10 hg (by omega)
     replace eT:=Zd eT ho10 hg (by omega)
     replace ho10:=hown'
     clear hg
     refine ⟨fun _=>eT,?_⟩
     replace ho10:=ZH (base':=w.heap.size) ho10 (by omega)
     have ho14:=ZS (base:=w2.heap.size) (size:=6) q11 (by omega)
     have hbl:=Z7 q11
     have hTs:=eT.size
     clear q11
     refine Zv (i:=11) (by kernel_rfl) (Z0f F rfl rfl (by decide) rfl (ZN rfl (w2.heap.size) (e:=75) (size:=6) (bytes:=48) Try.underlying26 (by kernel_rfl) (by decide) (F.at rfl) ho14 (F.at rfl) (HK.out _ E) (by omega) (by omega) (by omega)) ?_);clear F fa;rintro fa v' w97 F ⟨hown',hg⟩
     rw [Nat.zero_add,List.nil_append] at hown'
     clear hbl
     obtain ⟨va14,vc14,rfl⟩:=Zs hown'
     replace q1:=Zb ho14 hg q1 (by decide)
     replace q2:=Zb ho14 hg q2 (by decide)
     replace ho6:=Zx ho6 ho14 hg (by decide)
     replace ho10:=Zx ho10 ho14 hg (by decide)
     replace E:=Zd E ho14 hg (by omega)
     replace eT:=Zd eT ho14 hg (by omega)
     replace ho14:=hown'
     clear hg
     refine ⟨fun _=>eT,?_⟩
     replace ho14:=ZH (base':=w.heap.size) ho14 (by omega)
     refine Zv (i:=13) (by kernel_rfl) (Z0u rfl rfl rfl (ZR rfl (F.at rfl) (F.at rfl) rfl (by kernel_rfl) ((Z0 q1 8).trans (getS (getS (getS (getS (getS (getS (getS (getS (get0)))))))))) (Zl q1 8)) ?_);intro w98 hw
     replace ho6:=Ze hw ho6 (Z6 ho6 q1 (by decide))
     replace ho10:=Ze hw ho10 (Z6 ho10 q1 (by decide))
     replace ho14:=Ze hw ho14 (Z6 ho14 q1 (by decide))
     replace q1:=ZK hw q1 (by simp only [List.setIfInBounds_toArray,ls,lz];exact rfl)
     replace q2:=ZA hw q2 (by omega)
     replace E:=ZF E hw (fun h=>by first | exact absurd h (by omega) | simp)
     clear hw
     refine ⟨gone (by kernel_rfl),?_⟩
     refine F.x (i:=14) rfl (fun w'=>Z9 rfl (F.at rfl) Try.underlying28 rfl (n:=9) (sz:=1) rfl (by kernel_rfl) (by decide)) (gone (by kernel_rfl)) ?_;clear F fa;intro fa F
     refine Zv (i:=15) (by kernel_rfl) (Z0u rfl rfl rfl (ZR rfl (F.at rfl) (F.at rfl) rfl (by kernel_rfl) ((Z0 q1 9).trans (getS (getS (getS (getS (getS (getS (getS (getS (getS (get0))))))))))) (Zl q1 9)) ?_);intro w99 hw
     replace ho6:=Ze hw ho6 (Z6 ho6 q1 (by decide))
     replace ho10:=Ze hw ho10 (Z6 ho10 q1 (by decide))
     replace ho14:=Ze hw ho14 (Z6 ho14 q1 (by decide))
     replace q1:=ZK hw q1 (by simp only [List.setIfInBounds_toArray,ls,lz];exact rfl)
     replace q2:=ZA hw q2 (by omega)
     replace E:=ZF E hw (fun h=>by first | exact absurd h (by omega) | simp)
     clear hw
     refine ⟨gone (by kernel_rfl),?_⟩
     refine F.x (i:=16) rfl (fun w'=>Z9 rfl (F.at rfl) Try.underlying28 rfl (n:=10) (sz:=1) rfl (by kernel_rfl) (by decide)) (gone (by kernel_rfl)) ?_;clear F fa;intro fa F
     refine Zv (i:=17) (by kernel_rfl) (Z0u rfl rfl rfl (ZR rfl (F.at rfl) (F.at rfl) rfl (by kernel_rfl) ((Z0 q1 10).trans (getS (getS (getS (getS (getS (getS (getS (getS (getS (getS (get0)))))))))))) (Zl q1 10)) ?_);intro w100 hw
     replace ho6:=Ze hw ho6 (Z6 ho6 q1 (by decide))
     replace ho10:=Ze hw ho10 (Z6 ho10 q1 (by decide))
     replace ho14:=Ze hw ho14 (Z6 ho14 q1 (by decide))
     replace q1:=ZK hw q1 (by simp only [List.setIfInBounds_toArray,ls,lz];exact rfl)
     replace q2:=ZA hw q2 (by omega)
     replace E:=ZF E hw (fun h=>by first | exact absurd h (by omega) | simp)
     clear hw
     refine ⟨gone (by kernel_rfl),?_⟩
     refine Z0a (by kernel_rfl) ?_ _
     exact hcut _ _ _ _ _ _ _ _ (F.sub (.c 1 rfl (.c 2 rfl .n))) q1 q2 E ho6 ho10 ho14
    ·skip
     refine (Z0w F rfl rfl (by decide) rfl (ZT rfl Try.underlying25 (size:=4) (by kernel_rfl)) ?_);clear F fa;intro fa w101 F hw
     obtain ⟨n7,hn⟩:∃ n,n = w93.heap.size:=⟨_,rfl⟩
     rw [← hn] at F
     have s7:w93.heap.size ≤ n7:=Nat.le_of_eq hn.symm
     have l7_E:w.heap.size ≤ n7:=by rw [hn];exact E.size
     have lT7:w2.heap.size ≤ n7:=by rw [hn];exact eT.size
     have m7_1:n1 < n7:=by rw [hn];exact Z7 q1
     have m7_2:n2 < n7:=by rw [hn];exact Z7 q2
     have m7_11:n11 < n7:=by rw [hn];exact Z7 q11
     have m7_3:n3 < n7:=by rw [hn];exact Z7 q3
     replace q1:=Z1 hw q1
     replace q2:=Z1 hw q2
     replace q11:=Z1 hw q11
     replace q3:=Z1 hw q3
     replace E:=Z2 E hw
     replace eT:=Z2 eT hw
     have q7:=Zw hw hn
     clear hw hn
     refine ⟨fun _=>eT,?_⟩
     have ho6:=ZS (base:=w2.heap.size) (size:=2) q3 (by omega)
     have hbl:=Z7 q3
     have hTs:=eT.size
     clear q3
     refine Zv (i:=3) (by kernel_rfl) (Z0f F rfl rfl (by decide) rfl (ZN rfl (w2.heap.size) (e:=23) (size:=2) (bytes:=16) Try.underlying24 (by kernel_rfl) (by decide) (F.at rfl) ho6 (F.at rfl) (HG.out _ E) (by omega) (by omega) (by omega)) ?_);clear F fa;rintro fa v' w102 F ⟨hown',hg⟩
     rw [Nat.zero_add,List.nil_append] at hown'
     clear hbl
     obtain ⟨va6,vc6,rfl⟩:=Zs hown'
     replace q1:=Zb ho6 hg q1 (by decide)
     replace q2:=Zb ho6 hg q2 (by decide)
     replace q11:=Zb ho6 hg q11 (by decide)
     replace q7:=Zb ho6 hg q7 (by decide)
     replace E:=Zd E ho6 hg (by omega)
     replace eT:=Zd eT ho6 hg (by omega)
     replace ho6:=hown'
     clear hg
     refine ⟨fun _=>eT,?_⟩
     replace ho6:=ZH (base':=w.heap.size) ho6 (by omega)
     refine F.x (i:=12) rfl (fun w'=>Z9 rfl (F.at rfl) Try.underlying28 rfl (n:=8) (sz:=1) rfl (by kernel_rfl) (by decide)) (fun _=>eT) ?_;clear F fa;intro fa F
     have ho10:=ZS (base:=w2.heap.size) (size:=4) q7 (by omega)
     have hbl:=Z7 q7
     have hTs:=eT.size
     clear q7
     refine Zv (i:=7) (by kernel_rfl) (Z0f F rfl rfl (by decide) rfl (ZN rfl (w2.heap.size) (e:=66) (size:=4) (bytes:=32) Try.underlying25 (by kernel_rfl) (by decide) (F.at rfl) ho10 (F.at rfl) (HR.out _ E) (by omega) (by omega) (by omega)) ?_);clear F fa;rintro fa v' w103 F ⟨hown',hg⟩
     rw [Nat.zero_add,List.nil_append] at hown'
     clear hbl
     obtain ⟨va10,vc10,rfl⟩:=Zs hown'
     replace q1:=Zb ho10 hg q1 (by decide)
     replace q2:=Zb ho10 hg q2 (by decide)
     replace q11:=Zb ho10 hg q11 (by decide)
     replace ho6:=Zx ho6 ho10 hg (by decide)
     replace E:=Zd E ho10 hg (by omega)
     replace eT:=Zd eT ho10 hg (by omega)
     replace ho10:=hown'
     clear hg
     refine ⟨fun _=>eT,?_⟩
     replace ho10:=ZH (base':=w.heap.size) ho10 (by omega)
     have ho14:=ZS (base:=w2.heap.size) (size:=6) q11 (by omega)
     have hbl:=Z7 q11
     have hTs:=eT.size
     clear q11
     refine Zv (i:=11) (by kernel_rfl) (Z0f F rfl rfl (by decide) rfl (ZN rfl (w2.heap.size) (e:=75) (size:=6) (bytes:=48) Try.underlying26 (by kernel_rfl) (by decide) (F.at rfl) ho14 (F.at rfl) (HK.out _ E) (by omega) (by omega) (by omega)) ?_);clear F fa;rintro fa v' w104 F ⟨hown',hg⟩
     rw [Nat.zero_add,List.nil_append] at hown'
     clear hbl
     obtain ⟨va14,vc14,rfl⟩:=Zs hown'
     replace q1:=Zb ho14 hg q1 (by decide)
     replace q2:=Zb ho14 hg q2 (by decide)
     replace ho6:=Zx ho6 ho14 hg (by decide)
     replace ho10:=Zx ho10 ho14 hg (by decide)
     replace E:=Zd E ho14 hg (by omega)
     replace eT:=Zd eT ho14 hg (by omega)
     replace ho14:=hown'
     clear hg
     refine ⟨fun _=>eT,?_⟩
     replace ho14:=ZH (base':=w.heap.size) ho14 (by omega)
     refine Zv (i:=13) (by kernel_rfl) (Z0u rfl rfl rfl (ZR rfl (F.at rfl) (F.at rfl) rfl (by kernel_rfl) ((Z0 q1 8).trans (getS (getS (getS (getS (getS (getS (getS (getS (get0)))))))))) (Zl q1 8)) ?_);intro w105 hw
     replace ho6:=Ze hw ho6 (Z6 ho6 q1 (by decide))
     replace ho10:=Ze hw ho10 (Z6 ho10 q1 (by decide))
     replace ho14:=Ze hw ho14 (Z6 ho14 q1 (by decide))
     replace q1:=ZK hw q1 (by simp only [List.setIfInBounds_toArray,ls,lz];exact rfl)
     replace q2:=ZA hw q2 (by omega)
     replace E:=ZF E hw (fun h=>by first | exact absurd h (by omega) | simp)
     clear hw
     refine ⟨gone (by kernel_rfl),?_⟩
     refine F.x (i:=14) rfl (fun w'=>Z9 rfl (F.at rfl) Try.underlying28 rfl (n:=9) (sz:=1) rfl (by kernel_rfl) (by decide)) (gone (by kernel_rfl)) ?_;clear F fa;intro fa F
     refine Zv (i:=15) (by kernel_rfl) (Z0u rfl rfl rfl (ZR rfl (F.at rfl) (F.at rfl) rfl (by kernel_rfl) ((Z0 q1 9).trans (getS (getS (getS (getS (getS (getS (getS (getS (getS (get0))))))))))) (Zl q1 9)) ?_);intro w106 hw
     replace ho6:=Ze hw ho6 (Z6 ho6 q1 (by decide))
     replace ho10:=Ze hw ho10 (Z6 ho10 q1 (by decide))
     replace ho14:=Ze hw ho14 (Z6 ho14 q1 (by decide))
     replace q1:=ZK hw q1 (by simp only [List.setIfInBounds_toArray,ls,lz];exact rfl)
     replace q2:=ZA hw q2 (by omega)
     replace E:=ZF E hw (fun h=>by first | exact absurd h (by omega) | simp)
     clear hw
     refine ⟨gone (by kernel_rfl),?_⟩
     refine F.x (i:=16) rfl (fun w'=>Z9 rfl (F.at rfl) Try.underlying28 rfl (n:=10) (sz:=1) rfl (by kernel_rfl) (by decide)) (gone (by kernel_rfl)) ?_;clear F fa;intro fa F
     refine Zv (i:=17) (by kernel_rfl) (Z0u rfl rfl rfl (ZR rfl (F.at rfl) (F.at rfl) rfl (by kernel_rfl) ((Z0 q1 10).trans (getS (getS (getS (getS (getS (getS (getS (getS (getS (getS (get0)))))))))))) (Zl q1 10)) ?_);intro w107 hw
     replace ho6:=Ze hw ho6 (Z6 ho6 q1 (by decide))
     replace ho10:=Ze hw ho10 (Z6 ho10 q1 (by decide))
     replace ho14:=Ze hw ho14 (Z6 ho14 q1 (by decide))
     replace q1:=ZK hw q1 (by simp only [List.setIfInBounds_toArray,ls,lz];exact rfl)
     replace q2:=ZA hw q2 (by omega)
     replace E:=ZF E hw (fun h=>by first | exact absurd h (by omega) | simp)
     clear hw
     refine ⟨gone (by kernel_rfl),?_⟩
     refine Z0a (by kernel_rfl) ?_ _
     exact hcut _ _ _ _ _ _ _ _ (F.sub (.c 1 rfl (.c 2 rfl .n))) q1 q2 E ho6 ho10 ho14
   ·skip
    refine (Z0w F rfl rfl (by decide) rfl (ZT rfl Try.underlying25 (size:=4) (by kernel_rfl)) ?_);clear F fa;intro fa w108 F hw
    obtain ⟨n7,hn⟩:∃ n,n = w92.heap.size:=⟨_,rfl⟩
    rw [← hn] at F
    have s7:w92.heap.size ≤ n7:=Nat.le_of_eq hn.symm
    have l7_E:w.heap.size ≤ n7:=by rw [hn];exact E.size
    have lT7:w2.heap.size ≤ n7:=by rw [hn];exact eT.size
    have m7_1:n1 < n7:=by rw [hn];exact Z7 q1
    have m7_2:n2 < n7:=by rw [hn];exact Z7 q2
    have m7_11:n11 < n7:=by rw [hn];exact Z7 q11
    replace q1:=Z1 hw q1
    replace q2:=Z1 hw q2
    replace q11:=Z1 hw q11
    replace E:=Z2 E hw
    replace eT:=Z2 eT hw
    have q7:=Zw hw hn
    clear hw hn
    refine ⟨fun _=>eT,?_⟩
    refine Zv (i:=0) (by kernel_rfl) (Z0w F rfl rfl (by decide) rfl (ZT rfl Try.underlying24 (size:=2) (by kernel_rfl)) ?_);clear F fa;intro fa w109 F hw
    obtain ⟨n3,hn⟩:∃ n,n = w108.heap.size:=⟨_,rfl⟩
    rw [← hn] at F
    have s3:w108.heap.size ≤ n3:=Nat.le_of_eq hn.symm
    have l3_E:w.heap.size ≤ n3:=by rw [hn];exact E.size
    have lT3:w2.heap.size ≤ n3:=by rw [hn];exact eT.size
    have m3_1:n1 < n3:=by rw [hn];exact Z7 q1
    have m3_2:n2 < n3:=by rw [hn];exact Z7 q2
    have m3_11:n11 < n3:=by rw [hn];exact Z7 q11
    have m3_7:n7 < n3:=by rw [hn];exact Z7 q7
    replace q1:=Z1 hw q1
    replace q2:=Z1 hw q2
    replace q11:=Z1 hw q11
    replace q7:=Z1 hw q7
    replace E:=Z2 E hw
    replace eT:=Z2 eT hw
    have q3:=Zw hw hn
    clear hw hn
    refine ⟨fun _=>eT,?_⟩
    have ho6:=ZS (base:=w2.heap.size) (size:=2) q3 (by omega)
    have hbl:=Z7 q3
    have hTs:=eT.size
    clear q3
    refine Zv (i:=3) (by kernel_rfl) (Z0f F rfl rfl (by decide) rfl (ZN rfl (w2.heap.size) (e:=23) (size:=2) (bytes:=16) Try.underlying24 (by kernel_rfl) (by decide) (F.at rfl) ho6 (F.at rfl) (HG.out _ E) (by omega) (by omega) (by omega)) ?_);clear F fa;rintro fa v' w110 F ⟨hown',hg⟩
    rw [Nat.zero_add,List.nil_append] at hown'
    clear hbl
    obtain ⟨va6,vc6,rfl⟩:=Zs hown'
    replace q1:=Zb ho6 hg q1 (by decide)
    replace q2:=Zb ho6 hg q2 (by decide)
    replace q11:=Zb ho6 hg q11 (by decide)
    replace q7:=Zb ho6 hg q7 (by decide)
    replace E:=Zd E ho6 hg (by omega)
    replace eT:=Zd eT ho6 hg (by omega)
    replace ho6:=hown'
    clear hg
    refine ⟨fun _=>eT,?_⟩
    replace ho6:=ZH (base':=w.heap.size) ho6 (by omega)
    refine F.x (i:=12) rfl (fun w'=>Z9 rfl (F.at rfl) Try.underlying28 rfl (n:=8) (sz:=1) rfl (by kernel_rfl) (by decide)) (fun _=>eT) ?_;clear F fa;intro fa F
    have ho10:=ZS (base:=w2.heap.size) (size:=4) q7 (by omega)
    have hbl:=Z7 q7
    have hTs:=eT.size
    clear q7
    refine Zv (i:=7) (by kernel_rfl) (Z0f F rfl rfl (by decide) rfl (ZN rfl (w2.heap.size) (e:=66) (size:=4) (bytes:=32) Try.underlying25 (by kernel_rfl) (by decide) (F.at rfl) ho10 (F.at rfl) (HR.out _ E) (by omega) (by omega) (by omega)) ?_);clear F fa;rintro fa v' w111 F ⟨hown',hg⟩
    rw [Nat.zero_add,List.nil_append] at hown'
    clear hbl
    obtain ⟨va10,vc10,rfl⟩:=Zs hown'
    replace q1:=Zb ho10 hg q1 (by decide)
    replace q2:=Zb ho10 hg q2 (by decide)
    replace q11:=Zb ho10 hg q11 (by decide)
    replace ho6:=Zx ho6 ho10 hg (by decide)
    replace E:=Zd E ho10 hg (by omega)
    replace eT:=Zd eT ho10 hg (by omega)
    replace ho10:=hown'
    clear hg
    refine ⟨fun _=>eT,?_⟩
    replace ho10:=ZH (base':=w.heap.size) ho10 (by omega)
    have ho14:=ZS (base:=w2.heap.size) (size:=6) q11 (by omega)
    have hbl:=Z7 q11
    have hTs:=eT.size
    clear q11
    refine Zv (i:=11) (by kernel_rfl) (Z0f F rfl rfl (by decide) rfl (ZN rfl (w2.heap.size) (e:=75) (size:=6) (bytes:=48) Try.underlying26 (by kernel_rfl) (by decide) (F.at rfl) ho14 (F.at rfl) (HK.out _ E) (by omega) (by omega) (by omega)) ?_);clear F fa;rintro fa v' w112 F ⟨hown',hg⟩
    rw [Nat.zero_add,List.nil_append] at hown'
    clear hbl
    obtain ⟨va14,vc14,rfl⟩:=Zs hown'
    replace q1:=Zb ho14 hg q1 (by decide)
    replace q2:=Zb ho14 hg q2 (by decide)
    replace ho6:=Zx ho6 ho14 hg (by decide)
    replace ho10:=Zx ho10 ho14 hg (by decide)
    replace E:=Zd E ho14 hg (by omega)
    replace eT:=Zd eT ho14 hg (by omega)
    replace ho14:=hown'
    clear hg
    refine ⟨fun _=>eT,?_⟩
    replace ho14:=ZH (base':=w.heap.size) ho14 (by omega)
    refine Zv (i:=13) (by kernel_rfl) (Z0u rfl rfl rfl (ZR rfl (F.at rfl) (F.at rfl) rfl (by kernel_rfl) ((Z0 q1 8).trans (getS (getS (getS (getS (getS (getS (getS (getS (get0)))))))))) (Zl q1 8)) ?_);intro w113 hw
    replace ho6:=Ze hw ho6 (Z6 ho6 q1 (by decide))
    replace ho10:=Ze hw ho10 (Z6 ho10 q1 (by decide))
    replace ho14:=Ze hw ho14 (Z6 ho14 q1 (by decide))
    replace q1:=ZK hw q1 (by simp only [List.setIfInBounds_toArray,ls,lz];exact rfl)
    replace q2:=ZA hw q2 (by omega)
    replace E:=ZF E hw (fun h=>by first | exact absurd h (by omega) | simp)
    clear hw
    refine ⟨gone (by kernel_rfl),?_⟩
    refine F.x (i:=14) rfl (fun w'=>Z9 rfl (F.at rfl) Try.underlying28 rfl (n:=9) (sz:=1) rfl (by kernel_rfl) (by decide)) (gone (by kernel_rfl)) ?_;clear F fa;intro fa F
    refine Zv (i:=15) (by kernel_rfl) (Z0u rfl rfl rfl (ZR rfl (F.at rfl) (F.at rfl) rfl (by kernel_rfl) ((Z0 q1 9).trans (getS (getS (getS (getS (getS (getS (getS (getS (getS (get0))))))))))) (Zl q1 9)) ?_);intro w114 hw
    replace ho6:=Ze hw ho6 (Z6 ho6 q1 (by decide))
    replace ho10:=Ze hw ho10 (Z6 ho10 q1 (by decide))
    replace ho14:=Ze hw ho14 (Z6 ho14 q1 (by decide))
    replace q1:=ZK hw q1 (by simp only [List.setIfInBounds_toArray,ls,lz];exact rfl)
    replace q2:=ZA hw q2 (by omega)
    replace E:=ZF E hw (fun h=>by first | exact absurd h (by omega) | simp)
    clear hw
    refine ⟨gone (by kernel_rfl),?_⟩
    refine F.x (i:=16) rfl (fun w'=>Z9 rfl (F.at rfl) Try.underlying28 rfl (n:=10) (sz:=1) rfl (by kernel_rfl) (by decide)) (gone (by kernel_rfl)) ?_;clear F fa;intro fa F
    refine Zv (i:=17) (by kernel_rfl) (Z0u rfl rfl rfl (ZR rfl (F.at rfl) (F.at rfl) rfl (by kernel_rfl) ((Z0 q1 10).trans (getS (getS (getS (getS (getS (getS (getS (getS (getS (getS (get0)))))))))))) (Zl q1 10)) ?_);intro w115 hw
    replace ho6:=Ze hw ho6 (Z6 ho6 q1 (by decide))
    replace ho10:=Ze hw ho10 (Z6 ho10 q1 (by decide))
    replace ho14:=Ze hw ho14 (Z6 ho14 q1 (by decide))
    replace q1:=ZK hw q1 (by simp only [List.setIfInBounds_toArray,ls,lz];exact rfl)
    replace q2:=ZA hw q2 (by omega)
    replace E:=ZF E hw (fun h=>by first | exact absurd h (by omega) | simp)
    clear hw
    refine ⟨gone (by kernel_rfl),?_⟩
    refine Z0a (by kernel_rfl) ?_ _
    exact hcut _ _ _ _ _ _ _ _ (F.sub (.c 1 rfl (.c 2 rfl .n))) q1 q2 E ho6 ho10 ho14
 clear F q1 q2 E fa
 intro  va6 va10 va14 vc6 vc10 vc14 fa w116 F q1 q2 E ho6 ho10 ho14
 refine hK2 _ _ ?_
 clear hK2
 refine wp_seq_k fun K3 hK3=>?_
 refine wp_region_lit ?_
 refine F.vl (Zt rfl (F.at rfl) Try.underlying28 rfl (by kernel_rfl) q1) ?_;clear F fa;intro fa F
 refine Z1L rfl rfl (Zg rfl (F.at rfl) (F.at rfl) (by kernel_rfl) (by first | (simp [Value.oneCell'];done) | (simp [Value.oneCell',Z0K,Z0B,Z0L];done)) q2 rfl) ?_;intro w117 hw
 replace ho6:=Zu hw ho6 (Z6 ho6 q2 (by decide))
 replace ho10:=Zu hw ho10 (Z6 ho10 q2 (by decide))
 replace ho14:=Zu hw ho14 (Z6 ho14 q2 (by decide))
 replace q1:=Z5 hw q1 (by omega)
 replace q2:=Zz hw q2 rfl
 replace E:=Za E hw (fun h=>by first | exact absurd h (by omega) | simp)
 clear hw
 refine wpList_nil ?_
 refine hK3 _ _ ?_
 clear hK3
 refine wp_ret ?_
 (try simp only [Exit.inBlock,Exit.then])
 refine rt_v F (rs_c F rfl rfl Try.underlying28 rfl (by kernel_rfl) q2) ?_
 exact ⟨_,_,_,rfl,⟨ho6,ho10,ho14⟩,E⟩
def RdW (t:Tp) (lo hi:Int) (r:Int × Int × Int × Int):Prop:=0 ≤ r.1 ∧ r.1 < t.S ∧ 0 ≤ r.2.1 ∧ r.2.1 < t.A ∧ 0 ≤ r.2.2.1 ∧ r.2.2.1 < t.T ∧ t.bl - lo ≤ r.2.2.2 ∧ r.2.2.2 ≤ t.bm + hi
structure RdAll (t:Tp) (i:Nat) (rd:List (Int × Int × Int × Int)):Prop where
 len:t.rd.length = rd.length
 all:∀ j,j < rd.length → RdW t (if j < i then 14 else 5) (if j < i then 35 else 5) (rd.getD j (0,0,0,0))
theorem RdAll.at {t:Tp} {i:Nat} {rd:List (Int × Int × Int × Int)} (h:RdAll t i rd) (hi:i < rd.length):RdW t 5 5 (rd.getD i (0,0,0,0)):=by
 have:=h.all i hi
 rwa [if_neg (by omega),if_neg (by omega)] at this
theorem RdAll.keep {t:Tp} {i:Nat} {rd:List (Int × Int × Int × Int)} (h:RdAll t i rd):RdAll t (i + 1) rd:=⟨h.len,fun j hj=>by
 have a:=h.all j hj
 unfold RdW at a ⊢
 refine ⟨a.1,a.2.1,a.2.2.1,a.2.2.2.1,a.2.2.2.2.1,a.2.2.2.2.2.1,?_,?_⟩
 ·have:=a.2.2.2.2.2.2.1
  split at this <;> split <;> omega
 ·have:=a.2.2.2.2.2.2.2
  split at this <;> split <;> omega⟩
theorem RdAll.put {t:Tp} {i:Nat} {rd:List (Int × Int × Int × Int)} (h:RdAll t i rd) (hi:i < rd.length) {u:Int} (h1:-9 ≤ u) (h2:u ≤ 30):RdAll t (i + 1) (rd.set i ((rd.getD i (0,0,0,0)).1,(rd.getD i (0,0,0,0)).2.1,(rd.getD i (0,0,0,0)).2.2.1,(rd.getD i (0,0,0,0)).2.2.2 + u)):=by
 refine ⟨by rw [List.length_set];exact h.len,fun j hj=>?_⟩
 rw [List.length_set] at hj
 by_cases e:j = i
 ·subst e
  have a:=h.at hi
  rw [if_pos (by omega),if_pos (by omega)]
  unfold RdW at a ⊢
  simp only [List.getD_eq_getElem?_getD,List.getElem?_set_self hi,Option.getD_some] at a ⊢
  omega
 ·have:=h.keep.all j hj
  simpa only [List.getD_eq_getElem?_getD,List.getElem?_set_ne (Ne.symm e)] using this
structure Wild (t:Tp):Prop where
 ok:t.Ok
 rdl:t.rd.length ≤ 5
 lkl:t.lk.length ≤ 2
 S2:t.S ≤ 2
 A2:t.A ≤ 2
 bl1:60 ≤ t.bl
 bl2:t.bl ≤ 100
 bm:t.bm ≤ t.bl + 60
 rd:∀ r ∈ t.rd,t.bl - 14 ≤ r.2.2.2 ∧ r.2.2.2 ≤ t.bm + 35
theorem RdAll.init {t:Tp} {ms:List (List Int)} {ps:List Int} (h:Made t ms ps):RdAll t 0 t.rd:=⟨rfl,fun j hj=>by
 rw [if_neg (by omega),if_neg (by omega)]
 have q:=h.rd _ (Z0m (0,0,0,0) hj)
 have m:=h.meas q.s0 q.s1 q.a0 q.a1
 have p:=h.pull q.t0 q.t1
 have l:=q.lo
 have u:=q.hi
 have s:=h.sl2
 have p1:=h.pl1
 have p2:=h.pm2
 exact ⟨q.s0,q.s1,q.a0,q.a1,q.t0,q.t1,by omega,by omega⟩⟩
theorem RdAll.wild {t:Tp} {ms:List (List Int)} {ps:List Int} (h:Made t ms ps) (hS:t.S ≤ 2) (hA:t.A ≤ 2) {rd:List (Int × Int × Int × Int)} {i:Nat} (hr:RdAll t i rd) (hi:t.rd.length ≤ i):Wild { t with rd:=rd }:=by
 have o:=h.ok
 have b1:=h.bl1
 have b2:=h.bl2
 have b3:=h.b
 have b4:=h.bm1
 have hl:=hr.len
 have hrl:=h.rdl
 have key:∀ r ∈ rd,RdW t 14 35 r:=fun r hm=>by
  obtain ⟨j,hj,rfl⟩:=List.getElem_of_mem hm
  have:=hr.all j hj
  rw [if_pos (by omega),if_pos (by omega)] at this
  simpa [hj] using this
 refine ⟨⟨o.S1,o.S3,o.A1,o.A3,o.T1,o.T3,o.bl1,o.bm1,o.b,o.pl1,o.pm1,o.p,o.sl0,o.sl5,o.grl,o.gr,by simp only;omega,fun r hm=>?_,o.lkl,o.lk⟩,by simp only;omega,h.lkl,hS,hA,b1,b2,b4,fun r hm=>?_⟩
 ·have a:=key r hm
  unfold RdW at a
  simp only
  omega
 ·have a:=key r hm
  unfold RdW at a
  simp only
  omega
def Z8X (w0 w:World) (b k:Nat) (nv:Value) (e:Ending) (w':World):Prop:=∃ t gv rv lv,e = .returned (tpV t gv rv lv) ∧ Wild t ∧ Zbj w' w.heap.size gv rv lv t ∧ Z0v w0 w' b (k + 200) nv ∧ Ext [b] w w'
set_option maxRecDepth 100000 in
theorem Z6U (w0 w:World) (b k:Nat) (nv:Value) (HL:Z0v w0 w b k nv) (hk:k ≤ 1000) :
  Calls Try.prog 46 #[.pointer (some ⟨b,0,none⟩)] w (Z8X w0 w b k nv):=by
 have hb:=HL.1
 have hws:w0.heap.size ≤ w.heap.size:=HL.2.2.1.size
 have E:Ext [b] w w:=Ext.refl _ _
 have hbw:b < w.heap.size:=Z0c HL
 refine Z01 41 Try.func46 rfl Try.ntmps46 (Nat.le_of_ble_eq_true rfl) ?_
 intro fa F
 refine wp_seq_k fun K1 hK1=>?_
 refine wp_region_lit ?_
 refine Z00 F rfl (by decide) rfl (ZB rfl Try.zeroValue28) ?_;clear F fa;intro fa w1 F hw
 obtain ⟨n2,hn⟩:∃ n,n = w.heap.size:=⟨_,rfl⟩
 rw [← hn] at F
 have s2:w.heap.size ≤ n2:=Nat.le_of_eq hn.symm
 have l2_E:w.heap.size ≤ n2:=by rw [hn];exact E.size
 have b2_HL:=Nat.lt_of_lt_of_eq (Z0c HL) hn.symm
 replace E:=Z2 E hw
 replace HL:=ZV hw HL
 have q2:=Zr hw hn
 clear hw hn
 refine wpList_nil ?_
 refine hK1 _ _ ?_
 clear hK1
 refine wp_seq_k fun K2 hK2=>?_
 refine wp_region_lit ?_
 refine F.mv ?_;clear F fa;intro fa F
 refine F.mv ?_;clear F fa;intro fa F
 refine Z00 F rfl (by decide) rfl (Z09 rfl (prS (ev_c fa _) (prS (ev_c fa _) (prS (ev_c fa _) pr0))) Try.underlying29 (size:=1) (by kernel_rfl) (by decide) (by decide) Try.zeroValue3 (cells:=#[.int .i64 6,.int .i64 20,.int .i64 60]) (by kernel_rfl)) ?_;clear F fa;intro fa w2 F hw
 obtain ⟨n10,hn⟩:∃ n,n = w1.heap.size:=⟨_,rfl⟩
 rw [← hn] at F
 have s10:w1.heap.size ≤ n10:=Nat.le_of_eq hn.symm
 have l10_E:w.heap.size ≤ n10:=by rw [hn];exact E.size
 have b10_HL:=Nat.lt_of_lt_of_eq (Z0c HL) hn.symm
 have m10_2:n2 < n10:=by rw [hn];exact Z7 q2
 replace q2:=Z1 hw q2
 replace E:=Z2 E hw
 replace HL:=ZV hw HL
 have q10:=Zw hw hn
 clear hw hn
 refine ZX F rfl (by decide) rfl (ZG rfl rfl Try.call45 (mpS (F.at rfl) (mpS (F.at rfl) mp0))) (Z3r w0 _ b _ nv n10 _ [6,20,60] HL (by omega) q10 (by omega) (by decide) (by decide)) fun e w3 hR=>?_
 obtain ⟨wd,rfl,hwd,HL,e1⟩:=hR
 refine ⟨_,rfl,?_⟩;clear F fa;intro fa F
 replace q2:=(e1).keep q2 (by simp;omega)
 replace q10:=(e1).keep q10 (by simp;omega)
 replace E:=E.trans' e1 (fun i hi hl=>by simp only [List.mem_cons,List.not_mem_nil,or_false] at hi ⊢;omega)
 replace hwd:0 ≤ wd ∧ wd ≤ 60:=by simp at hwd;omega
 have hle:=E.size
 refine ZX F rfl (by decide) rfl (ZG rfl rfl Try.call44 (mpS (F.at rfl) (mpS (ev_c fa _) (mpS (ev_c fa _) (mpS (F.at rfl) mp0))))) (Z4R w0 _ b _ _ 2 2 wd HL (by omega) (by omega) (by omega) (by omega) (by omega) (by omega) (by omega)) fun e w4 hR=>?_
 obtain ⟨t,ms,ps,vs,gv,rv,lv,mv,pv,rfl,hM,hS,hA,hbm,og,orr,olk,om,hms,op,HL,e2⟩:=hR
 refine ⟨_,rfl,?_⟩;clear F fa;intro fa F
 replace q2:=(e2).keep q2 (by simp;omega)
 replace q10:=(e2).keep q10 (by simp;omega)
 replace E:=E.trans' e2 (fun i hi hl=>by simp only [List.mem_cons,List.not_mem_nil,or_false] at hi ⊢;omega)
 obtain ⟨ga,gc,rfl⟩:=Zs og
 obtain ⟨ra,rc,rfl⟩:=Zs orr
 obtain ⟨la,lc,rfl⟩:=Zs olk
 obtain ⟨ma,mc,rfl⟩:=Zs om
 obtain ⟨pa,pc,rfl⟩:=Zs op
 clear om hms op e1 e2
 replace og:=ZH og hle
 replace orr:=ZH orr hle
 replace olk:=ZH olk hle
 clear hle
 have hrl:=hM.rdl
 have hb1:=hM.bl1
 have hb2:=hM.bl2
 have hb3:=hM.bm1
 refine F.mv ?_;clear F fa;intro fa F
 refine F.vl (Zm rfl (F.at rfl) (get0)) ?_;clear F fa;intro fa F
 refine F.vl (Zm rfl (F.at rfl) (getS (get0))) ?_;clear F fa;intro fa F
 refine F.vl (Zm rfl (F.at rfl) (getS (getS (get0)))) ?_;clear F fa;intro fa F
 refine Z00 F rfl (by decide) rfl (ZB rfl Try.zeroValue28) ?_;clear F fa;intro fa w5 F hw
 obtain ⟨n3,hn⟩:∃ n,n = w4.heap.size:=⟨_,rfl⟩
 rw [← hn] at F
 have s3:w4.heap.size ≤ n3:=Nat.le_of_eq hn.symm
 have l3_E:w.heap.size ≤ n3:=by rw [hn];exact E.size
 have b3_HL:=Nat.lt_of_lt_of_eq (Z0c HL) hn.symm
 have m3_2:n2 < n3:=by rw [hn];exact Z7 q2
 have m3_10:n10 < n3:=by rw [hn];exact Z7 q10
 have o3_og:=Lib.hid (Zo og hn)
 have o3_olk:=Lib.hid (Zo olk hn)
 have o3_orr:=Lib.hid (Zo orr hn)
 replace og:=Zc hw og
 replace olk:=Zc hw olk
 replace orr:=Zc hw orr
 replace q2:=Z1 hw q2
 replace q10:=Z1 hw q10
 replace E:=Z2 E hw
 replace HL:=ZV hw HL
 have q3:=Zr hw hn
 clear hw hn
 refine Z1L rfl rfl (Zg rfl (F.at rfl) (F.at rfl) (by kernel_rfl) (by first | (simp [Value.oneCell'];done) | (simp [Value.oneCell',Z0K,Z0B,Z0L];done)) q3 rfl) ?_;intro w6 hw
 replace og:=Zu hw og (Z6 og q3 (by decide))
 replace olk:=Zu hw olk (Z6 olk q3 (by decide))
 replace orr:=Zu hw orr (Z6 orr q3 (by decide))
 replace q2:=Z5 hw q2 (by omega)
 replace q10:=Z5 hw q10 (by omega)
 replace q3:=Zz hw q3 rfl
 replace E:=Za E hw (fun h=>by first | exact absurd h (by omega) | simp)
 replace HL:=Z0d hw HL (by omega) (by omega)
 clear hw
 refine F.as ?_;clear F fa;intro fa F
 refine F.as ?_;clear F fa;intro fa F
 refine wpList_nil ?_
 refine hK2 _ _ ?_
 clear hK2
 refine wp_seq_k fun K3 hK3=>?_
 refine wp_seq_k fun K4 hK4=>?_
 refine wp_region_lit ?_
 refine F.vl (Z8 rfl (ev_c fa _)) ?_;clear F fa;intro fa F
 refine wpList_nil ?_
 refine hK4 _ _ ?_
 clear hK4
 refine wp_block ?_
 have F0:=F.sub (.c 0 rfl (.c 2 rfl (.c 3 rfl .n)))
 replace HL:Z0v w0 w6 b (k + 101 + 2 * 0) nv:=Z0t HL (by omega)
 refine Z0U F0 (t.rd.length) (fun i Lv W=>∃ rd:List (Int × Int × Int × Int),Lv = [(6,.int .i64 ((i:Nat):Int))] ∧ Ext [b] w W ∧ W.heap[n2]? = some (.cells #[.int .i64 0,.int .i64 0,.int .i64 0,.int .i64 0,.int .i64 0,.int .i64 0,.int .i64 0,.int .i64 0,.slice none 0 0,.slice none 0 0,.slice none 0 0] 28 (0,0)) ∧ W.heap[n10]? = some (.cells #[.int .i64 6,.int .i64 20,.int .i64 60] 3 (0,0)) ∧ W.heap[n3]? = some (.cells #[.int .i64 t.S,.int .i64 t.A,.int .i64 t.T,.int .i64 t.bl,.int .i64 t.bm,.int .i64 t.pl,.int .i64 t.pm,.int .i64 t.sl,.slice ga t.gr.length gc,.slice ra t.rd.length rc,.slice la t.lk.length lc] 28 (0,0)) ∧ Z0v w0 W b (k + 101 + 2 * i) nv ∧ W.ownsRow w.heap.size 23 2 (.slice ga t.gr.length gc) t.gr.length (Z4U t.gr) ∧ W.ownsRow w.heap.size 75 6 (.slice la t.lk.length lc) t.lk.length (Z4z t.lk) ∧ W.ownsRow w.heap.size 66 4 (.slice ra t.rd.length rc) t.rd.length (Z37 rd) ∧ RdAll t i rd) ⟨_,⟨t.rd,rfl,E,q2,q10,q3,HL,og,olk,orr,RdAll.init hM⟩,F.sub (.c 6 rfl (.c 0 rfl (.c 2 rfl (.c 3 rfl .n))))⟩ ?_
 clear F F0
 clear E q2 q10 q3 HL og olk
 clear orr
 rintro i _ fa w7 hi1 ⟨rd,rfl,E,q2,q10,q3,HL,og,olk,orr,hrd⟩ F
 refine wp_seq_k fun K5 hK5=>?_
 refine wp_seq_k fun K6 hK6=>?_
 refine wp_region_lit ?_
 refine F.mv ?_;clear F fa;intro fa F
 refine F.vl (Z9 rfl (F.at rfl) Try.underlying28 rfl (n:=9) (sz:=1) rfl (by kernel_rfl) (by decide)) ?_;clear F fa;intro fa F
 refine F.vl (Zh rfl (F.at rfl) Try.underlying25 rfl ((Z0 q3 9).trans (getS (getS (getS (getS (getS (getS (getS (getS (getS (get0)))))))))))) ?_;clear F fa;intro fa F
 refine F.vl (Z1c rfl rfl (F.at rfl) Try.underlying25) ?_;clear F fa;intro fa F
 refine F.vl (Z1d rfl (F.at rfl) (F.at rfl)) ?_;clear F fa;intro fa F
 refine wpList_nil ?_
 refine hK6 _ _ ?_
 clear hK6
 refine Z0J F rfl (fun hc20=>?_) (fun hc20=>?_)
 ·skip
  refine wp_skip ?_
  refine hK5 _ _ ?_
  clear hK5
  refine wp_seq_k fun K7 hK7=>?_
  refine wp_block ?_
  refine wp_seq_k fun K8 hK8=>?_
  refine wp_region_lit ?_
  refine F.mv ?_;clear F fa;intro fa F
  refine ZX F rfl (by decide) rfl (ZG rfl rfl Try.call69 (mpS (F.at rfl) (mpS (ev_c fa _) mp0))) (Z7m w0 _ b _ nv 4 HL (by omega) (by omega) (by omega)) fun e w8 hR=>?_
  obtain ⟨r,rfl,HL,e3⟩:=hR
  refine ⟨_,rfl,?_⟩;clear F fa;intro fa F
  replace og:=Zq og (e3) (by simp;omega)
  replace olk:=Zq olk (e3) (by simp;omega)
  replace orr:=Zq orr (e3) (by simp;omega)
  replace q2:=(e3).keep q2 (by simp;omega)
  replace q10:=(e3).keep q10 (by simp;omega)
  replace q3:=(e3).keep q3 (by simp;omega)
  replace E:=E.trans' e3 (fun i hi hl=>by simp only [List.mem_cons,List.not_mem_nil,or_false] at hi ⊢;omega)
  refine wpList_nil ?_
  refine hK8 _ _ ?_
  clear hK8
  refine cd_b F rfl (fun hc24=>?_) (fun hc24=>?_)
  ·skip
   have EX:Ext [b] w8 w8:=Ext.refl _ _
   have HS:=Lib.hid (Z2B orr hrd.len (fun _=>rfl) [b] (by simp;omega) (0,0,0,0))
   have hfl:(Z37 rd).length = rd.length * 4:=Z3i (row:=Z0B) (sz:=4) (fun _=>rfl) rd
   have hlr:=hrd.len
   obtain ⟨-,-,-,-,-,-,ht1,ht2⟩:=hrd.at (by omega)
   refine Z0P (Ext [b] w8) (some 15) follows fun w9 hh eh=>?_
   have q2_:=q2
   replace q2:=Zn hh q2
   have q10_:=q10
   replace q10:=Zn hh q10
   have q3_:=q3
   replace q3:=Zn hh q3
   have E_:=E
   have zEw9:=E.size
   replace E:=Z4 E eh
   have EX_:=EX
   have zEXw9:=EX.size
   replace EX:=Z4 EX eh
   have zbw9:=Z0c HL
   replace HL:=Z1V eh HL
   replace og:=ZW hh og
   replace olk:=ZW hh olk
   replace orr:=ZW hh orr
   have eT:=eh.mono (Y:=[b]) (by simp)
   clear hh eh
   refine F.x (i:=0) rfl (fun w'=>Z9 rfl (F.at rfl) Try.underlying28 rfl (n:=9) (sz:=1) rfl (by kernel_rfl) (by decide)) (fun _=>eT) ?_;clear F fa;intro fa F
   refine F.xr (i:=1) rfl (fun w' hS=>Zh rfl (F.at rfl) Try.underlying25 rfl ((Z0 (hS.keep q3_ (by simp;omega)) 9).trans (getS (getS (getS (getS (getS (getS (getS (getS (getS (get0)))))))))))) (fun _=>eT) ?_;clear F fa;intro fa F
   refine F.x (i:=2) rfl (fun w'=>Zi rfl (F.at rfl)) (fun _=>eT) ?_;clear F fa;intro fa F
   refine F.x (i:=3) rfl (fun w'=>Z9 rfl (F.at rfl) Try.underlying28 rfl (n:=9) (sz:=1) rfl (by kernel_rfl) (by decide)) (fun _=>eT) ?_;clear F fa;intro fa F
   refine F.xr (i:=4) rfl (fun w' hS=>Zh rfl (F.at rfl) Try.underlying25 rfl ((Z0 (hS.keep q3_ (by simp;omega)) 9).trans (getS (getS (getS (getS (getS (getS (getS (getS (getS (get0)))))))))))) (fun _=>eT) ?_;clear F fa;intro fa F
   refine F.x (i:=5) rfl (fun w'=>Zi rfl (F.at rfl)) (fun _=>eT) ?_;clear F fa;intro fa F
   obtain ⟨xb9,xo9,xa9,xr9⟩:=HS.out i (by omega)
   refine F.x (i:=6) rfl (fun w'=>ZJ (sz:=4) rfl ((F.at rfl).trans (xa9 _ _)) (F.at rfl) Try.underlying25 (by kernel_rfl) (by omega) (by omega)) (fun _=>eT) ?_;clear F fa;intro fa F
   refine F.x (i:=7) rfl (fun w'=>Z9 rfl (F.at rfl) Try.underlying66 rfl (n:=xo9 + ((i:Nat):Int).toNat * 4 + 3) (sz:=1) rfl (by kernel_rfl) (by decide)) (fun _=>eT) ?_;clear F fa;intro fa F
   refine F.xr (i:=8) rfl (fun w' hS=>Zh rfl (F.at rfl) Try.underlying3 rfl (xr9 _ (EX_.trans hS) 3 _ rfl)) (fun _=>eT) ?_;clear F fa;intro fa F
   refine F.x (i:=9) rfl (fun w'=>Zi rfl (F.at rfl)) (fun _=>eT) ?_;clear F fa;intro fa F
   refine Zv (i:=10) (by kernel_rfl) (Z0w F rfl rfl (by decide) rfl (Z09 rfl (prS (ev_c fa _) (prS (ev_c fa _) (prS (ev_c fa _) (prS (ev_c fa _) (prS (ev_c fa _) pr0))))) Try.underlying29 (size:=1) (by kernel_rfl) (by decide) (by decide) Try.zeroValue3 (cells:=#[.int .i64 (-9),.int .i64 (-4),.int .i64 4,.int .i64 9,.int .i64 30]) (by kernel_rfl)) ?_);clear F fa;intro fa w10 F hw
   obtain ⟨n35,hn⟩:∃ n,n = w9.heap.size:=⟨_,rfl⟩
   rw [← hn] at F
   have s35:w9.heap.size ≤ n35:=Nat.le_of_eq hn.symm
   have l35_E:w.heap.size ≤ n35:=by rw [hn];exact E.size
   have l35_EX:w8.heap.size ≤ n35:=by rw [hn];exact EX.size
   have lT35:w8.heap.size ≤ n35:=by rw [hn];exact eT.size
   have b35_HL:=Nat.lt_of_lt_of_eq (Z0c HL) hn.symm
   have m35_2:n2 < n35:=by rw [hn];exact Z7 q2
   have m35_10:n10 < n35:=by rw [hn];exact Z7 q10
   have m35_3:n3 < n35:=by rw [hn];exact Z7 q3
   have o35_og:=Lib.hid (Zo og hn)
   have o35_olk:=Lib.hid (Zo olk hn)
   have o35_orr:=Lib.hid (Zo orr hn)
   replace og:=Zc hw og
   replace olk:=Zc hw olk
   replace orr:=Zc hw orr
   replace q2:=Z1 hw q2
   replace q10:=Z1 hw q10
   replace q3:=Z1 hw q3
   replace E:=Z2 E hw
   replace EX:=Z2 EX hw
   replace HL:=ZV hw HL
   replace eT:=Z2 eT hw
   have q35:=Zw hw hn
   clear hw hn
   refine ⟨fun _=>eT,?_⟩
   refine Zv (i:=11) (by kernel_rfl) (Z07 F rfl rfl (by decide) rfl (ZG rfl rfl Try.call45 (mpS (F.at rfl) (mpS (F.at rfl) mp0))) (Z3r w0 _ b _ nv n35 _ [-9,-4,4,9,30] HL (by omega) q35 (by omega) (by decide) (by decide)) fun e w11 hR=>?_)
   obtain ⟨u,rfl,hu,HL,e4⟩:=hR
   refine ⟨_,rfl,?_⟩;clear F fa;intro fa F
   replace og:=Zq og (e4) (by simp;omega)
   replace olk:=Zq olk (e4) (by simp;omega)
   replace orr:=Zq orr (e4) (by simp;omega)
   replace q2:=(e4).keep q2 (by simp;omega)
   replace q10:=(e4).keep q10 (by simp;omega)
   replace q3:=(e4).keep q3 (by simp;omega)
   replace q35:=(e4).keep q35 (by simp;omega)
   replace E:=E.trans' e4 (fun i hi hl=>by simp only [List.mem_cons,List.not_mem_nil,or_false] at hi ⊢;omega)
   replace EX:=EX.trans' e4 (fun i hi hl=>by simp only [List.mem_cons,List.not_mem_nil,or_false] at hi ⊢;omega)
   replace eT:=eT.trans' e4 (fun i hi hl=>by simp only [List.mem_cons,List.not_mem_nil,or_false] at hi ⊢;omega)
   refine ⟨fun _=>eT,?_⟩
   replace hu:-9 ≤ u ∧ u ≤ 30:=by simp at hu;omega
   refine F.x (i:=12) rfl (fun w'=>Z0F rfl (F.at rfl) (F.at rfl) (by omega) (by omega)) (fun _=>eT) ?_;clear F fa;intro fa F
   obtain ⟨xb10,xo10,xa10,xr10⟩:=HS.out i (by omega)
   refine F.x (i:=13) rfl (fun w'=>ZJ (sz:=4) rfl ((F.at rfl).trans (xa10 _ _)) (F.at rfl) Try.underlying25 (by kernel_rfl) (by omega) (by omega)) (fun _=>eT) ?_;clear F fa;intro fa F
   refine F.x (i:=14) rfl (fun w'=>Z9 rfl (F.at rfl) Try.underlying66 rfl (n:=xo10 + ((i:Nat):Int).toNat * 4 + 3) (sz:=1) rfl (by kernel_rfl) (by decide)) (fun _=>eT) ?_;clear F fa;intro fa F
   obtain ⟨⟨u0,hcu⟩,hfu,hst⟩:=Z5p orr xa10 (j:=i * 4 + 3) (p:=xo10 + ((i:Nat):Int).toNat * 4 + 3) (by first | omega | (simp;omega)) (by omega)
   refine Zv (i:=15) (by kernel_rfl) (Z0u rfl rfl rfl (ZR rfl (F.at rfl) (F.at rfl) rfl (by kernel_rfl) hcu hfu) ?_);intro w12 hw
   obtain ⟨hown',hg⟩:=hst _ _ hw
   clear hst hcu hfu hw
   replace q2:=Zb orr hg q2 (by decide)
   replace q10:=Zb orr hg q10 (by decide)
   replace q3:=Zb orr hg q3 (by decide)
   replace HL:=Z0O HL orr hg (by omega) (by decide)
   replace og:=Zx og orr hg (by decide)
   replace olk:=Zx olk orr hg (by decide)
   replace E:=Zd E orr hg (by omega)
   replace orr:=hown'
   clear hg
   refine ⟨gone (by kernel_rfl),?_⟩
   rw [Z69 _ _ _ (by omega)] at orr
   have hrd2:=hrd.put (by omega) hu.1 hu.2
   obtain ⟨rd2,hrd2e⟩:∃ rd2,rd2 = rd.set i ((rd.getD i (0,0,0,0)).1,(rd.getD i (0,0,0,0)).2.1,(rd.getD i (0,0,0,0)).2.2.1,(rd.getD i (0,0,0,0)).2.2.2 + u):=⟨_,rfl⟩
   rw [← hrd2e] at orr hrd2
   clear hrd2e
   refine Z0a (by kernel_rfl) ?_ _
   clear eT q2_ q10_ q3_ E_ EX_
   refine hK7 _ _ ?_
   clear hK7
   refine wp_region_lit ?_
   refine F.mv ?_;clear F fa;intro fa F
   refine F.vl (Z0F rfl (F.at rfl) (ev_c fa _) (by omega) (by omega)) ?_;clear F fa;intro fa F
   refine F.as ?_;clear F fa;intro fa F
   refine wpList_nil ?_
   replace HL:Z0v w0 w12 b (k + 101 + 2 * (i + 1)) nv:=Z0t HL (by omega)
   show _ ∧ _
   exact ⟨by omega,_,⟨rd2,rfl,E,q2,q10,q3,HL,og,olk,orr,hrd2⟩,F.sub (.c 6 rfl (.c 0 rfl (.c 2 rfl (.c 3 rfl .n))))⟩
  ·skip
   obtain ⟨rd2,rfl⟩:∃ rd2,rd2 = rd:=⟨_,rfl⟩
   have hrd2:=hrd.keep
   refine wp_skip ?_
   refine hK7 _ _ ?_
   clear hK7
   refine wp_region_lit ?_
   refine F.mv ?_;clear F fa;intro fa F
   refine F.vl (Z0F rfl (F.at rfl) (ev_c fa _) (by omega) (by omega)) ?_;clear F fa;intro fa F
   refine F.as ?_;clear F fa;intro fa F
   refine wpList_nil ?_
   replace HL:Z0v w0 w8 b (k + 101 + 2 * (i + 1)) nv:=Z0t HL (by omega)
   show _ ∧ _
   exact ⟨by omega,_,⟨rd2,rfl,E,q2,q10,q3,HL,og,olk,orr,hrd2⟩,F.sub (.c 6 rfl (.c 0 rfl (.c 2 rfl (.c 3 rfl .n))))⟩
 ·skip
  refine wp_exit ?_
  refine hK3 _ _ ?_
  clear hK3
  refine wp_seq_k fun K11 hK11=>?_
  refine wp_region_lit ?_
  refine F.vl (Zt rfl (F.at rfl) Try.underlying28 rfl (by kernel_rfl) q3) ?_;clear F fa;intro fa F
  refine Z1L rfl rfl (Zg rfl (F.at rfl) (F.at rfl) (by kernel_rfl) (by first | (simp [Value.oneCell'];done) | (simp [Value.oneCell',Z0K,Z0B,Z0L];done)) q2 rfl) ?_;intro w13 hw
  replace og:=Zu hw og (Z6 og q2 (by decide))
  replace olk:=Zu hw olk (Z6 olk q2 (by decide))
  replace orr:=Zu hw orr (Z6 orr q2 (by decide))
  replace q2:=Zz hw q2 rfl
  replace q10:=Z5 hw q10 (by omega)
  replace q3:=Z5 hw q3 (by omega)
  replace E:=Za E hw (fun h=>by first | exact absurd h (by omega) | simp)
  replace HL:=Z0d hw HL (by omega) (by omega)
  clear hw
  refine wpList_nil ?_
  refine hK11 _ _ ?_
  clear hK11
  refine wp_ret ?_
  (try simp only [Exit.inBlock,Exit.then])
  refine rt_v F (rs_c F rfl rfl Try.underlying28 rfl (by kernel_rfl) q2) ?_
  have hlr:=hrd.len
  refine ⟨{ t with rd:=rd },_,_,_,rfl,hrd.wild hM hS hA (by omega),⟨og,?_,olk⟩,Z0t HL (by omega),E⟩
  simp only
  rw [← hlr];exact orr
end Go.Proofs.Ytholfdgebdlgjaa
