/- Parts of a proof: Dvv, Dxo, Ddy, Ddw, Dkt. No conditions. -/
import Derived.Test.YtdjeecgddbjbeaaKs6
import Derived.Test.YtdjeecgddbjbeaaKs9
set_option linter.unusedVariables false
set_option linter.unusedSimpArgs false
namespace Go.Proofs.Ytdjeecgddbjbeaa
open Go.RowKit
theorem slAt_lit {w : World} {b : Nat} {T : TypeId} {fz : Nat × Nat} (L : List (Value × List Int)) (h : w.heap[b]? = some (.cells (L.map (·.1)).toArray T fz)) : SlAt [] w (some ⟨b,0,none⟩) 1 L.length (fun i=>[(L.getD i (.bool true,[])).1]):=fun i hi =>
 ⟨b,0,fun _ _=>rfl,fun W e j v hv=>by
  obtain rfl : j = 0:=by
   rcases j with _ | j
   ·rfl
   ·simp at hv
  rw [cells_of_block (e.keep0 h)]
  simp only [List.getElem?_cons_zero,Option.some.injEq] at hv
  subst hv
  simp [hi]⟩
theorem lol_lit {w : World} {b : Nat} {T : TypeId} {fz : Nat × Nat} (L : List (Value × List Int)) (h : w.heap[b]? = some (.cells (L.map (·.1)).toArray T fz)) (hr : ∀ p ∈ L,RowOf w p.1 p.2) : LolAt w (some ⟨b,0,none⟩) L:=⟨slAt_lit L h,hr⟩
theorem row_lit {w : World} {b : Nat} {T : TypeId} {fz : Nat × Nat} (xs : List Int) (h : w.heap[b]? = some (.cells (xs.map (Value.int .i64)).toArray T fz)) : RowOf w (.slice (some ⟨b,0,none⟩) xs.length xs.length) xs:=⟨_,_,rfl,rows_lit xs _ h⟩
def vatD : List (List Int):=[[9,0,0],[0,9,0],[0,0,9],[3,3,3]]
def vatL : List (List Int):=[[1,1,1],[3,1,0]]
structure IsVat (x : Vm) : Prop where
 b : x.B = 3
 t : x.tol = 1
 d : x.D.map (·.2) = vatD
 l : x.L.map (·.2) = vatL
set_option maxRecDepth 100000 in
theorem vat_any (w : World) : Calls Try.prog 44 #[] w fun e w'=>∃ x : Vm,e = .returned (.agg #[.int .i64 x.B,.slice x.da x.D.length x.dc,.slice x.la x.L.length x.lc,.int .i64 x.tol]) ∧ IsVat x ∧ x.At w' ∧ Ext [] w w':=by
 have E : Ext [] w w:=Ext.refl _ _
 refine calls_has 10 Try.func44 rfl Try.ntmps44 (Nat.le_of_ble_eq_true rfl) ?_
 intro fa F
 refine wp_seq_k fun K1 hK1=>?_
 refine wp_region_lit ?_
 refine sq_new F rfl (by decide) rfl (R_alloc rfl Try.zeroValue24) ?_;clear F fa;intro fa w1 F hw
 obtain ⟨n0,hn⟩ : ∃ n,n = w.heap.size:=⟨_,rfl⟩
 rw [← hn] at F
 have s0 : w.heap.size ≤ n0:=Nat.le_of_eq hn.symm
 have l0_E : w.heap.size ≤ n0:=by rw [hn];exact E.size
 replace E:=ext_alloc E hw
 have q0:=new_row hw hn
 clear hw hn
 refine wpList_nil ?_
 refine hK1 _ _ ?_
 clear hK1
 refine wp_seq_k fun K2 hK2=>?_
 refine wp_region_lit ?_
 refine sq_new F rfl (by decide) rfl (R_buildSliceV rfl (prS (ev_c fa _) (prS (ev_c fa _) (prS (ev_c fa _) pr0))) Try.underlying25 (size:=1) (by kernel_rfl) (by decide) (by decide) Try.zeroValue3 (cells:=#[.int .i64 9,.int .i64 0,.int .i64 0]) (by kernel_rfl)) ?_;clear F fa;intro fa w2 F hw
 obtain ⟨n1,hn⟩ : ∃ n,n = w1.heap.size:=⟨_,rfl⟩
 rw [← hn] at F
 have s1 : w1.heap.size ≤ n1:=Nat.le_of_eq hn.symm
 have l1_E : w.heap.size ≤ n1:=by rw [hn];exact E.size
 have m1_0 : n0 < n1:=by rw [hn];exact blk_lt q0
 replace q0:=keep_alloc hw q0
 replace E:=ext_alloc E hw
 have q1:=new_block hw hn
 clear hw hn
 refine sq_new F rfl (by decide) rfl (R_buildSliceV rfl (prS (ev_c fa _) (prS (ev_c fa _) (prS (ev_c fa _) pr0))) Try.underlying25 (size:=1) (by kernel_rfl) (by decide) (by decide) Try.zeroValue3 (cells:=#[.int .i64 0,.int .i64 9,.int .i64 0]) (by kernel_rfl)) ?_;clear F fa;intro fa w3 F hw
 obtain ⟨n2,hn⟩ : ∃ n,n = w2.heap.size:=⟨_,rfl⟩
 rw [← hn] at F
 have s2 : w2.heap.size ≤ n2:=Nat.le_of_eq hn.symm
 have l2_E : w.heap.size ≤ n2:=by rw [hn];exact E.size
 have m2_0 : n0 < n2:=by rw [hn];exact blk_lt q0
 have m2_1 : n1 < n2:=by rw [hn];exact blk_lt q1
 replace q0:=keep_alloc hw q0
 replace q1:=keep_alloc hw q1
 replace E:=ext_alloc E hw
 have q2:=new_block hw hn
 clear hw hn
 refine sq_new F rfl (by decide) rfl (R_buildSliceV rfl (prS (ev_c fa _) (prS (ev_c fa _) (prS (ev_c fa _) pr0))) Try.underlying25 (size:=1) (by kernel_rfl) (by decide) (by decide) Try.zeroValue3 (cells:=#[.int .i64 0,.int .i64 0,.int .i64 9]) (by kernel_rfl)) ?_;clear F fa;intro fa w4 F hw
 obtain ⟨n3,hn⟩ : ∃ n,n = w3.heap.size:=⟨_,rfl⟩
 rw [← hn] at F
 have s3 : w3.heap.size ≤ n3:=Nat.le_of_eq hn.symm
 have l3_E : w.heap.size ≤ n3:=by rw [hn];exact E.size
 have m3_0 : n0 < n3:=by rw [hn];exact blk_lt q0
 have m3_1 : n1 < n3:=by rw [hn];exact blk_lt q1
 have m3_2 : n2 < n3:=by rw [hn];exact blk_lt q2
 replace q0:=keep_alloc hw q0
 replace q1:=keep_alloc hw q1
 replace q2:=keep_alloc hw q2
 replace E:=ext_alloc E hw
 have q3:=new_block hw hn
 clear hw hn
 refine sq_new F rfl (by decide) rfl (R_buildSliceV rfl (prS (ev_c fa _) (prS (ev_c fa _) (prS (ev_c fa _) pr0))) Try.underlying25 (size:=1) (by kernel_rfl) (by decide) (by decide) Try.zeroValue3 (cells:=#[.int .i64 3,.int .i64 3,.int .i64 3]) (by kernel_rfl)) ?_;clear F fa;intro fa w5 F hw
 obtain ⟨n4,hn⟩ : ∃ n,n = w4.heap.size:=⟨_,rfl⟩
 rw [← hn] at F
 have s4 : w4.heap.size ≤ n4:=Nat.le_of_eq hn.symm
 have l4_E : w.heap.size ≤ n4:=by rw [hn];exact E.size
 have m4_0 : n0 < n4:=by rw [hn];exact blk_lt q0
 have m4_1 : n1 < n4:=by rw [hn];exact blk_lt q1
 have m4_2 : n2 < n4:=by rw [hn];exact blk_lt q2
 have m4_3 : n3 < n4:=by rw [hn];exact blk_lt q3
 replace q0:=keep_alloc hw q0
 replace q1:=keep_alloc hw q1
 replace q2:=keep_alloc hw q2
 replace q3:=keep_alloc hw q3
 replace E:=ext_alloc E hw
 have q4:=new_block hw hn
 clear hw hn
 refine sq_new F rfl (by decide) rfl (R_buildSliceV rfl (prS (F.at rfl) (prS (F.at rfl) (prS (F.at rfl) (prS (F.at rfl) pr0)))) Try.underlying22 (size:=1) (by kernel_rfl) (by decide) (by decide) Try.zeroValue25 (cells:=#[.slice (some ⟨n1,0,none⟩) 3 3,.slice (some ⟨n2,0,none⟩) 3 3,.slice (some ⟨n3,0,none⟩) 3 3,.slice (some ⟨n4,0,none⟩) 3 3]) (by kernel_rfl)) ?_;clear F fa;intro fa w6 F hw
 obtain ⟨n5,hn⟩ : ∃ n,n = w5.heap.size:=⟨_,rfl⟩
 rw [← hn] at F
 have s5 : w5.heap.size ≤ n5:=Nat.le_of_eq hn.symm
 have l5_E : w.heap.size ≤ n5:=by rw [hn];exact E.size
 have m5_0 : n0 < n5:=by rw [hn];exact blk_lt q0
 have m5_1 : n1 < n5:=by rw [hn];exact blk_lt q1
 have m5_2 : n2 < n5:=by rw [hn];exact blk_lt q2
 have m5_3 : n3 < n5:=by rw [hn];exact blk_lt q3
 have m5_4 : n4 < n5:=by rw [hn];exact blk_lt q4
 replace q0:=keep_alloc hw q0
 replace q1:=keep_alloc hw q1
 replace q2:=keep_alloc hw q2
 replace q3:=keep_alloc hw q3
 replace q4:=keep_alloc hw q4
 replace E:=ext_alloc E hw
 have q5:=new_block hw hn
 clear hw hn
 refine sq_new F rfl (by decide) rfl (R_buildSliceV rfl (prS (ev_c fa _) (prS (ev_c fa _) (prS (ev_c fa _) pr0))) Try.underlying25 (size:=1) (by kernel_rfl) (by decide) (by decide) Try.zeroValue3 (cells:=#[.int .i64 1,.int .i64 1,.int .i64 1]) (by kernel_rfl)) ?_;clear F fa;intro fa w7 F hw
 obtain ⟨n6,hn⟩ : ∃ n,n = w6.heap.size:=⟨_,rfl⟩
 rw [← hn] at F
 have s6 : w6.heap.size ≤ n6:=Nat.le_of_eq hn.symm
 have l6_E : w.heap.size ≤ n6:=by rw [hn];exact E.size
 have m6_0 : n0 < n6:=by rw [hn];exact blk_lt q0
 have m6_1 : n1 < n6:=by rw [hn];exact blk_lt q1
 have m6_2 : n2 < n6:=by rw [hn];exact blk_lt q2
 have m6_3 : n3 < n6:=by rw [hn];exact blk_lt q3
 have m6_4 : n4 < n6:=by rw [hn];exact blk_lt q4
 have m6_5 : n5 < n6:=by rw [hn];exact blk_lt q5
 replace q0:=keep_alloc hw q0
 replace q1:=keep_alloc hw q1
 replace q2:=keep_alloc hw q2
 replace q3:=keep_alloc hw q3
 replace q4:=keep_alloc hw q4
 replace q5:=keep_alloc hw q5
 replace E:=ext_alloc E hw
 have q6:=new_block hw hn
 clear hw hn
 refine sq_new F rfl (by decide) rfl (R_buildSliceV rfl (prS (ev_c fa _) (prS (ev_c fa _) (prS (ev_c fa _) pr0))) Try.underlying25 (size:=1) (by kernel_rfl) (by decide) (by decide) Try.zeroValue3 (cells:=#[.int .i64 3,.int .i64 1,.int .i64 0]) (by kernel_rfl)) ?_;clear F fa;intro fa w8 F hw
 obtain ⟨n7,hn⟩ : ∃ n,n = w7.heap.size:=⟨_,rfl⟩
 rw [← hn] at F
 have s7 : w7.heap.size ≤ n7:=Nat.le_of_eq hn.symm
 have l7_E : w.heap.size ≤ n7:=by rw [hn];exact E.size
 have m7_0 : n0 < n7:=by rw [hn];exact blk_lt q0
 have m7_1 : n1 < n7:=by rw [hn];exact blk_lt q1
 have m7_2 : n2 < n7:=by rw [hn];exact blk_lt q2
 have m7_3 : n3 < n7:=by rw [hn];exact blk_lt q3
 have m7_4 : n4 < n7:=by rw [hn];exact blk_lt q4
 have m7_5 : n5 < n7:=by rw [hn];exact blk_lt q5
 have m7_6 : n6 < n7:=by rw [hn];exact blk_lt q6
 replace q0:=keep_alloc hw q0
 replace q1:=keep_alloc hw q1
 replace q2:=keep_alloc hw q2
 replace q3:=keep_alloc hw q3
 replace q4:=keep_alloc hw q4
 replace q5:=keep_alloc hw q5
 replace q6:=keep_alloc hw q6
 replace E:=ext_alloc E hw
 have q7:=new_block hw hn
 clear hw hn
 refine sq_new F rfl (by decide) rfl (R_buildSliceV rfl (prS (F.at rfl) (prS (F.at rfl) pr0)) Try.underlying22 (size:=1) (by kernel_rfl) (by decide) (by decide) Try.zeroValue25 (cells:=#[.slice (some ⟨n6,0,none⟩) 3 3,.slice (some ⟨n7,0,none⟩) 3 3]) (by kernel_rfl)) ?_;clear F fa;intro fa w9 F hw
 obtain ⟨n8,hn⟩ : ∃ n,n = w8.heap.size:=⟨_,rfl⟩
 rw [← hn] at F
 have s8 : w8.heap.size ≤ n8:=Nat.le_of_eq hn.symm
 have l8_E : w.heap.size ≤ n8:=by rw [hn];exact E.size
 have m8_0 : n0 < n8:=by rw [hn];exact blk_lt q0
 have m8_1 : n1 < n8:=by rw [hn];exact blk_lt q1
 have m8_2 : n2 < n8:=by rw [hn];exact blk_lt q2
 have m8_3 : n3 < n8:=by rw [hn];exact blk_lt q3
 have m8_4 : n4 < n8:=by rw [hn];exact blk_lt q4
 have m8_5 : n5 < n8:=by rw [hn];exact blk_lt q5
 have m8_6 : n6 < n8:=by rw [hn];exact blk_lt q6
 have m8_7 : n7 < n8:=by rw [hn];exact blk_lt q7
 replace q0:=keep_alloc hw q0
 replace q1:=keep_alloc hw q1
 replace q2:=keep_alloc hw q2
 replace q3:=keep_alloc hw q3
 replace q4:=keep_alloc hw q4
 replace q5:=keep_alloc hw q5
 replace q6:=keep_alloc hw q6
 replace q7:=keep_alloc hw q7
 replace E:=ext_alloc E hw
 have q8:=new_block hw hn
 clear hw hn
 refine F.vl (R_buildV rfl (prS (ev_c fa _) (prS (F.at rfl) (prS (F.at rfl) (prS (ev_c fa _) pr0)))) (cells:=#[.int .i64 3,.slice (some ⟨n5,0,none⟩) 4 4,.slice (some ⟨n8,0,none⟩) 2 2,.int .i64 1]) (by kernel_rfl)) ?_;clear F fa;intro fa F
 refine sq_to rfl rfl (R_storeRow rfl (F.at rfl) (F.at rfl) (by kernel_rfl) (by first | (simp [Value.oneCell'];done) | (simp [Value.oneCell',id];done)) q0 rfl) ?_;intro w10 hw
 replace q0:=put_row hw q0 rfl
 replace q1:=keep_cells hw q1 (by omega)
 replace q2:=keep_cells hw q2 (by omega)
 replace q3:=keep_cells hw q3 (by omega)
 replace q4:=keep_cells hw q4 (by omega)
 replace q5:=keep_cells hw q5 (by omega)
 replace q6:=keep_cells hw q6 (by omega)
 replace q7:=keep_cells hw q7 (by omega)
 replace q8:=keep_cells hw q8 (by omega)
 replace E:=ext_cells E hw (fun h=>by first | exact absurd h (by omega) | simp)
 clear hw
 refine wpList_nil ?_
 refine hK2 _ _ ?_
 clear hK2
 refine wp_ret ?_
 (try simp only [Exit.inBlock,Exit.then,reduceIte])
 refine rt_v F (rs_c F rfl rfl Try.underlying24 rfl (by kernel_rfl) q0) ?_
 refine ⟨{ B:=3,tol:=1,da:=some ⟨n5,0,none⟩,dc:=4,la:=some ⟨n8,0,none⟩,lc:=2,D:=[(.slice (some ⟨n1,0,none⟩) 3 3,[9,0,0]),(.slice (some ⟨n2,0,none⟩) 3 3,[0,9,0]),(.slice (some ⟨n3,0,none⟩) 3 3,[0,0,9]),(.slice (some ⟨n4,0,none⟩) 3 3,[3,3,3])],L:=[(.slice (some ⟨n6,0,none⟩) 3 3,[1,1,1]),(.slice (some ⟨n7,0,none⟩) 3 3,[3,1,0])] },rfl,⟨rfl,rfl,rfl,rfl⟩,⟨lol_lit _ q5 ?_,lol_lit _ q8 ?_⟩,E⟩
 ·intro p hp;simp only [List.mem_cons,List.not_mem_nil,or_false] at hp;rcases hp with rfl | rfl | rfl | rfl;(· exact row_lit [9,0,0] q1);(· exact row_lit [0,9,0] q2);(· exact row_lit [0,0,9] q3);(· exact row_lit [3,3,3] q4)
 ·intro p hp;simp only [List.mem_cons,List.not_mem_nil,or_false] at hp;rcases hp with rfl | rfl;(· exact row_lit [1,1,1] q6);(· exact row_lit [3,1,0] q7)
theorem smp_any (w : World) : Calls Try.prog 45 #[] w fun e w'=>∃ a,e = .returned (.slice a 3 3) ∧ IsRows w' (.slice a [(4 : Int),3,2].length 3) 1 ([(4 : Int),3,2].map intRow) ∧ Ext [] w w':=by
 have E : Ext [] w w:=Ext.refl _ _
 refine calls_has 2 Try.func45 rfl Try.ntmps45 (Nat.le_of_ble_eq_true rfl) ?_
 intro fa F
 refine wp_seq_k fun K1 hK1=>?_
 refine wp_region_lit ?_
 refine F.vl (R_assign rfl (ev_c fa _)) ?_;clear F fa;intro fa F
 refine wpList_nil ?_
 refine hK1 _ _ ?_
 clear hK1
 refine wp_seq_k fun K2 hK2=>?_
 refine wp_region_lit ?_
 refine sq_new F rfl (by decide) rfl (R_buildSliceV rfl (prS (ev_c fa _) (prS (ev_c fa _) (prS (ev_c fa _) pr0))) Try.underlying25 (size:=1) (by kernel_rfl) (by decide) (by decide) Try.zeroValue3 (cells:=#[.int .i64 4,.int .i64 3,.int .i64 2]) (by kernel_rfl)) ?_;clear F fa;intro fa w1 F hw
 obtain ⟨n1,hn⟩ : ∃ n,n = w.heap.size:=⟨_,rfl⟩
 rw [← hn] at F
 have s1 : w.heap.size ≤ n1:=Nat.le_of_eq hn.symm
 have l1_E : w.heap.size ≤ n1:=by rw [hn];exact E.size
 replace E:=ext_alloc E hw
 have q1:=new_block hw hn
 clear hw hn
 refine F.as ?_;clear F fa;intro fa F
 refine wpList_nil ?_
 refine hK2 _ _ ?_
 clear hK2
 refine wp_ret ?_
 (try simp only [Exit.inBlock,Exit.then,reduceIte])
 refine rt_v F (rs_1 F rfl rfl) ?_
 exact ⟨_,rfl,rows_lit [4,3,2] 3 q1,E⟩
def clothL : List (List Int):=[[1,0,0,0],[0,1,0,0],[1,1,1,0],[0,0,0,1]]
set_option maxRecDepth 100000 in
theorem cloths_any (w : World) : Calls Try.prog 48 #[] w fun e w'=>∃ (a : Option Addr) (S : List (Value × List Int)),e = .returned (.slice a S.length 4) ∧ S.map (·.2) = clothL ∧ LolAt w' a S ∧ Ext [] w w':=by
 have E : Ext [] w w:=Ext.refl _ _
 refine calls_has 6 Try.func48 rfl Try.ntmps48 (Nat.le_of_ble_eq_true rfl) ?_
 intro fa F
 refine wp_seq_k fun K1 hK1=>?_
 refine wp_region_lit ?_
 refine F.vl (R_assign rfl (ev_c fa _)) ?_;clear F fa;intro fa F
 refine wpList_nil ?_
 refine hK1 _ _ ?_
 clear hK1
 refine wp_seq_k fun K2 hK2=>?_
 refine wp_region_lit ?_
 refine sq_new F rfl (by decide) rfl (R_buildSliceV rfl (prS (ev_c fa _) (prS (ev_c fa _) (prS (ev_c fa _) (prS (ev_c fa _) pr0)))) Try.underlying25 (size:=1) (by kernel_rfl) (by decide) (by decide) Try.zeroValue3 (cells:=#[.int .i64 1,.int .i64 0,.int .i64 0,.int .i64 0]) (by kernel_rfl)) ?_;clear F fa;intro fa w1 F hw
 obtain ⟨n1,hn⟩ : ∃ n,n = w.heap.size:=⟨_,rfl⟩
 rw [← hn] at F
 have s1 : w.heap.size ≤ n1:=Nat.le_of_eq hn.symm
 have l1_E : w.heap.size ≤ n1:=by rw [hn];exact E.size
 replace E:=ext_alloc E hw
 have q1:=new_block hw hn
 clear hw hn
 refine sq_new F rfl (by decide) rfl (R_buildSliceV rfl (prS (ev_c fa _) (prS (ev_c fa _) (prS (ev_c fa _) (prS (ev_c fa _) pr0)))) Try.underlying25 (size:=1) (by kernel_rfl) (by decide) (by decide) Try.zeroValue3 (cells:=#[.int .i64 0,.int .i64 1,.int .i64 0,.int .i64 0]) (by kernel_rfl)) ?_;clear F fa;intro fa w2 F hw
 obtain ⟨n2,hn⟩ : ∃ n,n = w1.heap.size:=⟨_,rfl⟩
 rw [← hn] at F
 have s2 : w1.heap.size ≤ n2:=Nat.le_of_eq hn.symm
 have l2_E : w.heap.size ≤ n2:=by rw [hn];exact E.size
 have m2_1 : n1 < n2:=by rw [hn];exact blk_lt q1
 replace q1:=keep_alloc hw q1
 replace E:=ext_alloc E hw
 have q2:=new_block hw hn
 clear hw hn
 refine sq_new F rfl (by decide) rfl (R_buildSliceV rfl (prS (ev_c fa _) (prS (ev_c fa _) (prS (ev_c fa _) (prS (ev_c fa _) pr0)))) Try.underlying25 (size:=1) (by kernel_rfl) (by decide) (by decide) Try.zeroValue3 (cells:=#[.int .i64 1,.int .i64 1,.int .i64 1,.int .i64 0]) (by kernel_rfl)) ?_;clear F fa;intro fa w3 F hw
 obtain ⟨n3,hn⟩ : ∃ n,n = w2.heap.size:=⟨_,rfl⟩
 rw [← hn] at F
 have s3 : w2.heap.size ≤ n3:=Nat.le_of_eq hn.symm
 have l3_E : w.heap.size ≤ n3:=by rw [hn];exact E.size
 have m3_1 : n1 < n3:=by rw [hn];exact blk_lt q1
 have m3_2 : n2 < n3:=by rw [hn];exact blk_lt q2
 replace q1:=keep_alloc hw q1
 replace q2:=keep_alloc hw q2
 replace E:=ext_alloc E hw
 have q3:=new_block hw hn
 clear hw hn
 refine sq_new F rfl (by decide) rfl (R_buildSliceV rfl (prS (ev_c fa _) (prS (ev_c fa _) (prS (ev_c fa _) (prS (ev_c fa _) pr0)))) Try.underlying25 (size:=1) (by kernel_rfl) (by decide) (by decide) Try.zeroValue3 (cells:=#[.int .i64 0,.int .i64 0,.int .i64 0,.int .i64 1]) (by kernel_rfl)) ?_;clear F fa;intro fa w4 F hw
 obtain ⟨n4,hn⟩ : ∃ n,n = w3.heap.size:=⟨_,rfl⟩
 rw [← hn] at F
 have s4 : w3.heap.size ≤ n4:=Nat.le_of_eq hn.symm
 have l4_E : w.heap.size ≤ n4:=by rw [hn];exact E.size
 have m4_1 : n1 < n4:=by rw [hn];exact blk_lt q1
 have m4_2 : n2 < n4:=by rw [hn];exact blk_lt q2
 have m4_3 : n3 < n4:=by rw [hn];exact blk_lt q3
 replace q1:=keep_alloc hw q1
 replace q2:=keep_alloc hw q2
 replace q3:=keep_alloc hw q3
 replace E:=ext_alloc E hw
 have q4:=new_block hw hn
 clear hw hn
 refine sq_new F rfl (by decide) rfl (R_buildSliceV rfl (prS (F.at rfl) (prS (F.at rfl) (prS (F.at rfl) (prS (F.at rfl) pr0)))) Try.underlying22 (size:=1) (by kernel_rfl) (by decide) (by decide) Try.zeroValue25 (cells:=#[.slice (some ⟨n1,0,none⟩) 4 4,.slice (some ⟨n2,0,none⟩) 4 4,.slice (some ⟨n3,0,none⟩) 4 4,.slice (some ⟨n4,0,none⟩) 4 4]) (by kernel_rfl)) ?_;clear F fa;intro fa w5 F hw
 obtain ⟨n5,hn⟩ : ∃ n,n = w4.heap.size:=⟨_,rfl⟩
 rw [← hn] at F
 have s5 : w4.heap.size ≤ n5:=Nat.le_of_eq hn.symm
 have l5_E : w.heap.size ≤ n5:=by rw [hn];exact E.size
 have m5_1 : n1 < n5:=by rw [hn];exact blk_lt q1
 have m5_2 : n2 < n5:=by rw [hn];exact blk_lt q2
 have m5_3 : n3 < n5:=by rw [hn];exact blk_lt q3
 have m5_4 : n4 < n5:=by rw [hn];exact blk_lt q4
 replace q1:=keep_alloc hw q1
 replace q2:=keep_alloc hw q2
 replace q3:=keep_alloc hw q3
 replace q4:=keep_alloc hw q4
 replace E:=ext_alloc E hw
 have q5:=new_block hw hn
 clear hw hn
 refine F.as ?_;clear F fa;intro fa F
 refine wpList_nil ?_
 refine hK2 _ _ ?_
 clear hK2
 refine wp_ret ?_
 (try simp only [Exit.inBlock,Exit.then,reduceIte])
 refine rt_v F (rs_1 F rfl rfl) ?_
 refine ⟨some ⟨n5,0,none⟩,[(.slice (some ⟨n1,0,none⟩) 4 4,[1,0,0,0]),(.slice (some ⟨n2,0,none⟩) 4 4,[0,1,0,0]),(.slice (some ⟨n3,0,none⟩) 4 4,[1,1,1,0]),(.slice (some ⟨n4,0,none⟩) 4 4,[0,0,0,1])],rfl,rfl,lol_lit _ q5 ?_,E⟩
 intro p hp;simp only [List.mem_cons,List.not_mem_nil,or_false] at hp;rcases hp with rfl | rfl | rfl | rfl;(· exact row_lit [1,0,0,0] q1);(· exact row_lit [0,1,0,0] q2);(· exact row_lit [1,1,1,0] q3);(· exact row_lit [0,0,0,1] q4)
set_option maxRecDepth 100000 in
set_option maxHeartbeats 1000000 in
theorem xOff_ok (x : Vm) (hv : VOk x) (k : Nat) (hk : k < x.L.length) (l : List Int) (hl : RcpOk x l) (s : List Int) (hs : SmpOk x s) (a b : Option Addr) (c d : Nat) (w : World) (h : x.At w) (hr : IsRows w (.slice a l.length c) 1 (l.map intRow)) (hq : IsRows w (.slice b s.length d) 1 (s.map intRow)) :
  Calls Try.prog 46 #[.agg #[.int .i64 x.B,.slice x.da x.D.length x.dc,.slice x.la x.L.length x.lc,.int .i64 x.tol],.int .i64 ((k : Nat) : Int),.slice a l.length c,.slice b s.length d] w fun e w'=>e = .returned (.tuple #[.int .i64 (offE x k (val l) (val s)),.int .i64 0]) ∧ Ext [] w w':=by
 have E : Ext [] w w:=Ext.refl _ _
 have HX:=Lib.hid h
 have HV:=Lib.hid hv
 have HR:=Lib.hid hr
 have HQ:=Lib.hid hq
 have HL:=Lib.hid hl
 have HS:=Lib.hid hs
 clear h hv hr hq hl hs
 refine calls_hasM 28 Try.func46 rfl Try.ntmps46 (Nat.le_of_ble_eq_true rfl) ?_
 intro fa F
 refine wp_seq_k fun K1 hK1=>?_
 refine wp_region_lit ?_
 refine sq_new F rfl (by decide) rfl (R_box rfl (F.at rfl)) ?_;clear F fa;intro fa w1 F hw
 obtain ⟨n4,hn⟩ : ∃ n,n = w.heap.size:=⟨_,rfl⟩
 rw [← hn] at F
 have s4 : w.heap.size ≤ n4:=Nat.le_of_eq hn.symm
 have l4_E : w.heap.size ≤ n4:=by rw [hn];exact E.size
 replace E:=ext_alloc E hw
 have q4:=new_row hw hn
 clear hw hn
 refine F.vl (R_assign rfl (ev_c fa _)) ?_;clear F fa;intro fa F
 refine sq_new F rfl (by decide) rfl (R_alloc rfl Try.zeroValue35) ?_;clear F fa;intro fa w2 F hw
 obtain ⟨n9,hn⟩ : ∃ n,n = w1.heap.size:=⟨_,rfl⟩
 rw [← hn] at F
 have s9 : w1.heap.size ≤ n9:=Nat.le_of_eq hn.symm
 have l9_E : w.heap.size ≤ n9:=by rw [hn];exact E.size
 have m9_4 : n4 < n9:=by rw [hn];exact blk_lt q4
 replace q4:=keep_alloc hw q4
 replace E:=ext_alloc E hw
 have q9:=new_one hw rfl hn
 clear hw hn
 refine wpList_nil ?_
 refine hK1 _ _ ?_
 clear hK1
 refine wp_seq_k fun K2 hK2=>?_
 refine wp_region_lit ?_
 refine sq_defer F rfl rfl (R_defer rfl rfl (mpS (F.at rfl) mp0)) ?_;clear F fa;intro fa F
 refine wpList_nil ?_
 refine hK2 _ _ ?_
 clear hK2
 refine wp_seq_k fun K3 hK3=>?_
 refine wp_region_lit ?_
 refine F.vl (R_loadBlk rfl (F.at rfl) Try.underlying24 rfl (by kernel_rfl) q4) ?_;clear F fa;intro fa F
 refine sq_call F rfl (by decide) rfl (R_callV rfl rfl Try.call54 (mpS (F.at rfl) mp0)) (begin_ok x HV.out _ (HX.out.ext E)) fun e w3 hR=>?_
 obtain ⟨rfl,e9⟩:=hR
 refine ⟨_,rfl,?_⟩;clear F fa;intro fa F
 replace q4:=(e9).keep0 q4
 replace q9:=(e9).keep0 q9
 replace E:=ext_same E (e9)
 clear e9
 refine sq_new F rfl (by decide) rfl (R_alloc rfl Try.zeroValue80) ?_;clear F fa;intro fa w4 F hw
 obtain ⟨n10,hn⟩ : ∃ n,n = w3.heap.size:=⟨_,rfl⟩
 rw [← hn] at F
 have s10 : w3.heap.size ≤ n10:=Nat.le_of_eq hn.symm
 have l10_E : w.heap.size ≤ n10:=by rw [hn];exact E.size
 have m10_4 : n4 < n10:=by rw [hn];exact blk_lt q4
 have m10_9 : n9 < n10:=by rw [hn];exact blk_lt q9
 replace q4:=keep_alloc hw q4
 replace q9:=keep_alloc hw q9
 replace E:=ext_alloc E hw
 have q10:=new_row hw hn
 clear hw hn
 refine sq_to rfl rfl (R_storeRow rfl (F.at rfl) (F.at rfl) (by kernel_rfl) (by first | (simp [Value.oneCell'];done) | (simp [Value.oneCell',id];done)) q10 rfl) ?_;intro w5 hw
 replace q4:=keep_cells hw q4 (by omega)
 replace q9:=keep_cells hw q9 (by omega)
 replace q10:=put_row hw q10 rfl
 replace E:=ext_cells E hw (fun h=>by first | exact absurd h (by omega) | simp)
 clear hw
 refine wpList_nil ?_
 refine hK3 _ _ ?_
 clear hK3
 refine wp_seq_k fun K4 hK4=>?_
 refine wp_region_lit ?_
 refine F.vl (R_loadBlk rfl (F.at rfl) Try.underlying80 rfl (by kernel_rfl) q10) ?_;clear F fa;intro fa F
 refine F.mv ?_;clear F fa;intro fa F
 refine sq_call F rfl (by decide) rfl (R_callV rfl rfl Try.call82 (mpS (F.at rfl) (mpS (F.at rfl) mp0))) (lamp_ok x HV.out ((k : Nat) : Int) (by omega) (by omega) _) fun e w6 hR=>?_
 obtain ⟨rfl,e9⟩:=hR
 refine ⟨_,rfl,?_⟩;clear F fa;intro fa F
 replace q4:=(e9).keep0 q4
 replace q9:=(e9).keep0 q9
 replace q10:=(e9).keep0 q10
 replace E:=ext_same E (e9)
 clear e9
 refine wpList_nil ?_
 refine hK4 _ _ ?_
 clear hK4
 refine wp_seq_k fun K5 hK5=>?_
 refine wp_region_lit ?_
 refine F.vl (R_loadBlk rfl (F.at rfl) Try.underlying80 rfl (by kernel_rfl) q10) ?_;clear F fa;intro fa F
 refine F.mv ?_;clear F fa;intro fa F
 refine sq_call F rfl (by decide) rfl (R_callV rfl rfl Try.call55 (mpS (F.at rfl) (mpS (F.at rfl) mp0))) (recipe_ok x HV.out l HL.out a c _ (HR.out.ext E (by simp))) fun e w7 hR=>?_
 obtain ⟨rfl,e9⟩:=hR
 refine ⟨_,rfl,?_⟩;clear F fa;intro fa F
 replace q4:=(e9).keep0 q4
 replace q9:=(e9).keep0 q9
 replace q10:=(e9).keep0 q10
 replace E:=ext_same E (e9)
 clear e9
 refine sq_new F rfl (by decide) rfl (R_alloc rfl Try.zeroValue83) ?_;clear F fa;intro fa w8 F hw
 obtain ⟨n11,hn⟩ : ∃ n,n = w7.heap.size:=⟨_,rfl⟩
 rw [← hn] at F
 have s11 : w7.heap.size ≤ n11:=Nat.le_of_eq hn.symm
 have l11_E : w.heap.size ≤ n11:=by rw [hn];exact E.size
 have m11_4 : n4 < n11:=by rw [hn];exact blk_lt q4
 have m11_9 : n9 < n11:=by rw [hn];exact blk_lt q9
 have m11_10 : n10 < n11:=by rw [hn];exact blk_lt q10
 replace q4:=keep_alloc hw q4
 replace q9:=keep_alloc hw q9
 replace q10:=keep_alloc hw q10
 replace E:=ext_alloc E hw
 have q11:=new_row hw hn
 clear hw hn
 refine sq_to rfl rfl (R_storeRow rfl (F.at rfl) (F.at rfl) (by kernel_rfl) (by simp [tubC,Value.oneCell']) q11 rfl) ?_;intro w9 hw
 replace q4:=keep_cells hw q4 (by omega)
 replace q9:=keep_cells hw q9 (by omega)
 replace q10:=keep_cells hw q10 (by omega)
 replace q11:=put_row hw q11 rfl
 replace E:=ext_cells E hw (fun h=>by first | exact absurd h (by omega) | simp)
 clear hw
 refine wpList_nil ?_
 refine hK5 _ _ ?_
 clear hK5
 refine wp_seq_k fun K6 hK6=>?_
 refine wp_region_lit ?_
 refine F.vl (R_loadBlk rfl (F.at rfl) Try.underlying80 rfl (by kernel_rfl) q10) ?_;clear F fa;intro fa F
 refine F.mv ?_;clear F fa;intro fa F
 refine sq_call F rfl (by decide) rfl (R_callV rfl rfl Try.call56 (mpS (F.at rfl) (mpS (F.at rfl) mp0))) (sample_ok x HV.out s HS.out b d _ (HQ.out.ext E (by simp))) fun e w10 hR=>?_
 obtain ⟨rfl,e9⟩:=hR
 refine ⟨_,rfl,?_⟩;clear F fa;intro fa F
 replace q4:=(e9).keep0 q4
 replace q9:=(e9).keep0 q9
 replace q10:=(e9).keep0 q10
 replace q11:=(e9).keep0 q11
 replace E:=ext_same E (e9)
 clear e9
 refine wpList_nil ?_
 refine hK6 _ _ ?_
 clear hK6
 refine wp_seq_k fun K7 hK7=>?_
 refine wp_region_lit ?_
 refine F.vl (R_loadBlk rfl (F.at rfl) Try.underlying80 rfl (by kernel_rfl) q10) ?_;clear F fa;intro fa F
 refine F.mv ?_;clear F fa;intro fa F
 refine F.vl (R_loadBlk rfl (F.at rfl) Try.underlying83 rfl (by kernel_rfl) q11) ?_;clear F fa;intro fa F
 refine F.mv ?_;clear F fa;intro fa F
 refine sq_call F rfl (by decide) rfl (R_callV rfl rfl Try.call95 (mpS (F.at rfl) (mpS (F.at rfl) (mpS (F.at rfl) (mpS (F.at rfl) mp0))))) (off_ok x HV.out k hk (val l) HL.out.tub s HS.out b d _ (HX.out.ext E) (HQ.out.ext E (by simp))) fun e w11 hR=>?_
 obtain ⟨rfl,e9⟩:=hR
 refine ⟨_,rfl,?_⟩;clear F fa;intro fa F
 replace q4:=(e9).keep0 q4
 replace q9:=(e9).keep0 q9
 replace q10:=(e9).keep0 q10
 replace q11:=(e9).keep0 q11
 replace E:=ext_same E (e9)
 clear e9
 refine F.as ?_;clear F fa;intro fa F
 refine sq_to rfl rfl (R_store rfl (F.at rfl) (ev_c fa _) rfl (by kernel_rfl) ((cells_of_block q9 0).trans (get0)) (free_of_block q9 0)) ?_;intro w12 hw
 replace q4:=keep_cell hw q4 (by omega)
 replace q9:=put_cell hw q9 (by simp only [List.setIfInBounds_toArray,lsQ,lzQ];exact rfl)
 replace q10:=keep_cell hw q10 (by omega)
 replace q11:=keep_cell hw q11 (by omega)
 replace E:=ext_cell E hw (fun h=>by first | exact absurd h (by omega) | simp)
 clear hw
 refine wpList_nil ?_
 refine hK7 _ _ ?_
 clear hK7
 refine wp_ret ?_
 (try simp only [Exit.inBlock,Exit.then,reduceIte])
 refine rtM_v F ?_
 refine lv_caught ?_
 refine lv_nil (rs_tc F rfl rfl rfl Try.underlying35 rfl q9) ?_
 exact ⟨rfl,E⟩
def mkV (B : Int) (D L : List (List Int)) (tol : Int) : Vm:={ B:=B,tol:=tol,da:=none,dc:=0,la:=none,lc:=0,D:=D.map fun l=>(.bool true,l),L:=L.map fun l=>(.bool true,l) }
structure AlkV' (x y : Vm) : Prop where
 b : x.B = y.B
 t : x.tol = y.tol
 d : x.D.map (·.2) = y.D.map (·.2)
 l : x.L.map (·.2) = y.L.map (·.2)
section
variable {x y : Vm} (h : AlkV' x y)
include h
theorem AlkV'.dl : x.D.length = y.D.length:=by have:=congrArg List.length h.d;simpa using this
theorem AlkV'.ll : x.L.length = y.L.length:=by have:=congrArg List.length h.l;simpa using this
theorem AlkV'.dye (k : Nat) : x.dye k = y.dye k:=by
 have:=congrArg (fun l=>l.getD k []) h.d
 simp only [Vm.dye]
 by_cases hk : k < x.D.length
 ·have h1:=key_getD x.D hk
  have h2:=key_getD y.D (h.dl ▸ hk)
  rw [← h1,← h2];exact this
 ·rw [List.getD_eq_getElem?_getD,List.getD_eq_getElem?_getD,List.getElem?_eq_none (by omega),List.getElem?_eq_none (by have:=h.dl;omega)]
theorem AlkV'.lamp (k : Nat) : x.lamp k = y.lamp k:=by
 have:=congrArg (fun l=>l.getD k []) h.l
 simp only [Vm.lamp]
 by_cases hk : k < x.L.length
 ·have h1:=key_getD x.L hk
  have h2:=key_getD y.L (h.ll ▸ hk)
  rw [← h1,← h2];exact this
 ·rw [List.getD_eq_getElem?_getD,List.getD_eq_getElem?_getD,List.getElem?_eq_none (by omega),List.getElem?_eq_none (by have:=h.ll;omega)]
theorem AlkV'.tn (f : Nat → Int) : tnE x f = tnE y f:=by funext j;simp only [tnE,tonE,h.dl,h.dye]
theorem AlkV'.off (k : Nat) (f s : Nat → Int) : offE x k f s = offE y k f s:=by simp only [offE,h.lamp,h.tn,h.b]
theorem AlkV'.mat (f s : Nat → Int) (ls : List Int) : matE x f s ls = matE y f s ls:=by simp only [matE,h.off,h.t]
theorem AlkV'.matL (s : Nat → Int) (ls : List Int) : matL x s ls = matL y s ls:=by
 rw [Go.Proofs.Ytdjeecgddbjbeaa.matL,Go.Proofs.Ytdjeecgddbjbeaa.matL,h.dl]
 congr 1
 funext t
 simp only [cndE,h.mat]
theorem AlkV'.few (s : Nat → Int) (ls : List Int) : fewR x s ls = fewR y s ls:=by simp only [fewR,h.matL,h.dl]
theorem AlkV'.cor (t : List Int) (s : Nat → Int) (ls : List Int) : corR x t s ls = corR y t s ls:=by
 have : corB x t s ls = corB y t s ls:=by funext q;simp only [corB,h.mat]
 simp only [corR,corO,this,h.dl]
theorem AlkV'.alk (k : Nat) (f g : Nat → Int) : alkE x k f g = alkE y k f g:=by
 have : alkV x k f g = alkV y k f g:=by simp only [alkV,h.lamp,h.tn,h.b]
 rw [alkE,alkE,this,h.t]
theorem AlkV'.tel (T : List (List Int)) : telR x T = telR y T:=by
 have h1 : unN x T = unN y T:=by
  funext n
  have : unP x n T = unP y n T:=by funext j k;simp only [unP,h.alk]
  simp only [unN,this]
 have h2 : cT x T = cT y T:=by funext n;simp only [cT,h1]
 simp only [telR,h1,h2,h.ll]
theorem AlkV'.sha (lp : Nat) (T : List (List Int)) : shaR x lp T = shaR y lp T:=by
 have : shdE x T lp = shdE y T lp:=by funext j k;simp only [shdE,h.lamp,h.tn,h.b]
 simp only [shaR,this]
theorem AlkV'.mos (ls : List Int) (T : List (List Int)) : mosR x ls T = mosR y ls T:=by
 have : nrB x ls T = nrB y ls T:=by funext j k;simp only [nrB,h.alk]
 simp only [mosR,this]
theorem AlkV'.ok (hy : VOk y) : VOk x:=by
 have key : ∀ {P : List Int → Prop} {X Y : List (Value × List Int)},X.map (·.2) = Y.map (·.2) → (∀ p ∈ Y,P p.2) → ∀ p ∈ X,P p.2:=by
  intro P X Y he hP p hp
  have : p.2 ∈ X.map (·.2):=List.mem_map.2 ⟨p,hp,rfl⟩
  rw [he] at this
  obtain ⟨q,hq,e⟩:=List.mem_map.1 this
  rw [← e];exact hP q hq
 refine ⟨by rw [h.b,h.t,h.d,h.l];exact hy.chk,by rw [h.b];exact hy.b1,by rw [h.b];exact hy.b3,by rw [h.dl];exact hy.d1,by rw [h.dl];exact hy.d4,?_,by rw [h.ll];exact hy.l1,by rw [h.ll];exact hy.l3,?_,by rw [h.t];exact hy.t0,by rw [h.t];exact hy.t12⟩
 ·rw [h.b];exact key (P:=fun l=>(l.length : Int) = y.B ∧ ∀ n ∈ l,0 ≤ n ∧ n ≤ 9) h.d hy.dl
 ·rw [h.b];exact key (P:=fun l=>(l.length : Int) = y.B ∧ ∀ n ∈ l,0 ≤ n ∧ n ≤ 3) h.l hy.ll
end
def vat0 : Vm:=mkV 3 vatD vatL 1
theorem vat0_ok : VOk vat0:=by
 refine ⟨?_,?_,?_,?_,?_,?_,?_,?_,?_,?_,?_⟩ <;> decide +kernel
theorem IsVat.alk {x : Vm} (h : IsVat x) : AlkV' x vat0:=⟨h.b,h.t,by rw [h.d];rfl,by rw [h.l];rfl⟩
theorem val_few : fewR vat0 (val [4,3,2]) [0,1] = ([1,2,0,0],0):=by decide +kernel
theorem val_off : offE vat0 1 (val [1,1,0,0]) (val [4,3,2]) = 6:=by decide +kernel
theorem val_cor : corR vat0 [0,0,0,1] (val [4,3,2]) [0,1] = ([1,1,0,0],0):=by decide +kernel
theorem val_tel : telR vat0 clothL = (1,5,0):=by decide +kernel
theorem val_sha : shaR vat0 1 clothL = [1,2,3,0]:=by decide +kernel
theorem val_mos : mosR vat0 [1] clothL = [2,3]:=by decide +kernel
section
variable {x : Vm} (h : IsVat x)
include h
theorem IsVat.ok : VOk x:=h.alk.ok vat0_ok
theorem IsVat.smp : SmpOk x [4,3,2]:=⟨by rw [h.b];rfl,by decide⟩
theorem IsVat.dl : x.D.length = 4:=h.alk.dl
theorem IsVat.ll : x.L.length = 2:=h.alk.ll
theorem IsVat.both : LmpsOk x [0,1]:=⟨by decide,by rw [LmpOk,h.ll];decide,fun i h0 h1=>by rcases i with _ | _ | i;(· omega);(· decide);(· simp at h1;omega)⟩
theorem IsVat.one : LmpsOk x [1]:=⟨by decide,by rw [LmpOk,h.ll];decide,fun i h0 h1=>by simp at h1;omega⟩
theorem IsVat.rcp {l : List Int} (h1 : l.length = 4) (h2 : ∀ n ∈ l,0 ≤ n ∧ n ≤ 6) (h3 : 1 ≤ l.sum) (h4 : l.sum ≤ 6) : RcpOk x l:=⟨by rw [h.dl];exact h1,h2,h3,h4⟩
theorem IsVat.cloths {S : List (Value × List Int)} (hs : S.map (·.2) = clothL) : ∀ p ∈ S,RcpOk x p.2:=by
 have key : ∀ l ∈ clothL,l.length = 4 ∧ (∀ n ∈ l,0 ≤ n ∧ n ≤ 6) ∧ 1 ≤ l.sum ∧ l.sum ≤ 6:=by decide
 intro p hp
 have hm : p.2 ∈ clothL:=by rw [← hs];exact List.mem_map.2 ⟨p,hp,rfl⟩
 obtain ⟨h1,h2,h3,h4⟩:=key _ hm
 exact h.rcp h1 h2 h3 h4
theorem IsVat.few : fewR x (val [4,3,2]) [0,1] = ([1,2,0,0],0):=(h.alk.few _ _).trans val_few
theorem IsVat.off : offE x 1 (val [1,1,0,0]) (val [4,3,2]) = 6:=(h.alk.off _ _ _).trans val_off
theorem IsVat.cor : corR x [0,0,0,1] (val [4,3,2]) [0,1] = ([1,1,0,0],0):=(h.alk.cor _ _ _).trans val_cor
theorem IsVat.tel : telR x clothL = (1,5,0):=(h.alk.tel _).trans val_tel
theorem IsVat.sha : shaR x 1 clothL = [1,2,3,0]:=(h.alk.sha _ _).trans val_sha
theorem IsVat.mos : mosR x [1] clothL = [2,3]:=(h.alk.mos _ _).trans val_mos
end
theorem four_len {S : List (Value × List Int)} (hs : S.map (·.2) = clothL) : S.length = 4:=by have:=congrArg List.length hs;simpa [clothL] using this
section
variable {x : Vm} (h : IsVat x) {w : World} (ha : x.At w)
include h ha
theorem dy_few {a b : Option Addr} {c d : Nat} (hr : IsRows w (.slice a [(4 : Int),3,2].length c) 1 ([(4 : Int),3,2].map intRow)) (hq : IsRows w (.slice b [(0 : Int),1].length d) 1 ([(0 : Int),1].map intRow)) :
  Calls Try.prog 39 #[.agg #[.int .i64 x.B,.slice x.da x.D.length x.dc,.slice x.la x.L.length x.lc,.int .i64 x.tol],.slice a 3 c,.slice b 2 d] w fun e w'=>∃ a c,e = .returned (.tuple #[.slice a 4 c,.int .i64 0]) ∧ IsRows w' (.slice a [(1 : Int),2,0,0].length c) 1 ([(1 : Int),2,0,0].map intRow) ∧ Ext [] w w':=by
 refine Calls.mono (xFewest_ok x h.ok [4,3,2] h.smp [0,1] h.both (by decide) a b c d w ha hr hq) ?_
 rintro e w' ⟨a,c,he,ho,hE⟩
 rw [h.few] at he ho
 exact ⟨a,c,he,rows_of_ivs ho rfl,hE⟩
theorem dy_off {a b : Option Addr} {c d : Nat} (hr : IsRows w (.slice a [(1 : Int),1,0,0].length c) 1 ([(1 : Int),1,0,0].map intRow)) (hq : IsRows w (.slice b [(4 : Int),3,2].length d) 1 ([(4 : Int),3,2].map intRow)) :
  Calls Try.prog 46 #[.agg #[.int .i64 x.B,.slice x.da x.D.length x.dc,.slice x.la x.L.length x.lc,.int .i64 x.tol],.int .i64 1,.slice a 4 c,.slice b 3 d] w fun e w'=>e = .returned (.tuple #[.int .i64 6,.int .i64 0]) ∧ Ext [] w w':=by
 have:=xOff_ok x h.ok 1 (by rw [h.ll];decide) [1,1,0,0] (h.rcp rfl (by decide) (by decide) (by decide)) [4,3,2] h.smp a b c d w ha hr hq
 rw [h.off] at this
 exact this
theorem dy_cor {a b k : Option Addr} {c d l : Nat} (hp : IsRows w (.slice a [(0 : Int),0,0,1].length c) 1 ([(0 : Int),0,0,1].map intRow)) (hr : IsRows w (.slice b [(4 : Int),3,2].length d) 1 ([(4 : Int),3,2].map intRow)) (hq : IsRows w (.slice k [(0 : Int),1].length l) 1 ([(0 : Int),1].map intRow)) :
  Calls Try.prog 20 #[.agg #[.int .i64 x.B,.slice x.da x.D.length x.dc,.slice x.la x.L.length x.lc,.int .i64 x.tol],.slice a 4 c,.slice b 3 d,.slice k 2 l] w fun e w'=>∃ a c,e = .returned (.tuple #[.slice a 4 c,.int .i64 0]) ∧ IsRows w' (.slice a [(1 : Int),1,0,0].length c) 1 ([(1 : Int),1,0,0].map intRow) ∧ Ext [] w w':=by
 refine Calls.mono (xCorrect_ok x h.ok [0,0,0,1] (h.rcp rfl (by decide) (by decide) (by decide)) [4,3,2] h.smp [0,1] h.both (by decide) a b k c d l w ha hp hr hq) ?_
 rintro e w' ⟨a,c,he,ho,hE⟩
 rw [h.cor] at he ho
 exact ⟨a,c,he,rows_of_ivs ho rfl,hE⟩
theorem dy_tel {a : Option Addr} {c : Nat} {S : List (Value × List Int)} (hs : S.map (·.2) = clothL) (hl : LolAt w a S) :
  Calls Try.prog 47 #[.agg #[.int .i64 x.B,.slice x.da x.D.length x.dc,.slice x.la x.L.length x.lc,.int .i64 x.tol],.slice a S.length c] w fun e w'=>e = .returned (.tuple #[.int .i64 1,.int .i64 5,.int .i64 0]) ∧ Ext [] w w':=by
 have:=xTelling_ok x h.ok S (h.cloths hs) (by rw [four_len hs];decide) a c w ha hl
 rw [hs,h.tel] at this
 exact this
theorem dy_sha {a : Option Addr} {c : Nat} {S : List (Value × List Int)} (hs : S.map (·.2) = clothL) (hl : LolAt w a S) :
  Calls Try.prog 30 #[.agg #[.int .i64 x.B,.slice x.da x.D.length x.dc,.slice x.la x.L.length x.lc,.int .i64 x.tol],.int .i64 1,.slice a S.length c] w fun e w'=>∃ a c,e = .returned (.tuple #[.slice a 4 c,.int .i64 0]) ∧ IsRows w' (.slice a [(1 : Int),2,3,0].length c) 1 ([(1 : Int),2,3,0].map intRow) ∧ Ext [] w w':=by
 refine Calls.mono (xShades_ok x h.ok 1 (by rw [h.ll];decide) S (h.cloths hs) (by rw [four_len hs];decide) a c w ha hl) ?_
 rintro e w' ⟨a,c,he,ho,hE⟩
 rw [hs,h.sha] at he ho
 exact ⟨a,c,he,rows_of_ivs ho rfl,hE⟩
theorem dy_mos {a b : Option Addr} {c d : Nat} {S : List (Value × List Int)} (hs : S.map (·.2) = clothL) (hl : LolAt w a S) (hq : IsRows w (.slice b [(1 : Int)].length d) 1 ([(1 : Int)].map intRow)) :
  Calls Try.prog 28 #[.agg #[.int .i64 x.B,.slice x.da x.D.length x.dc,.slice x.la x.L.length x.lc,.int .i64 x.tol],.slice a S.length c,.slice b 1 d] w fun e w'=>∃ a c,e = .returned (.tuple #[.slice a 2 c,.int .i64 0]) ∧ IsRows w' (.slice a [(2 : Int),3].length c) 1 ([(2 : Int),3].map intRow) ∧ Ext [] w w':=by
 refine Calls.mono (xMost_ok x h.ok S (h.cloths hs) (by rw [four_len hs];decide) [1] h.one (by decide) a b c d w ha hl hq) ?_
 rintro e w' ⟨a,c,he,ho,hE⟩
 rw [hs,h.mos] at he ho
 exact ⟨a,c,he,rows_of_ivs ho rfl,hE⟩
end
set_option maxRecDepth 100000 in
set_option maxHeartbeats 4000000 in
theorem dyed_any (w : World) : Calls Try.prog 12 #[] w fun e w'=>e = .returned (.bool true) ∧ Ext [] w w':=by
 have E : Ext [] w w:=Ext.refl _ _
 refine calls_has 110 Try.func12 rfl Try.ntmps12 (Nat.le_of_ble_eq_true rfl) ?_
 intro fa F
 refine wp_seq_k fun K1 hK1=>?_
 refine wp_region_lit ?_
 refine F.vl (R_assign rfl (ev_c fa _)) ?_;clear F fa;intro fa F
 refine wpList_nil ?_
 refine hK1 _ _ ?_
 clear hK1
 refine wp_seq_k fun K2 hK2=>?_
 refine wp_region_lit ?_
 refine sq_call F rfl (by decide) rfl (R_callV rfl rfl Try.call44 mp0) (vat_any _) fun e w1 hR=>?_
 obtain ⟨x1,rfl,hx1,ha1,e9⟩:=hR
 refine ⟨_,rfl,?_⟩;clear F fa;intro fa F
 replace E:=ext_same E (e9)
 clear e9
 obtain ⟨wva1,hva1⟩ : ∃ wv,wv = w1:=⟨_,rfl⟩
 have Eva1 : Ext [] wva1 w1:=by rw [hva1];exact Ext.refl _ _
 rw [← hva1] at ha1
 refine sq_call F rfl (by decide) rfl (R_callV rfl rfl Try.call45 mp0) (smp_any _) fun e w2 hR=>?_
 obtain ⟨s1,rfl,hs1,e9⟩:=hR
 refine ⟨_,rfl,?_⟩;clear F fa;intro fa F
 replace E:=ext_same E (e9)
 replace Eva1:=ext_same Eva1 (e9)
 clear e9
 obtain ⟨wvb1,hvb1⟩ : ∃ wv,wv = w2:=⟨_,rfl⟩
 have Evb1 : Ext [] wvb1 w2:=by rw [hvb1];exact Ext.refl _ _
 rw [← hvb1] at hs1
 refine sq_new F rfl (by decide) rfl (R_buildSliceV rfl (prS (ev_c fa _) (prS (ev_c fa _) pr0)) Try.underlying25 (size:=1) (by kernel_rfl) (by decide) (by decide) Try.zeroValue3 (cells:=#[.int .i64 0,.int .i64 1]) (by kernel_rfl)) ?_;clear F fa;intro fa w3 F hw
 obtain ⟨n17,hn⟩ : ∃ n,n = w2.heap.size:=⟨_,rfl⟩
 rw [← hn] at F
 have s17 : w2.heap.size ≤ n17:=Nat.le_of_eq hn.symm
 have l17_E : w.heap.size ≤ n17:=by rw [hn];exact E.size
 have l17_Eva1 : wva1.heap.size ≤ n17:=by rw [hn];exact Eva1.size
 have l17_Evb1 : wvb1.heap.size ≤ n17:=by rw [hn];exact Evb1.size
 replace E:=ext_alloc E hw
 replace Eva1:=ext_alloc Eva1 hw
 replace Evb1:=ext_alloc Evb1 hw
 have q17:=new_block hw hn
 clear hw hn
 refine sq_call F rfl (by decide) rfl (R_callV rfl rfl Try.call39 (mpS (F.at rfl) (mpS (F.at rfl) (mpS (F.at rfl) mp0)))) (dy_few hx1 (ha1.ext Eva1) (hs1.ext Evb1 (by simp)) (rows_lit [0,1] 2 q17)) fun e w4 hR=>?_
 obtain ⟨r1,k1,rfl,hr1,e9⟩:=hR
 refine ⟨_,rfl,?_⟩;clear F fa;intro fa F
 replace q17:=(e9).keep0 q17
 replace E:=ext_same E (e9)
 replace Eva1:=ext_same Eva1 (e9)
 replace Evb1:=ext_same Evb1 (e9)
 clear e9
 obtain ⟨wvr1,hvr1⟩ : ∃ wv,wv = w4:=⟨_,rfl⟩
 have Evr1 : Ext [] wvr1 w4:=by rw [hvr1];exact Ext.refl _ _
 rw [← hvr1] at hr1
 refine F.mv ?_;clear F fa;intro fa F
 refine F.vl (R_extract rfl (F.at rfl) (get0)) ?_;clear F fa;intro fa F
 refine F.vl (R_extract rfl (F.at rfl) (getS (get0))) ?_;clear F fa;intro fa F
 refine F.as ?_;clear F fa;intro fa F
 refine F.as ?_;clear F fa;intro fa F
 refine wpList_nil ?_
 refine hK2 _ _ ?_
 clear hK2
 refine wp_seq_k fun K3 hK3=>?_
 refine wp_region_lit ?_
 refine sq_call F rfl (by decide) rfl (R_callV rfl rfl Try.call44 mp0) (vat_any _) fun e w5 hR=>?_
 obtain ⟨x2,rfl,hx2,ha2,e9⟩:=hR
 refine ⟨_,rfl,?_⟩;clear F fa;intro fa F
 replace q17:=(e9).keep0 q17
 replace E:=ext_same E (e9)
 replace Evr1:=ext_same Evr1 (e9)
 clear e9
 obtain ⟨wva2,hva2⟩ : ∃ wv,wv = w5:=⟨_,rfl⟩
 have Eva2 : Ext [] wva2 w5:=by rw [hva2];exact Ext.refl _ _
 rw [← hva2] at ha2
 refine sq_new F rfl (by decide) rfl (R_buildSliceV rfl (prS (ev_c fa _) (prS (ev_c fa _) (prS (ev_c fa _) (prS (ev_c fa _) pr0)))) Try.underlying25 (size:=1) (by kernel_rfl) (by decide) (by decide) Try.zeroValue3 (cells:=#[.int .i64 1,.int .i64 1,.int .i64 0,.int .i64 0]) (by kernel_rfl)) ?_;clear F fa;intro fa w6 F hw
 obtain ⟨n23,hn⟩ : ∃ n,n = w5.heap.size:=⟨_,rfl⟩
 rw [← hn] at F
 have s23 : w5.heap.size ≤ n23:=Nat.le_of_eq hn.symm
 have l23_E : w.heap.size ≤ n23:=by rw [hn];exact E.size
 have l23_Evr1 : wvr1.heap.size ≤ n23:=by rw [hn];exact Evr1.size
 have l23_Eva2 : wva2.heap.size ≤ n23:=by rw [hn];exact Eva2.size
 have m23_17 : n17 < n23:=by rw [hn];exact blk_lt q17
 replace q17:=keep_alloc hw q17
 replace E:=ext_alloc E hw
 replace Evr1:=ext_alloc Evr1 hw
 replace Eva2:=ext_alloc Eva2 hw
 have q23:=new_block hw hn
 clear hw hn
 refine sq_call F rfl (by decide) rfl (R_callV rfl rfl Try.call45 mp0) (smp_any _) fun e w7 hR=>?_
 obtain ⟨s2,rfl,hs2,e9⟩:=hR
 refine ⟨_,rfl,?_⟩;clear F fa;intro fa F
 replace q17:=(e9).keep0 q17
 replace q23:=(e9).keep0 q23
 replace E:=ext_same E (e9)
 replace Evr1:=ext_same Evr1 (e9)
 replace Eva2:=ext_same Eva2 (e9)
 clear e9
 obtain ⟨wvb2,hvb2⟩ : ∃ wv,wv = w7:=⟨_,rfl⟩
 have Evb2 : Ext [] wvb2 w7:=by rw [hvb2];exact Ext.refl _ _
 rw [← hvb2] at hs2
 refine sq_call F rfl (by decide) rfl (R_callV rfl rfl Try.call46 (mpS (F.at rfl) (mpS (ev_c fa _) (mpS (F.at rfl) (mpS (F.at rfl) mp0))))) (dy_off hx2 (ha2.ext Eva2) (rows_lit [1,1,0,0] 4 q23) (hs2.ext Evb2 (by simp))) fun e w8 hR=>?_
 obtain ⟨rfl,e9⟩:=hR
 refine ⟨_,rfl,?_⟩;clear F fa;intro fa F
 replace q17:=(e9).keep0 q17
 replace q23:=(e9).keep0 q23
 replace E:=ext_same E (e9)
 replace Evr1:=ext_same Evr1 (e9)
 replace Eva2:=ext_same Eva2 (e9)
 replace Evb2:=ext_same Evb2 (e9)
 clear e9
 refine F.mv ?_;clear F fa;intro fa F
 refine F.vl (R_extract rfl (F.at rfl) (get0)) ?_;clear F fa;intro fa F
 refine F.vl (R_extract rfl (F.at rfl) (getS (get0))) ?_;clear F fa;intro fa F
 refine F.as ?_;clear F fa;intro fa F
 refine F.as ?_;clear F fa;intro fa F
 refine wpList_nil ?_
 refine hK3 _ _ ?_
 clear hK3
 refine wp_seq_k fun K4 hK4=>?_
 refine wp_region_lit ?_
 refine sq_call F rfl (by decide) rfl (R_callV rfl rfl Try.call44 mp0) (vat_any _) fun e w9 hR=>?_
 obtain ⟨x3,rfl,hx3,ha3,e9⟩:=hR
 refine ⟨_,rfl,?_⟩;clear F fa;intro fa F
 replace q17:=(e9).keep0 q17
 replace q23:=(e9).keep0 q23
 replace E:=ext_same E (e9)
 replace Evr1:=ext_same Evr1 (e9)
 clear e9
 obtain ⟨wva3,hva3⟩ : ∃ wv,wv = w9:=⟨_,rfl⟩
 have Eva3 : Ext [] wva3 w9:=by rw [hva3];exact Ext.refl _ _
 rw [← hva3] at ha3
 refine sq_new F rfl (by decide) rfl (R_buildSliceV rfl (prS (ev_c fa _) (prS (ev_c fa _) (prS (ev_c fa _) (prS (ev_c fa _) pr0)))) Try.underlying25 (size:=1) (by kernel_rfl) (by decide) (by decide) Try.zeroValue3 (cells:=#[.int .i64 0,.int .i64 0,.int .i64 0,.int .i64 1]) (by kernel_rfl)) ?_;clear F fa;intro fa w10 F hw
 obtain ⟨n30,hn⟩ : ∃ n,n = w9.heap.size:=⟨_,rfl⟩
 rw [← hn] at F
 have s30 : w9.heap.size ≤ n30:=Nat.le_of_eq hn.symm
 have l30_E : w.heap.size ≤ n30:=by rw [hn];exact E.size
 have l30_Evr1 : wvr1.heap.size ≤ n30:=by rw [hn];exact Evr1.size
 have l30_Eva3 : wva3.heap.size ≤ n30:=by rw [hn];exact Eva3.size
 have m30_17 : n17 < n30:=by rw [hn];exact blk_lt q17
 have m30_23 : n23 < n30:=by rw [hn];exact blk_lt q23
 replace q17:=keep_alloc hw q17
 replace q23:=keep_alloc hw q23
 replace E:=ext_alloc E hw
 replace Evr1:=ext_alloc Evr1 hw
 replace Eva3:=ext_alloc Eva3 hw
 have q30:=new_block hw hn
 clear hw hn
 refine sq_call F rfl (by decide) rfl (R_callV rfl rfl Try.call45 mp0) (smp_any _) fun e w11 hR=>?_
 obtain ⟨s3,rfl,hs3,e9⟩:=hR
 refine ⟨_,rfl,?_⟩;clear F fa;intro fa F
 replace q17:=(e9).keep0 q17
 replace q23:=(e9).keep0 q23
 replace q30:=(e9).keep0 q30
 replace E:=ext_same E (e9)
 replace Evr1:=ext_same Evr1 (e9)
 replace Eva3:=ext_same Eva3 (e9)
 clear e9
 obtain ⟨wvb3,hvb3⟩ : ∃ wv,wv = w11:=⟨_,rfl⟩
 have Evb3 : Ext [] wvb3 w11:=by rw [hvb3];exact Ext.refl _ _
 rw [← hvb3] at hs3
 refine sq_new F rfl (by decide) rfl (R_buildSliceV rfl (prS (ev_c fa _) (prS (ev_c fa _) pr0)) Try.underlying25 (size:=1) (by kernel_rfl) (by decide) (by decide) Try.zeroValue3 (cells:=#[.int .i64 0,.int .i64 1]) (by kernel_rfl)) ?_;clear F fa;intro fa w12 F hw
 obtain ⟨n32,hn⟩ : ∃ n,n = w11.heap.size:=⟨_,rfl⟩
 rw [← hn] at F
 have s32 : w11.heap.size ≤ n32:=Nat.le_of_eq hn.symm
 have l32_E : w.heap.size ≤ n32:=by rw [hn];exact E.size
 have l32_Evr1 : wvr1.heap.size ≤ n32:=by rw [hn];exact Evr1.size
 have l32_Eva3 : wva3.heap.size ≤ n32:=by rw [hn];exact Eva3.size
 have l32_Evb3 : wvb3.heap.size ≤ n32:=by rw [hn];exact Evb3.size
 have m32_17 : n17 < n32:=by rw [hn];exact blk_lt q17
 have m32_23 : n23 < n32:=by rw [hn];exact blk_lt q23
 have m32_30 : n30 < n32:=by rw [hn];exact blk_lt q30
 replace q17:=keep_alloc hw q17
 replace q23:=keep_alloc hw q23
 replace q30:=keep_alloc hw q30
 replace E:=ext_alloc E hw
 replace Evr1:=ext_alloc Evr1 hw
 replace Eva3:=ext_alloc Eva3 hw
 replace Evb3:=ext_alloc Evb3 hw
 have q32:=new_block hw hn
 clear hw hn
 refine sq_call F rfl (by decide) rfl (R_callV rfl rfl Try.call20 (mpS (F.at rfl) (mpS (F.at rfl) (mpS (F.at rfl) (mpS (F.at rfl) mp0))))) (dy_cor hx3 (ha3.ext Eva3) (rows_lit [0,0,0,1] 4 q30) (hs3.ext Evb3 (by simp)) (rows_lit [0,1] 2 q32)) fun e w13 hR=>?_
 obtain ⟨r3,k3,rfl,hr3,e9⟩:=hR
 refine ⟨_,rfl,?_⟩;clear F fa;intro fa F
 replace q17:=(e9).keep0 q17
 replace q23:=(e9).keep0 q23
 replace q30:=(e9).keep0 q30
 replace q32:=(e9).keep0 q32
 replace E:=ext_same E (e9)
 replace Evr1:=ext_same Evr1 (e9)
 replace Eva3:=ext_same Eva3 (e9)
 replace Evb3:=ext_same Evb3 (e9)
 clear e9
 obtain ⟨wvr3,hvr3⟩ : ∃ wv,wv = w13:=⟨_,rfl⟩
 have Evr3 : Ext [] wvr3 w13:=by rw [hvr3];exact Ext.refl _ _
 rw [← hvr3] at hr3
 refine F.mv ?_;clear F fa;intro fa F
 refine F.vl (R_extract rfl (F.at rfl) (get0)) ?_;clear F fa;intro fa F
 refine F.vl (R_extract rfl (F.at rfl) (getS (get0))) ?_;clear F fa;intro fa F
 refine F.as ?_;clear F fa;intro fa F
 refine F.as ?_;clear F fa;intro fa F
 refine wpList_nil ?_
 refine hK4 _ _ ?_
 clear hK4
 refine wp_seq_k fun K5 hK5=>?_
 refine wp_region_lit ?_
 refine sq_call F rfl (by decide) rfl (R_callV rfl rfl Try.call44 mp0) (vat_any _) fun e w14 hR=>?_
 obtain ⟨x4,rfl,hx4,ha4,e9⟩:=hR
 refine ⟨_,rfl,?_⟩;clear F fa;intro fa F
 replace q17:=(e9).keep0 q17
 replace q23:=(e9).keep0 q23
 replace q30:=(e9).keep0 q30
 replace q32:=(e9).keep0 q32
 replace E:=ext_same E (e9)
 replace Evr1:=ext_same Evr1 (e9)
 replace Evr3:=ext_same Evr3 (e9)
 clear e9
 obtain ⟨wva4,hva4⟩ : ∃ wv,wv = w14:=⟨_,rfl⟩
 have Eva4 : Ext [] wva4 w14:=by rw [hva4];exact Ext.refl _ _
 rw [← hva4] at ha4
 refine sq_call F rfl (by decide) rfl (R_callV rfl rfl Try.call48 mp0) (cloths_any _) fun e w15 hR=>?_
 obtain ⟨c4,S4,rfl,hS4,hl4,e9⟩:=hR
 refine ⟨_,rfl,?_⟩;clear F fa;intro fa F
 replace q17:=(e9).keep0 q17
 replace q23:=(e9).keep0 q23
 replace q30:=(e9).keep0 q30
 replace q32:=(e9).keep0 q32
 replace E:=ext_same E (e9)
 replace Evr1:=ext_same Evr1 (e9)
 replace Evr3:=ext_same Evr3 (e9)
 replace Eva4:=ext_same Eva4 (e9)
 clear e9
 refine sq_call F rfl (by decide) rfl (R_callV rfl rfl Try.call47 (mpS (F.at rfl) (mpS (F.at rfl) mp0))) (dy_tel hx4 (ha4.ext Eva4) hS4 hl4) fun e w16 hR=>?_
 obtain ⟨rfl,e9⟩:=hR
 refine ⟨_,rfl,?_⟩;clear F fa;intro fa F
 replace q17:=(e9).keep0 q17
 replace q23:=(e9).keep0 q23
 replace q30:=(e9).keep0 q30
 replace q32:=(e9).keep0 q32
 replace E:=ext_same E (e9)
 replace Evr1:=ext_same Evr1 (e9)
 replace Evr3:=ext_same Evr3 (e9)
 replace Eva4:=ext_same Eva4 (e9)
 clear e9
 refine F.mv ?_;clear F fa;intro fa F
 refine F.vl (R_extract rfl (F.at rfl) (get0)) ?_;clear F fa;intro fa F
 refine F.vl (R_extract rfl (F.at rfl) (getS (get0))) ?_;clear F fa;intro fa F
 refine F.vl (R_extract rfl (F.at rfl) (getS (getS (get0)))) ?_;clear F fa;intro fa F
 refine F.as ?_;clear F fa;intro fa F
 refine F.as ?_;clear F fa;intro fa F
 refine F.as ?_;clear F fa;intro fa F
 refine wpList_nil ?_
 refine hK5 _ _ ?_
 clear hK5
 refine wp_seq_k fun K6 hK6=>?_
 refine wp_region_lit ?_
 refine sq_call F rfl (by decide) rfl (R_callV rfl rfl Try.call44 mp0) (vat_any _) fun e w17 hR=>?_
 obtain ⟨x5,rfl,hx5,ha5,e9⟩:=hR
 refine ⟨_,rfl,?_⟩;clear F fa;intro fa F
 replace q17:=(e9).keep0 q17
 replace q23:=(e9).keep0 q23
 replace q30:=(e9).keep0 q30
 replace q32:=(e9).keep0 q32
 replace E:=ext_same E (e9)
 replace Evr1:=ext_same Evr1 (e9)
 replace Evr3:=ext_same Evr3 (e9)
 clear e9
 obtain ⟨wva5,hva5⟩ : ∃ wv,wv = w17:=⟨_,rfl⟩
 have Eva5 : Ext [] wva5 w17:=by rw [hva5];exact Ext.refl _ _
 rw [← hva5] at ha5
 refine sq_call F rfl (by decide) rfl (R_callV rfl rfl Try.call48 mp0) (cloths_any _) fun e w18 hR=>?_
 obtain ⟨c5,S5,rfl,hS5,hl5,e9⟩:=hR
 refine ⟨_,rfl,?_⟩;clear F fa;intro fa F
 replace q17:=(e9).keep0 q17
 replace q23:=(e9).keep0 q23
 replace q30:=(e9).keep0 q30
 replace q32:=(e9).keep0 q32
 replace E:=ext_same E (e9)
 replace Evr1:=ext_same Evr1 (e9)
 replace Evr3:=ext_same Evr3 (e9)
 replace Eva5:=ext_same Eva5 (e9)
 clear e9
 refine sq_call F rfl (by decide) rfl (R_callV rfl rfl Try.call30 (mpS (F.at rfl) (mpS (ev_c fa _) (mpS (F.at rfl) mp0)))) (dy_sha hx5 (ha5.ext Eva5) hS5 hl5) fun e w19 hR=>?_
 obtain ⟨r5,k5,rfl,hr5,e9⟩:=hR
 refine ⟨_,rfl,?_⟩;clear F fa;intro fa F
 replace q17:=(e9).keep0 q17
 replace q23:=(e9).keep0 q23
 replace q30:=(e9).keep0 q30
 replace q32:=(e9).keep0 q32
 replace E:=ext_same E (e9)
 replace Evr1:=ext_same Evr1 (e9)
 replace Evr3:=ext_same Evr3 (e9)
 replace Eva5:=ext_same Eva5 (e9)
 clear e9
 obtain ⟨wvr5,hvr5⟩ : ∃ wv,wv = w19:=⟨_,rfl⟩
 have Evr5 : Ext [] wvr5 w19:=by rw [hvr5];exact Ext.refl _ _
 rw [← hvr5] at hr5
 refine F.mv ?_;clear F fa;intro fa F
 refine F.vl (R_extract rfl (F.at rfl) (get0)) ?_;clear F fa;intro fa F
 refine F.vl (R_extract rfl (F.at rfl) (getS (get0))) ?_;clear F fa;intro fa F
 refine F.as ?_;clear F fa;intro fa F
 refine F.as ?_;clear F fa;intro fa F
 refine wpList_nil ?_
 refine hK6 _ _ ?_
 clear hK6
 refine wp_seq_k fun K7 hK7=>?_
 refine wp_region_lit ?_
 refine sq_call F rfl (by decide) rfl (R_callV rfl rfl Try.call44 mp0) (vat_any _) fun e w20 hR=>?_
 obtain ⟨x6,rfl,hx6,ha6,e9⟩:=hR
 refine ⟨_,rfl,?_⟩;clear F fa;intro fa F
 replace q17:=(e9).keep0 q17
 replace q23:=(e9).keep0 q23
 replace q30:=(e9).keep0 q30
 replace q32:=(e9).keep0 q32
 replace E:=ext_same E (e9)
 replace Evr1:=ext_same Evr1 (e9)
 replace Evr3:=ext_same Evr3 (e9)
 replace Evr5:=ext_same Evr5 (e9)
 clear e9
 obtain ⟨wva6,hva6⟩ : ∃ wv,wv = w20:=⟨_,rfl⟩
 have Eva6 : Ext [] wva6 w20:=by rw [hva6];exact Ext.refl _ _
 rw [← hva6] at ha6
 refine sq_call F rfl (by decide) rfl (R_callV rfl rfl Try.call48 mp0) (cloths_any _) fun e w21 hR=>?_
 obtain ⟨c6,S6,rfl,hS6,hl6,e9⟩:=hR
 refine ⟨_,rfl,?_⟩;clear F fa;intro fa F
 replace q17:=(e9).keep0 q17
 replace q23:=(e9).keep0 q23
 replace q30:=(e9).keep0 q30
 replace q32:=(e9).keep0 q32
 replace E:=ext_same E (e9)
 replace Evr1:=ext_same Evr1 (e9)
 replace Evr3:=ext_same Evr3 (e9)
 replace Evr5:=ext_same Evr5 (e9)
 replace Eva6:=ext_same Eva6 (e9)
 clear e9
 obtain ⟨wvb6,hvb6⟩ : ∃ wv,wv = w21:=⟨_,rfl⟩
 have Evb6 : Ext [] wvb6 w21:=by rw [hvb6];exact Ext.refl _ _
 rw [← hvb6] at hl6
 refine sq_new F rfl (by decide) rfl (R_buildSliceV rfl (prS (ev_c fa _) pr0) Try.underlying25 (size:=1) (by kernel_rfl) (by decide) (by decide) Try.zeroValue3 (cells:=#[.int .i64 1]) (by kernel_rfl)) ?_;clear F fa;intro fa w22 F hw
 obtain ⟨n52,hn⟩ : ∃ n,n = w21.heap.size:=⟨_,rfl⟩
 rw [← hn] at F
 have s52 : w21.heap.size ≤ n52:=Nat.le_of_eq hn.symm
 have l52_E : w.heap.size ≤ n52:=by rw [hn];exact E.size
 have l52_Evr1 : wvr1.heap.size ≤ n52:=by rw [hn];exact Evr1.size
 have l52_Evr3 : wvr3.heap.size ≤ n52:=by rw [hn];exact Evr3.size
 have l52_Evr5 : wvr5.heap.size ≤ n52:=by rw [hn];exact Evr5.size
 have l52_Eva6 : wva6.heap.size ≤ n52:=by rw [hn];exact Eva6.size
 have l52_Evb6 : wvb6.heap.size ≤ n52:=by rw [hn];exact Evb6.size
 have m52_17 : n17 < n52:=by rw [hn];exact blk_lt q17
 have m52_23 : n23 < n52:=by rw [hn];exact blk_lt q23
 have m52_30 : n30 < n52:=by rw [hn];exact blk_lt q30
 have m52_32 : n32 < n52:=by rw [hn];exact blk_lt q32
 replace q17:=keep_alloc hw q17
 replace q23:=keep_alloc hw q23
 replace q30:=keep_alloc hw q30
 replace q32:=keep_alloc hw q32
 replace E:=ext_alloc E hw
 replace Evr1:=ext_alloc Evr1 hw
 replace Evr3:=ext_alloc Evr3 hw
 replace Evr5:=ext_alloc Evr5 hw
 replace Eva6:=ext_alloc Eva6 hw
 replace Evb6:=ext_alloc Evb6 hw
 have q52:=new_block hw hn
 clear hw hn
 refine sq_call F rfl (by decide) rfl (R_callV rfl rfl Try.call28 (mpS (F.at rfl) (mpS (F.at rfl) (mpS (F.at rfl) mp0)))) (dy_mos hx6 (ha6.ext Eva6) hS6 (hl6.ext Evb6) (rows_lit [1] 1 q52)) fun e w23 hR=>?_
 obtain ⟨r6,k6,rfl,hr6,e9⟩:=hR
 refine ⟨_,rfl,?_⟩;clear F fa;intro fa F
 replace q17:=(e9).keep0 q17
 replace q23:=(e9).keep0 q23
 replace q30:=(e9).keep0 q30
 replace q32:=(e9).keep0 q32
 replace q52:=(e9).keep0 q52
 replace E:=ext_same E (e9)
 replace Evr1:=ext_same Evr1 (e9)
 replace Evr3:=ext_same Evr3 (e9)
 replace Evr5:=ext_same Evr5 (e9)
 replace Eva6:=ext_same Eva6 (e9)
 replace Evb6:=ext_same Evb6 (e9)
 clear e9
 obtain ⟨wvr6,hvr6⟩ : ∃ wv,wv = w23:=⟨_,rfl⟩
 have Evr6 : Ext [] wvr6 w23:=by rw [hvr6];exact Ext.refl _ _
 rw [← hvr6] at hr6
 refine F.mv ?_;clear F fa;intro fa F
 refine F.vl (R_extract rfl (F.at rfl) (get0)) ?_;clear F fa;intro fa F
 refine F.vl (R_extract rfl (F.at rfl) (getS (get0))) ?_;clear F fa;intro fa F
 refine F.as ?_;clear F fa;intro fa F
 refine F.as ?_;clear F fa;intro fa F
 refine wpList_nil ?_
 refine hK7 _ _ ?_
 clear hK7
 refine wp_seq_k fun K8 hK8=>?_
 refine wp_region_lit ?_
 refine F.mv ?_;clear F fa;intro fa F
 refine F.vl (R_eqlB (b:=true) rfl (F.at rfl) (ev_c fa _) (by decide)) ?_;clear F fa;intro fa F
 refine F.mv ?_;clear F fa;intro fa F
 refine F.mv ?_ (hw:=(wantT F rfl rfl (by decide) rfl));clear F fa;intro fa F
 refine F.vl (R_eqlB (b:=true) rfl (F.at rfl) (ev_c fa _) (by decide)) ?_ (hw:=(wantT F rfl rfl (by decide) rfl));clear F fa;intro fa F
 refine F.vl (R_pickT rfl (F.at rfl) (F.at rfl)) ?_;clear F fa;intro fa F
 refine F.mv ?_;clear F fa;intro fa F
 refine F.mv ?_ (hw:=(wantT F rfl rfl (by decide) rfl));clear F fa;intro fa F
 refine F.vl (R_eqlB (b:=true) rfl (F.at rfl) (ev_c fa _) (by decide)) ?_ (hw:=(wantT F rfl rfl (by decide) rfl));clear F fa;intro fa F
 refine F.vl (R_pickT rfl (F.at rfl) (F.at rfl)) ?_;clear F fa;intro fa F
 refine F.mv ?_;clear F fa;intro fa F
 refine F.mv ?_ (hw:=(wantT F rfl rfl (by decide) rfl));clear F fa;intro fa F
 refine F.vl (R_eqlB (b:=true) rfl (F.at rfl) (ev_c fa _) (by decide)) ?_ (hw:=(wantT F rfl rfl (by decide) rfl));clear F fa;intro fa F
 refine F.vl (R_pickT rfl (F.at rfl) (F.at rfl)) ?_;clear F fa;intro fa F
 refine F.mv ?_;clear F fa;intro fa F
 refine F.mv ?_ (hw:=(wantT F rfl rfl (by decide) rfl));clear F fa;intro fa F
 refine F.vl (R_eqlB (b:=true) rfl (F.at rfl) (ev_c fa _) (by decide)) ?_ (hw:=(wantT F rfl rfl (by decide) rfl));clear F fa;intro fa F
 refine F.vl (R_pickT rfl (F.at rfl) (F.at rfl)) ?_;clear F fa;intro fa F
 refine F.mv ?_;clear F fa;intro fa F
 refine F.mv ?_ (hw:=(wantT F rfl rfl (by decide) rfl));clear F fa;intro fa F
 refine F.vl (R_eqlB (b:=true) rfl (F.at rfl) (ev_c fa _) (by decide)) ?_ (hw:=(wantT F rfl rfl (by decide) rfl));clear F fa;intro fa F
 refine F.vl (R_pickT rfl (F.at rfl) (F.at rfl)) ?_;clear F fa;intro fa F
 refine F.mv ?_;clear F fa;intro fa F
 refine F.mv ?_ (hw:=(wantT F rfl rfl (by decide) rfl));clear F fa;intro fa F
 refine F.vl (R_eqlB (b:=true) rfl (F.at rfl) (ev_c fa _) (by decide)) ?_ (hw:=(wantT F rfl rfl (by decide) rfl));clear F fa;intro fa F
 refine F.vl (R_pickT rfl (F.at rfl) (F.at rfl)) ?_;clear F fa;intro fa F
 refine F.mv ?_;clear F fa;intro fa F
 refine F.mv ?_ (hw:=(wantT F rfl rfl (by decide) rfl));clear F fa;intro fa F
 refine F.vl (R_eqlB (b:=true) rfl (F.at rfl) (ev_c fa _) (by decide)) ?_ (hw:=(wantT F rfl rfl (by decide) rfl));clear F fa;intro fa F
 refine F.vl (R_pickT rfl (F.at rfl) (F.at rfl)) ?_;clear F fa;intro fa F
 refine F.mv ?_;clear F fa;intro fa F
 refine F.mv ?_ (hw:=(wantT F rfl rfl (by decide) rfl));clear F fa;intro fa F
 refine F.vl (R_eqlB (b:=true) rfl (F.at rfl) (ev_c fa _) (by decide)) ?_ (hw:=(wantT F rfl rfl (by decide) rfl));clear F fa;intro fa F
 refine F.vl (R_pickT rfl (F.at rfl) (F.at rfl)) ?_;clear F fa;intro fa F
 refine F.mv ?_;clear F fa;intro fa F
 refine F.mv ?_ (hw:=(wantT F rfl rfl (by decide) rfl));clear F fa;intro fa F
 refine sq_new F rfl (by decide) (wantT F rfl rfl (by decide) rfl) (R_buildSliceV rfl (prS (ev_c fa _) (prS (ev_c fa _) (prS (ev_c fa _) (prS (ev_c fa _) pr0)))) Try.underlying25 (size:=1) (by kernel_rfl) (by decide) (by decide) Try.zeroValue3 (cells:=#[.int .i64 1,.int .i64 2,.int .i64 0,.int .i64 0]) (by kernel_rfl)) ?_;clear F fa;intro fa w24 F hw
 obtain ⟨n92,hn⟩ : ∃ n,n = w23.heap.size:=⟨_,rfl⟩
 rw [← hn] at F
 have s92 : w23.heap.size ≤ n92:=Nat.le_of_eq hn.symm
 have l92_E : w.heap.size ≤ n92:=by rw [hn];exact E.size
 have l92_Evr1 : wvr1.heap.size ≤ n92:=by rw [hn];exact Evr1.size
 have l92_Evr3 : wvr3.heap.size ≤ n92:=by rw [hn];exact Evr3.size
 have l92_Evr5 : wvr5.heap.size ≤ n92:=by rw [hn];exact Evr5.size
 have l92_Evr6 : wvr6.heap.size ≤ n92:=by rw [hn];exact Evr6.size
 have m92_17 : n17 < n92:=by rw [hn];exact blk_lt q17
 have m92_23 : n23 < n92:=by rw [hn];exact blk_lt q23
 have m92_30 : n30 < n92:=by rw [hn];exact blk_lt q30
 have m92_32 : n32 < n92:=by rw [hn];exact blk_lt q32
 have m92_52 : n52 < n92:=by rw [hn];exact blk_lt q52
 replace q17:=keep_alloc hw q17
 replace q23:=keep_alloc hw q23
 replace q30:=keep_alloc hw q30
 replace q32:=keep_alloc hw q32
 replace q52:=keep_alloc hw q52
 replace E:=ext_alloc E hw
 replace Evr1:=ext_alloc Evr1 hw
 replace Evr3:=ext_alloc Evr3 hw
 replace Evr5:=ext_alloc Evr5 hw
 replace Evr6:=ext_alloc Evr6 hw
 have q92:=new_block hw hn
 clear hw hn
 refine sq_call F rfl (by decide) (wantT F rfl rfl (by decide) rfl) (R_callV rfl rfl Try.call22 (mpS (F.at rfl) (mpS (F.at rfl) mp0))) (sameInts_any [1,2,0,0] [1,2,0,0] r1 (some ⟨n92,0,none⟩) k1 4 _ (hr1.ext Evr1 (by simp)) (rows_lit [1,2,0,0] 4 q92) (by decide) (by decide)) fun e w25 hR=>?_
 obtain ⟨rfl,e9⟩:=hR
 refine ⟨_,rfl,?_⟩;clear F fa;intro fa F
 replace q17:=(e9).keep0 q17
 replace q23:=(e9).keep0 q23
 replace q30:=(e9).keep0 q30
 replace q32:=(e9).keep0 q32
 replace q52:=(e9).keep0 q52
 replace q92:=(e9).keep0 q92
 replace E:=ext_same E (e9)
 replace Evr1:=ext_same Evr1 (e9)
 replace Evr3:=ext_same Evr3 (e9)
 replace Evr5:=ext_same Evr5 (e9)
 replace Evr6:=ext_same Evr6 (e9)
 clear e9
 refine F.vl (R_pickT rfl (F.at rfl) (F.at rfl)) ?_;clear F fa;intro fa F
 refine F.mv ?_;clear F fa;intro fa F
 refine F.mv ?_ (hw:=(wantT F rfl rfl (by decide) rfl));clear F fa;intro fa F
 refine sq_new F rfl (by decide) (wantT F rfl rfl (by decide) rfl) (R_buildSliceV rfl (prS (ev_c fa _) (prS (ev_c fa _) (prS (ev_c fa _) (prS (ev_c fa _) pr0)))) Try.underlying25 (size:=1) (by kernel_rfl) (by decide) (by decide) Try.zeroValue3 (cells:=#[.int .i64 1,.int .i64 1,.int .i64 0,.int .i64 0]) (by kernel_rfl)) ?_;clear F fa;intro fa w26 F hw
 obtain ⟨n97,hn⟩ : ∃ n,n = w25.heap.size:=⟨_,rfl⟩
 rw [← hn] at F
 have s97 : w25.heap.size ≤ n97:=Nat.le_of_eq hn.symm
 have l97_E : w.heap.size ≤ n97:=by rw [hn];exact E.size
 have l97_Evr1 : wvr1.heap.size ≤ n97:=by rw [hn];exact Evr1.size
 have l97_Evr3 : wvr3.heap.size ≤ n97:=by rw [hn];exact Evr3.size
 have l97_Evr5 : wvr5.heap.size ≤ n97:=by rw [hn];exact Evr5.size
 have l97_Evr6 : wvr6.heap.size ≤ n97:=by rw [hn];exact Evr6.size
 have m97_17 : n17 < n97:=by rw [hn];exact blk_lt q17
 have m97_23 : n23 < n97:=by rw [hn];exact blk_lt q23
 have m97_30 : n30 < n97:=by rw [hn];exact blk_lt q30
 have m97_32 : n32 < n97:=by rw [hn];exact blk_lt q32
 have m97_52 : n52 < n97:=by rw [hn];exact blk_lt q52
 have m97_92 : n92 < n97:=by rw [hn];exact blk_lt q92
 replace q17:=keep_alloc hw q17
 replace q23:=keep_alloc hw q23
 replace q30:=keep_alloc hw q30
 replace q32:=keep_alloc hw q32
 replace q52:=keep_alloc hw q52
 replace q92:=keep_alloc hw q92
 replace E:=ext_alloc E hw
 replace Evr1:=ext_alloc Evr1 hw
 replace Evr3:=ext_alloc Evr3 hw
 replace Evr5:=ext_alloc Evr5 hw
 replace Evr6:=ext_alloc Evr6 hw
 have q97:=new_block hw hn
 clear hw hn
 refine sq_call F rfl (by decide) (wantT F rfl rfl (by decide) rfl) (R_callV rfl rfl Try.call22 (mpS (F.at rfl) (mpS (F.at rfl) mp0))) (sameInts_any [1,1,0,0] [1,1,0,0] r3 (some ⟨n97,0,none⟩) k3 4 _ (hr3.ext Evr3 (by simp)) (rows_lit [1,1,0,0] 4 q97) (by decide) (by decide)) fun e w27 hR=>?_
 obtain ⟨rfl,e9⟩:=hR
 refine ⟨_,rfl,?_⟩;clear F fa;intro fa F
 replace q17:=(e9).keep0 q17
 replace q23:=(e9).keep0 q23
 replace q30:=(e9).keep0 q30
 replace q32:=(e9).keep0 q32
 replace q52:=(e9).keep0 q52
 replace q92:=(e9).keep0 q92
 replace q97:=(e9).keep0 q97
 replace E:=ext_same E (e9)
 replace Evr1:=ext_same Evr1 (e9)
 replace Evr3:=ext_same Evr3 (e9)
 replace Evr5:=ext_same Evr5 (e9)
 replace Evr6:=ext_same Evr6 (e9)
 clear e9
 refine F.vl (R_pickT rfl (F.at rfl) (F.at rfl)) ?_;clear F fa;intro fa F
 refine F.mv ?_;clear F fa;intro fa F
 refine F.mv ?_ (hw:=(wantT F rfl rfl (by decide) rfl));clear F fa;intro fa F
 refine sq_new F rfl (by decide) (wantT F rfl rfl (by decide) rfl) (R_buildSliceV rfl (prS (ev_c fa _) (prS (ev_c fa _) (prS (ev_c fa _) (prS (ev_c fa _) pr0)))) Try.underlying25 (size:=1) (by kernel_rfl) (by decide) (by decide) Try.zeroValue3 (cells:=#[.int .i64 1,.int .i64 2,.int .i64 3,.int .i64 0]) (by kernel_rfl)) ?_;clear F fa;intro fa w28 F hw
 obtain ⟨n102,hn⟩ : ∃ n,n = w27.heap.size:=⟨_,rfl⟩
 rw [← hn] at F
 have s102 : w27.heap.size ≤ n102:=Nat.le_of_eq hn.symm
 have l102_E : w.heap.size ≤ n102:=by rw [hn];exact E.size
 have l102_Evr1 : wvr1.heap.size ≤ n102:=by rw [hn];exact Evr1.size
 have l102_Evr3 : wvr3.heap.size ≤ n102:=by rw [hn];exact Evr3.size
 have l102_Evr5 : wvr5.heap.size ≤ n102:=by rw [hn];exact Evr5.size
 have l102_Evr6 : wvr6.heap.size ≤ n102:=by rw [hn];exact Evr6.size
 have m102_17 : n17 < n102:=by rw [hn];exact blk_lt q17
 have m102_23 : n23 < n102:=by rw [hn];exact blk_lt q23
 have m102_30 : n30 < n102:=by rw [hn];exact blk_lt q30
 have m102_32 : n32 < n102:=by rw [hn];exact blk_lt q32
 have m102_52 : n52 < n102:=by rw [hn];exact blk_lt q52
 have m102_92 : n92 < n102:=by rw [hn];exact blk_lt q92
 have m102_97 : n97 < n102:=by rw [hn];exact blk_lt q97
 replace q17:=keep_alloc hw q17
 replace q23:=keep_alloc hw q23
 replace q30:=keep_alloc hw q30
 replace q32:=keep_alloc hw q32
 replace q52:=keep_alloc hw q52
 replace q92:=keep_alloc hw q92
 replace q97:=keep_alloc hw q97
 replace E:=ext_alloc E hw
 replace Evr1:=ext_alloc Evr1 hw
 replace Evr3:=ext_alloc Evr3 hw
 replace Evr5:=ext_alloc Evr5 hw
 replace Evr6:=ext_alloc Evr6 hw
 have q102:=new_block hw hn
 clear hw hn
 refine sq_call F rfl (by decide) (wantT F rfl rfl (by decide) rfl) (R_callV rfl rfl Try.call22 (mpS (F.at rfl) (mpS (F.at rfl) mp0))) (sameInts_any [1,2,3,0] [1,2,3,0] r5 (some ⟨n102,0,none⟩) k5 4 _ (hr5.ext Evr5 (by simp)) (rows_lit [1,2,3,0] 4 q102) (by decide) (by decide)) fun e w29 hR=>?_
 obtain ⟨rfl,e9⟩:=hR
 refine ⟨_,rfl,?_⟩;clear F fa;intro fa F
 replace q17:=(e9).keep0 q17
 replace q23:=(e9).keep0 q23
 replace q30:=(e9).keep0 q30
 replace q32:=(e9).keep0 q32
 replace q52:=(e9).keep0 q52
 replace q92:=(e9).keep0 q92
 replace q97:=(e9).keep0 q97
 replace q102:=(e9).keep0 q102
 replace E:=ext_same E (e9)
 replace Evr1:=ext_same Evr1 (e9)
 replace Evr3:=ext_same Evr3 (e9)
 replace Evr5:=ext_same Evr5 (e9)
 replace Evr6:=ext_same Evr6 (e9)
 clear e9
 refine F.vl (R_pickT rfl (F.at rfl) (F.at rfl)) ?_;clear F fa;intro fa F
 refine F.mv ?_;clear F fa;intro fa F
 refine F.mv ?_ (hw:=(wantT F rfl rfl (by decide) rfl));clear F fa;intro fa F
 refine sq_new F rfl (by decide) (wantT F rfl rfl (by decide) rfl) (R_buildSliceV rfl (prS (ev_c fa _) (prS (ev_c fa _) pr0)) Try.underlying25 (size:=1) (by kernel_rfl) (by decide) (by decide) Try.zeroValue3 (cells:=#[.int .i64 2,.int .i64 3]) (by kernel_rfl)) ?_;clear F fa;intro fa w30 F hw
 obtain ⟨n107,hn⟩ : ∃ n,n = w29.heap.size:=⟨_,rfl⟩
 rw [← hn] at F
 have s107 : w29.heap.size ≤ n107:=Nat.le_of_eq hn.symm
 have l107_E : w.heap.size ≤ n107:=by rw [hn];exact E.size
 have l107_Evr1 : wvr1.heap.size ≤ n107:=by rw [hn];exact Evr1.size
 have l107_Evr3 : wvr3.heap.size ≤ n107:=by rw [hn];exact Evr3.size
 have l107_Evr5 : wvr5.heap.size ≤ n107:=by rw [hn];exact Evr5.size
 have l107_Evr6 : wvr6.heap.size ≤ n107:=by rw [hn];exact Evr6.size
 have m107_17 : n17 < n107:=by rw [hn];exact blk_lt q17
 have m107_23 : n23 < n107:=by rw [hn];exact blk_lt q23
 have m107_30 : n30 < n107:=by rw [hn];exact blk_lt q30
 have m107_32 : n32 < n107:=by rw [hn];exact blk_lt q32
 have m107_52 : n52 < n107:=by rw [hn];exact blk_lt q52
 have m107_92 : n92 < n107:=by rw [hn];exact blk_lt q92
 have m107_97 : n97 < n107:=by rw [hn];exact blk_lt q97
 have m107_102 : n102 < n107:=by rw [hn];exact blk_lt q102
 replace q17:=keep_alloc hw q17
 replace q23:=keep_alloc hw q23
 replace q30:=keep_alloc hw q30
 replace q32:=keep_alloc hw q32
 replace q52:=keep_alloc hw q52
 replace q92:=keep_alloc hw q92
 replace q97:=keep_alloc hw q97
 replace q102:=keep_alloc hw q102
 replace E:=ext_alloc E hw
 replace Evr1:=ext_alloc Evr1 hw
 replace Evr3:=ext_alloc Evr3 hw
 replace Evr5:=ext_alloc Evr5 hw
 replace Evr6:=ext_alloc Evr6 hw
 have q107:=new_block hw hn
 clear hw hn
 refine sq_call F rfl (by decide) (wantT F rfl rfl (by decide) rfl) (R_callV rfl rfl Try.call22 (mpS (F.at rfl) (mpS (F.at rfl) mp0))) (sameInts_any [2,3] [2,3] r6 (some ⟨n107,0,none⟩) k6 2 _ (hr6.ext Evr6 (by simp)) (rows_lit [2,3] 2 q107) (by decide) (by decide)) fun e w31 hR=>?_
 obtain ⟨rfl,e9⟩:=hR
 refine ⟨_,rfl,?_⟩;clear F fa;intro fa F
 replace q17:=(e9).keep0 q17
 replace q23:=(e9).keep0 q23
 replace q30:=(e9).keep0 q30
 replace q32:=(e9).keep0 q32
 replace q52:=(e9).keep0 q52
 replace q92:=(e9).keep0 q92
 replace q97:=(e9).keep0 q97
 replace q102:=(e9).keep0 q102
 replace q107:=(e9).keep0 q107
 replace E:=ext_same E (e9)
 replace Evr1:=ext_same Evr1 (e9)
 replace Evr3:=ext_same Evr3 (e9)
 replace Evr5:=ext_same Evr5 (e9)
 replace Evr6:=ext_same Evr6 (e9)
 clear e9
 refine F.vl (R_pickT rfl (F.at rfl) (F.at rfl)) ?_;clear F fa;intro fa F
 refine F.as ?_;clear F fa;intro fa F
 refine wpList_nil ?_
 refine hK8 _ _ ?_
 clear hK8
 refine wp_ret ?_
 (try simp only [Exit.inBlock,Exit.then,reduceIte])
 refine rt_v F (rs_1 F rfl rfl) ?_
 exact ⟨rfl,E⟩
set_option maxRecDepth 100000 in
theorem tonesOf_any (w0 w : World) (b k : Nat) (nv : Value) (many : Nat) (most : Int) (h : LotsOk w0 w b k nv) (hk : k ≤ 900000) (hm : many ≤ 1000) (h0 : 0 ≤ most) (h1 : most ≤ 1000) :
  Calls Try.prog 90 #[.pointer (some ⟨b,0,none⟩),.int .i64 ((many : Nat) : Int),.int .i64 most] w fun e w'=>∃ (a : Option Addr) (c : Nat) (xs : List Int),e = .returned (.slice a many c) ∧ xs.length = many ∧ (∀ n ∈ xs,0 ≤ n ∧ n ≤ most) ∧ w'.ownsRow w.heap.size 3 1 (.slice a many c) many (ivs xs) ∧ LotsOk w0 w' b (k + 1 + 2 * many) nv ∧ Ext [b] w w':=by
 have HL:=h
 have hbw:=lots_lt HL
 have hws : w0.heap.size ≤ w.heap.size:=HL.2.2.1.size
 have E : Ext [b] w w:=Ext.refl _ _
 have oo : w.ownsRow w.heap.size 3 1 (.slice none 0 0) 0 (ivs []):=World.ownsRow_nil _ _ _ _
 clear h
 refine calls_has 33 Try.func90 rfl Try.ntmps90 (Nat.le_of_ble_eq_true rfl) ?_
 intro fa F
 refine wp_seq_k fun K1 hK1=>?_
 refine wp_region_lit ?_
 refine F.vl (R_assign rfl (ev_c fa _)) ?_;clear F fa;intro fa F
 refine wpList_nil ?_
 refine hK1 _ _ ?_
 clear hK1
 refine wp_seq_k fun K2 hK2=>?_
 refine wp_region_lit ?_
 refine F.vl (R_assign rfl (ev_c fa _)) ?_;clear F fa;intro fa F
 refine wpList_nil ?_
 refine hK2 _ _ ?_
 clear hK2
 refine wp_seq_k fun K3 hK3=>?_
 refine wp_region_lit ?_
 refine F.mv ?_;clear F fa;intro fa F
 refine sq_call F rfl (by decide) rfl (R_callV rfl rfl Try.call52 (mpS (F.at rfl) (mpS (ev_c fa _) mp0))) (rare_any w0 _ b _ nv 2 HL (by omega) (by omega) (by omega)) fun e w1 hR=>?_
 obtain ⟨r,rfl,HL,e9⟩:=hR
 refine ⟨_,rfl,?_⟩;clear F fa;intro fa F
 replace oo:=owns_ext oo (e9) (by simp;omega)
 replace E:=E.trans' e9 (fun i hi hl=>by simp only [List.mem_cons,List.not_mem_nil,or_false] at hi ⊢;omega)
 refine F.as ?_;clear F fa;intro fa F
 refine wpList_nil ?_
 refine hK3 _ _ ?_
 clear hK3
 refine wp_seq_k fun K4 hK4=>?_
 refine wp_seq_k fun K5 hK5=>?_
 refine wp_region_lit ?_
 refine F.vl (R_assign rfl (ev_c fa _)) ?_;clear F fa;intro fa F
 refine wpList_nil ?_
 refine hK5 _ _ ?_
 clear hK5
 refine wp_block ?_
 have F0:=F.sub (.c 0 rfl (.c 1 rfl (.c 2 rfl (.c 8 rfl .n))))
 replace HL : LotsOk w0 w1 b (k + 1 + 2 * 0) nv:=lots_mono HL (by omega)
 refine lp_for F0 (many) (fun i Lv W=>∃ va : Option Addr,∃ vc : Nat,∃ xs : List Int,Lv = [(7,.slice va i vc),(9,.int .i64 ((i : Nat) : Int))] ∧ Ext [b] w W ∧ LotsOk w0 W b (k + 1 + 2 * i) nv ∧ W.ownsRow w.heap.size 3 1 (.slice va i vc) i (ivs xs) ∧ xs.length = i ∧ ∀ n ∈ xs,0 ≤ n ∧ n ≤ most) ⟨_,⟨none,0,[],rfl,E,HL,oo,rfl,(by simp)⟩,F.sub (.c 7 rfl (.c 9 rfl (.c 0 rfl (.c 1 rfl (.c 2 rfl (.c 8 rfl .n))))))⟩ ?_
 clear F F0
 clear E HL
 clear oo
 rintro i _ fa w2 hi1 ⟨va,vc,xs,rfl,E,HL,oo,hxl,hxb⟩ F
 refine wp_seq_k fun K6 hK6=>?_
 refine wp_seq_k fun K7 hK7=>?_
 refine wp_region_lit ?_
 refine F.mv ?_;clear F fa;intro fa F
 refine F.mv ?_;clear F fa;intro fa F
 refine F.vl (R_lss rfl (F.at rfl) (F.at rfl)) ?_;clear F fa;intro fa F
 refine wpList_nil ?_
 refine hK7 _ _ ?_
 clear hK7
 refine cd_if F rfl (fun hc14=>?_) (fun hc14=>?_)
 ·skip
  refine wp_skip ?_
  refine hK6 _ _ ?_
  clear hK6
  refine wp_seq_k fun K8 hK8=>?_
  refine wp_block ?_
  refine wp_seq_k fun K9 hK9=>?_
  refine wp_region_lit ?_
  refine F.mv ?_;clear F fa;intro fa F
  refine F.mv ?_;clear F fa;intro fa F
  cases hg1 : r
  ·skip
   replace F:=F.re (k:=18) rfl (congrArg Value.bool hg1)
   refine sq_no F rfl (by decide) (wantF F rfl rfl (by decide) rfl (by decide)) ?_;clear F fa;intro fa F
   refine sq_no F rfl (by decide) (wantF F rfl rfl (by decide) rfl (by decide)) ?_;clear F fa;intro fa F
   refine sq_no F rfl (by decide) (wantF F rfl rfl (by decide) rfl (by decide)) ?_;clear F fa;intro fa F
   refine F.vl (R_pickF rfl (F.at rfl) (ev_c fa _)) ?_;clear F fa;intro fa F
   refine wpList_nil ?_
   refine hK9 _ _ ?_
   clear hK9
   refine cd_F F rfl ?_
   refine wp_region_lit ?_
   refine F.mv ?_;clear F fa;intro fa F
   refine F.mv ?_;clear F fa;intro fa F
   refine F.mv ?_;clear F fa;intro fa F
   refine sq_call F rfl (by decide) rfl (R_callV rfl rfl Try.call26 (mpS (F.at rfl) (mpS (F.at rfl) mp0))) (upto_any w0 _ b _ nv most HL (by omega) (by omega) (by omega)) fun e w3 hR=>?_
   obtain ⟨u,rfl,hu0,hu1,HL,e9⟩:=hR
   refine ⟨_,rfl,?_⟩;clear F fa;intro fa F
   replace oo:=owns_ext oo (e9) (by simp;omega)
   replace E:=E.trans' e9 (fun i hi hl=>by simp only [List.mem_cons,List.not_mem_nil,or_false] at hi ⊢;omega)
   refine sq_new F rfl (by decide) rfl (R_buildSliceV rfl (prS (F.at rfl) pr0) Try.underlying25 (size:=1) (by kernel_rfl) (by decide) (by decide) Try.zeroValue3 (cells:=#[.int .i64 u]) (by kernel_rfl)) ?_;clear F fa;intro fa w4 F hw
   obtain ⟨n30,hn⟩ : ∃ n,n = w3.heap.size:=⟨_,rfl⟩
   rw [← hn] at F
   have s30 : w3.heap.size ≤ n30:=Nat.le_of_eq hn.symm
   have l30_E : w.heap.size ≤ n30:=by rw [hn];exact E.size
   have b30_HL:=Nat.lt_of_lt_of_eq (lots_lt HL) hn.symm
   have o30_oo:=Lib.hid (own_ne_new oo hn)
   replace oo:=owns_alloc hw oo
   replace E:=ext_alloc E hw
   replace HL:=lots_alloc hw HL
   have q30:=new_block hw hn
   clear hw hn
   have hzE:=E.size
   refine sq_some F rfl (by decide) rfl (append_run rfl (w.heap.size) (e:=3) (size:=1) (bytes:=8) Try.underlying25 (by kernel_rfl) (by decide) (F.at rfl) oo (F.at rfl) q30 rfl (by simp [Value.oneCell']) (by omega) (by omega) (by omega)) ?_;clear F fa;rintro fa v' w5 F ⟨hown',hg⟩
   obtain ⟨va31,vc31,rfl⟩:=owns_slice hown'
   replace HL:=lots_append HL oo hg (by omega) (by decide)
   replace E:=ext_appendX E oo hg (by omega)
   replace oo:=hown'
   clear hg
   rw [ivs_snoc1] at oo
   have hx2 : (xs ++ [u]).length = i + 1:=by rw [List.length_append,hxl];rfl
   have hx3 : ∀ n ∈ xs ++ [u],0 ≤ n ∧ n ≤ most:=by intro n hn;rcases List.mem_append.1 hn with hn | hn;(· exact hxb n hn);(· simp at hn;subst hn;omega)
   refine F.as ?_;clear F fa;intro fa F
   refine wpList_nil ?_
   refine hK8 _ _ ?_
   clear hK8
   refine wp_region_lit ?_
   refine F.mv ?_;clear F fa;intro fa F
   refine F.vl (R_add rfl (F.at rfl) (ev_c fa _) (by omega) (by omega)) ?_;clear F fa;intro fa F
   refine F.as ?_;clear F fa;intro fa F
   refine wpList_nil ?_
   replace HL : LotsOk w0 w5 b (k + 1 + 2 * (i + 1)) nv:=lots_mono HL (by omega)
   show _ ∧ _
   exact ⟨by omega,_,⟨_,_,_,rfl,E,HL,oo,hx2,hx3⟩,F.sub (.c 7 rfl (.c 9 rfl (.c 0 rfl (.c 1 rfl (.c 2 rfl (.c 8 rfl .n))))))⟩
  ·skip
   replace F:=F.re (k:=18) rfl (congrArg Value.bool hg1)
   refine F.mv ?_ (hw:=(wantT F rfl rfl (by decide) rfl));clear F fa;intro fa F
   refine sq_call F rfl (by decide) (wantT F rfl rfl (by decide) rfl) (R_callV rfl rfl Try.call52 (mpS (F.at rfl) (mpS (ev_c fa _) mp0))) (rare_any w0 _ b _ nv 2 HL (by omega) (by omega) (by omega)) fun e w6 hR=>?_
   obtain ⟨r2,rfl,HL,e9⟩:=hR
   refine ⟨_,rfl,?_⟩;clear F fa;intro fa F
   replace oo:=owns_ext oo (e9) (by simp;omega)
   replace E:=E.trans' e9 (fun i hi hl=>by simp only [List.mem_cons,List.not_mem_nil,or_false] at hi ⊢;omega)
   refine F.vl (R_not rfl (F.at rfl)) ?_ (hw:=(wantT F rfl rfl (by decide) rfl));clear F fa;intro fa F
   refine F.vl (R_pickT rfl (F.at rfl) (F.at rfl)) ?_;clear F fa;intro fa F
   refine wpList_nil ?_
   refine hK9 _ _ ?_
   clear hK9
   refine cd_b F rfl (fun hc22=>?_) (fun hc22=>?_)
   ·skip
    refine wp_region_lit ?_
    refine F.mv ?_;clear F fa;intro fa F
    refine sq_new F rfl (by decide) rfl (R_buildSliceV rfl (prS (ev_c fa _) pr0) Try.underlying25 (size:=1) (by kernel_rfl) (by decide) (by decide) Try.zeroValue3 (cells:=#[.int .i64 0]) (by kernel_rfl)) ?_;clear F fa;intro fa w7 F hw
    obtain ⟨n24,hn⟩ : ∃ n,n = w6.heap.size:=⟨_,rfl⟩
    rw [← hn] at F
    have s24 : w6.heap.size ≤ n24:=Nat.le_of_eq hn.symm
    have l24_E : w.heap.size ≤ n24:=by rw [hn];exact E.size
    have b24_HL:=Nat.lt_of_lt_of_eq (lots_lt HL) hn.symm
    have o24_oo:=Lib.hid (own_ne_new oo hn)
    replace oo:=owns_alloc hw oo
    replace E:=ext_alloc E hw
    replace HL:=lots_alloc hw HL
    have q24:=new_block hw hn
    clear hw hn
    have hzE:=E.size
    refine sq_some F rfl (by decide) rfl (append_run rfl (w.heap.size) (e:=3) (size:=1) (bytes:=8) Try.underlying25 (by kernel_rfl) (by decide) (F.at rfl) oo (F.at rfl) q24 rfl (by simp [Value.oneCell']) (by omega) (by omega) (by omega)) ?_;clear F fa;rintro fa v' w8 F ⟨hown',hg⟩
    obtain ⟨va25,vc25,rfl⟩:=owns_slice hown'
    replace HL:=lots_append HL oo hg (by omega) (by decide)
    replace E:=ext_appendX E oo hg (by omega)
    replace oo:=hown'
    clear hg
    rw [ivs_snoc1] at oo
    have hx2 : (xs ++ [(0 : Int)]).length = i + 1:=by rw [List.length_append,hxl];rfl
    have hx3 : ∀ n ∈ xs ++ [(0 : Int)],0 ≤ n ∧ n ≤ most:=by intro n hn;rcases List.mem_append.1 hn with hn | hn;(· exact hxb n hn);(· simp at hn;omega)
    refine F.as ?_;clear F fa;intro fa F
    refine wpList_nil ?_
    refine hK8 _ _ ?_
    clear hK8
    refine wp_region_lit ?_
    refine F.mv ?_;clear F fa;intro fa F
    refine F.vl (R_add rfl (F.at rfl) (ev_c fa _) (by omega) (by omega)) ?_;clear F fa;intro fa F
    refine F.as ?_;clear F fa;intro fa F
    refine wpList_nil ?_
    replace HL : LotsOk w0 w8 b (k + 1 + 2 * (i + 1)) nv:=lots_mono HL (by omega)
    show _ ∧ _
    exact ⟨by omega,_,⟨_,_,_,rfl,E,HL,oo,hx2,hx3⟩,F.sub (.c 7 rfl (.c 9 rfl (.c 0 rfl (.c 1 rfl (.c 2 rfl (.c 8 rfl .n))))))⟩
   ·skip
    refine wp_region_lit ?_
    refine F.mv ?_;clear F fa;intro fa F
    refine F.mv ?_;clear F fa;intro fa F
    refine F.mv ?_;clear F fa;intro fa F
    refine sq_call F rfl (by decide) rfl (R_callV rfl rfl Try.call26 (mpS (F.at rfl) (mpS (F.at rfl) mp0))) (upto_any w0 _ b _ nv most HL (by omega) (by omega) (by omega)) fun e w9 hR=>?_
    obtain ⟨u,rfl,hu0,hu1,HL,e9⟩:=hR
    refine ⟨_,rfl,?_⟩;clear F fa;intro fa F
    replace oo:=owns_ext oo (e9) (by simp;omega)
    replace E:=E.trans' e9 (fun i hi hl=>by simp only [List.mem_cons,List.not_mem_nil,or_false] at hi ⊢;omega)
    refine sq_new F rfl (by decide) rfl (R_buildSliceV rfl (prS (F.at rfl) pr0) Try.underlying25 (size:=1) (by kernel_rfl) (by decide) (by decide) Try.zeroValue3 (cells:=#[.int .i64 u]) (by kernel_rfl)) ?_;clear F fa;intro fa w10 F hw
    obtain ⟨n30,hn⟩ : ∃ n,n = w9.heap.size:=⟨_,rfl⟩
    rw [← hn] at F
    have s30 : w9.heap.size ≤ n30:=Nat.le_of_eq hn.symm
    have l30_E : w.heap.size ≤ n30:=by rw [hn];exact E.size
    have b30_HL:=Nat.lt_of_lt_of_eq (lots_lt HL) hn.symm
    have o30_oo:=Lib.hid (own_ne_new oo hn)
    replace oo:=owns_alloc hw oo
    replace E:=ext_alloc E hw
    replace HL:=lots_alloc hw HL
    have q30:=new_block hw hn
    clear hw hn
    have hzE:=E.size
    refine sq_some F rfl (by decide) rfl (append_run rfl (w.heap.size) (e:=3) (size:=1) (bytes:=8) Try.underlying25 (by kernel_rfl) (by decide) (F.at rfl) oo (F.at rfl) q30 rfl (by simp [Value.oneCell']) (by omega) (by omega) (by omega)) ?_;clear F fa;rintro fa v' w11 F ⟨hown',hg⟩
    obtain ⟨va31,vc31,rfl⟩:=owns_slice hown'
    replace HL:=lots_append HL oo hg (by omega) (by decide)
    replace E:=ext_appendX E oo hg (by omega)
    replace oo:=hown'
    clear hg
    rw [ivs_snoc1] at oo
    have hx2 : (xs ++ [u]).length = i + 1:=by rw [List.length_append,hxl];rfl
    have hx3 : ∀ n ∈ xs ++ [u],0 ≤ n ∧ n ≤ most:=by intro n hn;rcases List.mem_append.1 hn with hn | hn;(· exact hxb n hn);(· simp at hn;subst hn;omega)
    refine F.as ?_;clear F fa;intro fa F
    refine wpList_nil ?_
    refine hK8 _ _ ?_
    clear hK8
    refine wp_region_lit ?_
    refine F.mv ?_;clear F fa;intro fa F
    refine F.vl (R_add rfl (F.at rfl) (ev_c fa _) (by omega) (by omega)) ?_;clear F fa;intro fa F
    refine F.as ?_;clear F fa;intro fa F
    refine wpList_nil ?_
    replace HL : LotsOk w0 w11 b (k + 1 + 2 * (i + 1)) nv:=lots_mono HL (by omega)
    show _ ∧ _
    exact ⟨by omega,_,⟨_,_,_,rfl,E,HL,oo,hx2,hx3⟩,F.sub (.c 7 rfl (.c 9 rfl (.c 0 rfl (.c 1 rfl (.c 2 rfl (.c 8 rfl .n))))))⟩
 ·skip
  refine wp_exit ?_
  refine hK4 _ _ ?_
  clear hK4
  refine wp_seq_k fun K10 hK10=>?_
  refine wp_region_lit ?_
  refine F.mv ?_;clear F fa;intro fa F
  refine F.as ?_;clear F fa;intro fa F
  refine wpList_nil ?_
  refine hK10 _ _ ?_
  clear hK10
  refine wp_ret ?_
  (try simp only [Exit.inBlock,Exit.then,reduceIte])
  refine rt_v F (rs_1 F rfl rfl) ?_
  have hi:=show i = many by omega
  subst hi
  exact ⟨va,vc,xs,rfl,hxl,hxb,oo,HL,E⟩
set_option maxRecDepth 100000 in
theorem isIn_any (M : List (Value × List Int)) (xs : List Int) (a b : Option Addr) (c d : Nat) (w : World) (h : LolAt w a M) (hx : IsRows w (.slice b xs.length d) 1 (xs.map intRow)) (hm : M.length ≤ 1000) (hs : ∀ p ∈ M,p.2.length ≤ 1000) (hl : xs.length ≤ 1000) :
  Calls Try.prog 91 #[.slice a M.length c,.slice b xs.length d] w fun e w'=>e = .returned (.bool (decide (xs ∈ M.map (·.2)))) ∧ Ext [] w w':=by
 have E : Ext [] w w:=Ext.refl _ _
 have HL:=Lib.hid h
 have HS:=Lib.hid h.1
 have HX:=Lib.hid hx
 have Hs:=Lib.hid hs
 clear h hx hs
 refine calls_has 18 Try.func91 rfl Try.ntmps91 (Nat.le_of_ble_eq_true rfl) ?_
 intro fa F
 refine wp_seq_k fun K1 hK1=>?_
 refine wp_region_lit ?_
 refine F.vl (R_assign rfl (ev_c fa _)) ?_;clear F fa;intro fa F
 refine wpList_nil ?_
 refine hK1 _ _ ?_
 clear hK1
 refine wp_seq_k fun K2 hK2=>?_
 refine wp_seq_k fun K3 hK3=>?_
 refine wp_region_lit ?_
 refine F.vl (R_assign rfl (ev_c fa _)) ?_;clear F fa;intro fa F
 refine wpList_nil ?_
 refine hK3 _ _ ?_
 clear hK3
 refine wp_block ?_
 have F0:=F.sub (.c 0 rfl (.c 1 rfl .n))
 refine lp_for F0 (M.length) (fun i Lv W=>Lv = [(5,.int .i64 ((i : Nat) : Int))] ∧ Ext [] w W ∧ ∀ j,j < i → (M.getD j (.bool true,[])).2 ≠ xs) ⟨_,⟨rfl,E,(fun j h=>by omega)⟩,F.sub (.c 5 rfl (.c 0 rfl (.c 1 rfl .n)))⟩ ?_
 clear F F0
 clear E
 rintro i _ fa w1 hi1 ⟨rfl,E,hno⟩ F
 refine wp_seq_k fun K4 hK4=>?_
 refine wp_seq_k fun K5 hK5=>?_
 refine wp_region_lit ?_
 refine F.mv ?_;clear F fa;intro fa F
 refine F.mv ?_;clear F fa;intro fa F
 refine F.vl (R_len rfl rfl (F.at rfl) Try.underlying22) ?_;clear F fa;intro fa F
 refine F.vl (R_lss rfl (F.at rfl) (F.at rfl)) ?_;clear F fa;intro fa F
 refine wpList_nil ?_
 refine hK5 _ _ ?_
 clear hK5
 refine cd_if F rfl (fun hc9=>?_) (fun hc9=>?_)
 ·skip
  refine wp_skip ?_
  refine hK4 _ _ ?_
  clear hK4
  refine wp_seq_k fun K6 hK6=>?_
  refine wp_block ?_
  refine wp_seq_k fun K7 hK7=>?_
  obtain ⟨la,lca,hla,hlr⟩:=HL.out.2 _ (getD_mem (.bool true,[]) (show i < M.length by omega))
  have hsz:=Hs.out _ (getD_mem (.bool true,[]) (show i < M.length by omega))
  refine wp_region_lit ?_
  refine F.mv ?_;clear F fa;intro fa F
  refine F.mv ?_;clear F fa;intro fa F
  obtain ⟨xb8,xo8,xa8,xr8⟩:=HS.out i (by omega)
  refine F.vl (R_ixSlice (sz:=1) rfl ((F.at rfl).trans (xa8 _ _)) (F.at rfl) Try.underlying22 (by kernel_rfl) (by omega) (by omega)) ?_;clear F fa;intro fa F
  refine F.vl (R_load rfl (F.at rfl) Try.underlying25 rfl (xr8 _ E 0 _ rfl)) ?_;clear F fa;intro fa F
  rw [hla] at F
  refine F.mv ?_;clear F fa;intro fa F
  refine sq_call F rfl (by decide) rfl (R_callV rfl rfl Try.call22 (mpS (F.at rfl) (mpS (F.at rfl) mp0))) (sameInts_any (M.getD i (.bool true,[])).2 xs la b lca d _ (hlr.ext E (by simp)) (HX.out.ext E (by simp)) (by omega) (by omega)) fun e w2 hR=>?_
  obtain ⟨rfl,e9⟩:=hR
  refine ⟨_,rfl,?_⟩;clear F fa;intro fa F
  replace E:=ext_same E (e9)
  clear e9
  refine wpList_nil ?_
  refine hK7 _ _ ?_
  clear hK7
  refine cd_if F rfl (fun hc17=>?_) (fun hc17=>?_)
  ·skip
   refine wp_seq_k fun K9 hK9=>?_
   refine wp_region_lit ?_
   refine F.vl (R_assign rfl (ev_c fa _)) ?_;clear F fa;intro fa F
   refine wpList_nil ?_
   refine hK9 _ _ ?_
   clear hK9
   refine wp_ret ?_
   (try simp only [Exit.inBlock,Exit.then,reduceIte])
   refine rt_v F (rs_1 F rfl rfl) ?_
   exact ⟨ret_bool (by rw [decide_eq_true];exact List.mem_map.2 ⟨_,getD_mem (.bool true,[]) (show i < M.length by omega),by simpa using hc17⟩),E⟩
  ·skip
   refine wp_skip ?_
   refine hK6 _ _ ?_
   clear hK6
   refine wp_region_lit ?_
   refine F.mv ?_;clear F fa;intro fa F
   refine F.vl (R_add rfl (F.at rfl) (ev_c fa _) (by omega) (by omega)) ?_;clear F fa;intro fa F
   refine F.as ?_;clear F fa;intro fa F
   refine wpList_nil ?_
   show _ ∧ _
   exact ⟨by omega,_,⟨rfl,E,(fun j h=>by rcases Nat.lt_succ_iff_lt_or_eq.1 h with h | rfl;(· exact hno j h);(· exact hc17))⟩,F.sub (.c 5 rfl (.c 0 rfl (.c 1 rfl .n)))⟩
 ·skip
  refine wp_exit ?_
  refine hK2 _ _ ?_
  clear hK2
  refine wp_seq_k fun K10 hK10=>?_
  refine wp_region_lit ?_
  refine F.vl (R_assign rfl (ev_c fa _)) ?_;clear F fa;intro fa F
  refine wpList_nil ?_
  refine hK10 _ _ ?_
  clear hK10
  refine wp_ret ?_
  (try simp only [Exit.inBlock,Exit.then,reduceIte])
  refine rt_v F (rs_1 F rfl rfl) ?_
  exact ⟨ret_bool (by rw [decide_eq_false];intro hm;obtain ⟨p,hp,he⟩:=List.mem_map.1 hm;obtain ⟨j,hj,rfl⟩:=List.getElem_of_mem hp;have:=hno j (by omega);simp [hj] at this;exact this he),E⟩
end Go.Proofs.Ytdjeecgddbjbeaa
