/- The vat, the sample and the cloths of the chapter's examples. No conditions. -/
import Derived.Test.YtdjeecgddbjbeaaDsd
namespace Go.Proofs.Ytdjeecgddbjbeaa
open Go.RowKit
set_option linter.unusedVariables false
set_option linter.unusedSimpArgs false
theorem slAt_lit {w : World} {b : Nat} {T : TypeId} {fz : Nat × Nat} (L : List (Value × List Int)) (h : w.heap[b]? = some (.cells (L.map (·.1)).toArray T fz)) : SlAt [] w (some ⟨b, 0, none⟩) 1 L.length (fun i => [(L.getD i (.bool true, [])).1]) := fun i hi =>
  ⟨b, 0, fun _ _ => rfl, fun W e j v hv => by
    obtain rfl : j = 0 := by
      rcases j with _ | j
      · rfl
      · simp at hv
    rw [cells_of_block (e.keep0 h)]
    simp only [List.getElem?_cons_zero, Option.some.injEq] at hv
    subst hv
    simp [hi]⟩
theorem lol_lit {w : World} {b : Nat} {T : TypeId} {fz : Nat × Nat} (L : List (Value × List Int)) (h : w.heap[b]? = some (.cells (L.map (·.1)).toArray T fz)) (hr : ∀ p ∈ L, RowOf w p.1 p.2) : LolAt w (some ⟨b, 0, none⟩) L := ⟨slAt_lit L h, hr⟩
theorem row_lit {w : World} {b : Nat} {T : TypeId} {fz : Nat × Nat} (xs : List Int) (h : w.heap[b]? = some (.cells (xs.map (Value.int .i64)).toArray T fz)) : RowOf w (.slice (some ⟨b, 0, none⟩) xs.length xs.length) xs := ⟨_, _, rfl, rows_lit xs _ h⟩
def vatD : List (List Int) := [[9, 0, 0], [0, 9, 0], [0, 0, 9], [3, 3, 3]]
def vatL : List (List Int) := [[1, 1, 1], [3, 1, 0]]
/-- The vat of the examples. -/
structure IsVat (x : Vm) : Prop where
  b : x.B = 3
  t : x.tol = 1
  d : x.D.map (·.2) = vatD
  l : x.L.map (·.2) = vatL
set_option maxRecDepth 100000 in
theorem vat_any (w : World) : Calls Try.prog 44 #[] w fun e w' => ∃ x : Vm, e = .returned (.agg #[.int .i64 x.B, .slice x.da x.D.length x.dc, .slice x.la x.L.length x.lc, .int .i64 x.tol]) ∧ IsVat x ∧ x.At w' ∧ Ext [] w w' := by
  have E : Ext [] w w := Ext.refl _ _
  refine calls_has 10 Try.func44 rfl Try.ntmps44 (Nat.le_of_ble_eq_true rfl) ?_
  intro fa F
  refine wp_seq_k fun K1 hK1 => ?_
  refine wp_region_lit ?_
  refine sq_new F rfl (by decide) rfl (R_alloc rfl Try.zeroValue24) ?_; clear F fa; intro fa w1 F hw
  obtain ⟨n0, hn⟩ : ∃ n, n = w.heap.size := ⟨_, rfl⟩
  rw [← hn] at F
  have s0 : w.heap.size ≤ n0 := Nat.le_of_eq hn.symm
  have l0_E : w.heap.size ≤ n0 := by rw [hn]; exact E.size
  replace E := ext_alloc E hw
  have q0 := new_row hw hn
  clear hw hn
  refine wpList_nil ?_
  refine hK1 _ _ ?_
  clear hK1
  refine wp_seq_k fun K2 hK2 => ?_
  refine wp_region_lit ?_
  refine sq_new F rfl (by decide) rfl (R_buildSliceV rfl (prS (ev_c fa _) (prS (ev_c fa _) (prS (ev_c fa _) pr0))) Try.underlying25 (size := 1) (by kernel_rfl) (by decide) (by decide) Try.zeroValue3 (cells := #[.int .i64 9, .int .i64 0, .int .i64 0]) (by kernel_rfl)) ?_; clear F fa; intro fa w2 F hw
  obtain ⟨n1, hn⟩ : ∃ n, n = w1.heap.size := ⟨_, rfl⟩
  rw [← hn] at F
  have s1 : w1.heap.size ≤ n1 := Nat.le_of_eq hn.symm
  have l1_E : w.heap.size ≤ n1 := by rw [hn]; exact E.size
  have m1_0 : n0 < n1 := by rw [hn]; exact blk_lt q0
  replace q0 := keep_alloc hw q0
  replace E := ext_alloc E hw
  have q1 := new_block hw hn
  clear hw hn
  refine sq_new F rfl (by decide) rfl (R_buildSliceV rfl (prS (ev_c fa _) (prS (ev_c fa _) (prS (ev_c fa _) pr0))) Try.underlying25 (size := 1) (by kernel_rfl) (by decide) (by decide) Try.zeroValue3 (cells := #[.int .i64 0, .int .i64 9, .int .i64 0]) (by kernel_rfl)) ?_; clear F fa; intro fa w3 F hw
  obtain ⟨n2, hn⟩ : ∃ n, n = w2.heap.size := ⟨_, rfl⟩
  rw [← hn] at F
  have s2 : w2.heap.size ≤ n2 := Nat.le_of_eq hn.symm
  have l2_E : w.heap.size ≤ n2 := by rw [hn]; exact E.size
  have m2_0 : n0 < n2 := by rw [hn]; exact blk_lt q0
  have m2_1 : n1 < n2 := by rw [hn]; exact blk_lt q1
  replace q0 := keep_alloc hw q0
  replace q1 := keep_alloc hw q1
  replace E := ext_alloc E hw
  have q2 := new_block hw hn
  clear hw hn
  refine sq_new F rfl (by decide) rfl (R_buildSliceV rfl (prS (ev_c fa _) (prS (ev_c fa _) (prS (ev_c fa _) pr0))) Try.underlying25 (size := 1) (by kernel_rfl) (by decide) (by decide) Try.zeroValue3 (cells := #[.int .i64 0, .int .i64 0, .int .i64 9]) (by kernel_rfl)) ?_; clear F fa; intro fa w4 F hw
  obtain ⟨n3, hn⟩ : ∃ n, n = w3.heap.size := ⟨_, rfl⟩
  rw [← hn] at F
  have s3 : w3.heap.size ≤ n3 := Nat.le_of_eq hn.symm
  have l3_E : w.heap.size ≤ n3 := by rw [hn]; exact E.size
  have m3_0 : n0 < n3 := by rw [hn]; exact blk_lt q0
  have m3_1 : n1 < n3 := by rw [hn]; exact blk_lt q1
  have m3_2 : n2 < n3 := by rw [hn]; exact blk_lt q2
  replace q0 := keep_alloc hw q0
  replace q1 := keep_alloc hw q1
  replace q2 := keep_alloc hw q2
  replace E := ext_alloc E hw
  have q3 := new_block hw hn
  clear hw hn
  refine sq_new F rfl (by decide) rfl (R_buildSliceV rfl (prS (ev_c fa _) (prS (ev_c fa _) (prS (ev_c fa _) pr0))) Try.underlying25 (size := 1) (by kernel_rfl) (by decide) (by decide) Try.zeroValue3 (cells := #[.int .i64 3, .int .i64 3, .int .i64 3]) (by kernel_rfl)) ?_; clear F fa; intro fa w5 F hw
  obtain ⟨n4, hn⟩ : ∃ n, n = w4.heap.size := ⟨_, rfl⟩
  rw [← hn] at F
  have s4 : w4.heap.size ≤ n4 := Nat.le_of_eq hn.symm
  have l4_E : w.heap.size ≤ n4 := by rw [hn]; exact E.size
  have m4_0 : n0 < n4 := by rw [hn]; exact blk_lt q0
  have m4_1 : n1 < n4 := by rw [hn]; exact blk_lt q1
  have m4_2 : n2 < n4 := by rw [hn]; exact blk_lt q2
  have m4_3 : n3 < n4 := by rw [hn]; exact blk_lt q3
  replace q0 := keep_alloc hw q0
  replace q1 := keep_alloc hw q1
  replace q2 := keep_alloc hw q2
  replace q3 := keep_alloc hw q3
  replace E := ext_alloc E hw
  have q4 := new_block hw hn
  clear hw hn
  refine sq_new F rfl (by decide) rfl (R_buildSliceV rfl (prS (F.at rfl) (prS (F.at rfl) (prS (F.at rfl) (prS (F.at rfl) pr0)))) Try.underlying22 (size := 1) (by kernel_rfl) (by decide) (by decide) Try.zeroValue25 (cells := #[.slice (some ⟨n1, 0, none⟩) 3 3, .slice (some ⟨n2, 0, none⟩) 3 3, .slice (some ⟨n3, 0, none⟩) 3 3, .slice (some ⟨n4, 0, none⟩) 3 3]) (by kernel_rfl)) ?_; clear F fa; intro fa w6 F hw
  obtain ⟨n5, hn⟩ : ∃ n, n = w5.heap.size := ⟨_, rfl⟩
  rw [← hn] at F
  have s5 : w5.heap.size ≤ n5 := Nat.le_of_eq hn.symm
  have l5_E : w.heap.size ≤ n5 := by rw [hn]; exact E.size
  have m5_0 : n0 < n5 := by rw [hn]; exact blk_lt q0
  have m5_1 : n1 < n5 := by rw [hn]; exact blk_lt q1
  have m5_2 : n2 < n5 := by rw [hn]; exact blk_lt q2
  have m5_3 : n3 < n5 := by rw [hn]; exact blk_lt q3
  have m5_4 : n4 < n5 := by rw [hn]; exact blk_lt q4
  replace q0 := keep_alloc hw q0
  replace q1 := keep_alloc hw q1
  replace q2 := keep_alloc hw q2
  replace q3 := keep_alloc hw q3
  replace q4 := keep_alloc hw q4
  replace E := ext_alloc E hw
  have q5 := new_block hw hn
  clear hw hn
  refine sq_new F rfl (by decide) rfl (R_buildSliceV rfl (prS (ev_c fa _) (prS (ev_c fa _) (prS (ev_c fa _) pr0))) Try.underlying25 (size := 1) (by kernel_rfl) (by decide) (by decide) Try.zeroValue3 (cells := #[.int .i64 1, .int .i64 1, .int .i64 1]) (by kernel_rfl)) ?_; clear F fa; intro fa w7 F hw
  obtain ⟨n6, hn⟩ : ∃ n, n = w6.heap.size := ⟨_, rfl⟩
  rw [← hn] at F
  have s6 : w6.heap.size ≤ n6 := Nat.le_of_eq hn.symm
  have l6_E : w.heap.size ≤ n6 := by rw [hn]; exact E.size
  have m6_0 : n0 < n6 := by rw [hn]; exact blk_lt q0
  have m6_1 : n1 < n6 := by rw [hn]; exact blk_lt q1
  have m6_2 : n2 < n6 := by rw [hn]; exact blk_lt q2
  have m6_3 : n3 < n6 := by rw [hn]; exact blk_lt q3
  have m6_4 : n4 < n6 := by rw [hn]; exact blk_lt q4
  have m6_5 : n5 < n6 := by rw [hn]; exact blk_lt q5
  replace q0 := keep_alloc hw q0
  replace q1 := keep_alloc hw q1
  replace q2 := keep_alloc hw q2
  replace q3 := keep_alloc hw q3
  replace q4 := keep_alloc hw q4
  replace q5 := keep_alloc hw q5
  replace E := ext_alloc E hw
  have q6 := new_block hw hn
  clear hw hn
  refine sq_new F rfl (by decide) rfl (R_buildSliceV rfl (prS (ev_c fa _) (prS (ev_c fa _) (prS (ev_c fa _) pr0))) Try.underlying25 (size := 1) (by kernel_rfl) (by decide) (by decide) Try.zeroValue3 (cells := #[.int .i64 3, .int .i64 1, .int .i64 0]) (by kernel_rfl)) ?_; clear F fa; intro fa w8 F hw
  obtain ⟨n7, hn⟩ : ∃ n, n = w7.heap.size := ⟨_, rfl⟩
  rw [← hn] at F
  have s7 : w7.heap.size ≤ n7 := Nat.le_of_eq hn.symm
  have l7_E : w.heap.size ≤ n7 := by rw [hn]; exact E.size
  have m7_0 : n0 < n7 := by rw [hn]; exact blk_lt q0
  have m7_1 : n1 < n7 := by rw [hn]; exact blk_lt q1
  have m7_2 : n2 < n7 := by rw [hn]; exact blk_lt q2
  have m7_3 : n3 < n7 := by rw [hn]; exact blk_lt q3
  have m7_4 : n4 < n7 := by rw [hn]; exact blk_lt q4
  have m7_5 : n5 < n7 := by rw [hn]; exact blk_lt q5
  have m7_6 : n6 < n7 := by rw [hn]; exact blk_lt q6
  replace q0 := keep_alloc hw q0
  replace q1 := keep_alloc hw q1
  replace q2 := keep_alloc hw q2
  replace q3 := keep_alloc hw q3
  replace q4 := keep_alloc hw q4
  replace q5 := keep_alloc hw q5
  replace q6 := keep_alloc hw q6
  replace E := ext_alloc E hw
  have q7 := new_block hw hn
  clear hw hn
  refine sq_new F rfl (by decide) rfl (R_buildSliceV rfl (prS (F.at rfl) (prS (F.at rfl) pr0)) Try.underlying22 (size := 1) (by kernel_rfl) (by decide) (by decide) Try.zeroValue25 (cells := #[.slice (some ⟨n6, 0, none⟩) 3 3, .slice (some ⟨n7, 0, none⟩) 3 3]) (by kernel_rfl)) ?_; clear F fa; intro fa w9 F hw
  obtain ⟨n8, hn⟩ : ∃ n, n = w8.heap.size := ⟨_, rfl⟩
  rw [← hn] at F
  have s8 : w8.heap.size ≤ n8 := Nat.le_of_eq hn.symm
  have l8_E : w.heap.size ≤ n8 := by rw [hn]; exact E.size
  have m8_0 : n0 < n8 := by rw [hn]; exact blk_lt q0
  have m8_1 : n1 < n8 := by rw [hn]; exact blk_lt q1
  have m8_2 : n2 < n8 := by rw [hn]; exact blk_lt q2
  have m8_3 : n3 < n8 := by rw [hn]; exact blk_lt q3
  have m8_4 : n4 < n8 := by rw [hn]; exact blk_lt q4
  have m8_5 : n5 < n8 := by rw [hn]; exact blk_lt q5
  have m8_6 : n6 < n8 := by rw [hn]; exact blk_lt q6
  have m8_7 : n7 < n8 := by rw [hn]; exact blk_lt q7
  replace q0 := keep_alloc hw q0
  replace q1 := keep_alloc hw q1
  replace q2 := keep_alloc hw q2
  replace q3 := keep_alloc hw q3
  replace q4 := keep_alloc hw q4
  replace q5 := keep_alloc hw q5
  replace q6 := keep_alloc hw q6
  replace q7 := keep_alloc hw q7
  replace E := ext_alloc E hw
  have q8 := new_block hw hn
  clear hw hn
  refine F.vl (R_buildV rfl (prS (ev_c fa _) (prS (F.at rfl) (prS (F.at rfl) (prS (ev_c fa _) pr0)))) (cells := #[.int .i64 3, .slice (some ⟨n5, 0, none⟩) 4 4, .slice (some ⟨n8, 0, none⟩) 2 2, .int .i64 1]) (by kernel_rfl)) ?_; clear F fa; intro fa F
  refine sq_to rfl rfl (R_storeRow rfl (F.at rfl) (F.at rfl) (by kernel_rfl) (by first | (simp [Value.oneCell']; done) | (simp [Value.oneCell', id]; done)) q0 rfl) ?_; intro w10 hw
  replace q0 := put_row hw q0 rfl
  replace q1 := keep_cells hw q1 (by omega)
  replace q2 := keep_cells hw q2 (by omega)
  replace q3 := keep_cells hw q3 (by omega)
  replace q4 := keep_cells hw q4 (by omega)
  replace q5 := keep_cells hw q5 (by omega)
  replace q6 := keep_cells hw q6 (by omega)
  replace q7 := keep_cells hw q7 (by omega)
  replace q8 := keep_cells hw q8 (by omega)
  replace E := ext_cells E hw (fun h => by first | exact absurd h (by omega) | simp)
  clear hw
  refine wpList_nil ?_
  refine hK2 _ _ ?_
  clear hK2
  refine wp_ret ?_
  (try simp only [Exit.inBlock, Exit.then, reduceIte])
  refine rt_v F (rs_c F rfl rfl Try.underlying24 rfl (by kernel_rfl) q0) ?_
  refine ⟨{ B := 3, tol := 1, da := some ⟨n5, 0, none⟩, dc := 4, la := some ⟨n8, 0, none⟩, lc := 2, D := [(.slice (some ⟨n1, 0, none⟩) 3 3, [9, 0, 0]), (.slice (some ⟨n2, 0, none⟩) 3 3, [0, 9, 0]), (.slice (some ⟨n3, 0, none⟩) 3 3, [0, 0, 9]), (.slice (some ⟨n4, 0, none⟩) 3 3, [3, 3, 3])], L := [(.slice (some ⟨n6, 0, none⟩) 3 3, [1, 1, 1]), (.slice (some ⟨n7, 0, none⟩) 3 3, [3, 1, 0])] }, rfl, ⟨rfl, rfl, rfl, rfl⟩, ⟨lol_lit _ q5 ?_, lol_lit _ q8 ?_⟩, E⟩
  · intro p hp; simp only [List.mem_cons, List.not_mem_nil, or_false] at hp; rcases hp with rfl | rfl | rfl | rfl; (· exact row_lit [9, 0, 0] q1); (· exact row_lit [0, 9, 0] q2); (· exact row_lit [0, 0, 9] q3); (· exact row_lit [3, 3, 3] q4)
  · intro p hp; simp only [List.mem_cons, List.not_mem_nil, or_false] at hp; rcases hp with rfl | rfl; (· exact row_lit [1, 1, 1] q6); (· exact row_lit [3, 1, 0] q7)
theorem smp_any (w : World) : Calls Try.prog 45 #[] w fun e w' => ∃ a, e = .returned (.slice a 3 3) ∧ IsRows w' (.slice a [(4 : Int), 3, 2].length 3) 1 ([(4 : Int), 3, 2].map intRow) ∧ Ext [] w w' := by
  have E : Ext [] w w := Ext.refl _ _
  refine calls_has 2 Try.func45 rfl Try.ntmps45 (Nat.le_of_ble_eq_true rfl) ?_
  intro fa F
  refine wp_seq_k fun K1 hK1 => ?_
  refine wp_region_lit ?_
  refine F.vl (R_assign rfl (ev_c fa _)) ?_; clear F fa; intro fa F
  refine wpList_nil ?_
  refine hK1 _ _ ?_
  clear hK1
  refine wp_seq_k fun K2 hK2 => ?_
  refine wp_region_lit ?_
  refine sq_new F rfl (by decide) rfl (R_buildSliceV rfl (prS (ev_c fa _) (prS (ev_c fa _) (prS (ev_c fa _) pr0))) Try.underlying25 (size := 1) (by kernel_rfl) (by decide) (by decide) Try.zeroValue3 (cells := #[.int .i64 4, .int .i64 3, .int .i64 2]) (by kernel_rfl)) ?_; clear F fa; intro fa w1 F hw
  obtain ⟨n1, hn⟩ : ∃ n, n = w.heap.size := ⟨_, rfl⟩
  rw [← hn] at F
  have s1 : w.heap.size ≤ n1 := Nat.le_of_eq hn.symm
  have l1_E : w.heap.size ≤ n1 := by rw [hn]; exact E.size
  replace E := ext_alloc E hw
  have q1 := new_block hw hn
  clear hw hn
  refine F.as ?_; clear F fa; intro fa F
  refine wpList_nil ?_
  refine hK2 _ _ ?_
  clear hK2
  refine wp_ret ?_
  (try simp only [Exit.inBlock, Exit.then, reduceIte])
  refine rt_v F (rs_1 F rfl rfl) ?_
  exact ⟨_, rfl, rows_lit [4, 3, 2] 3 q1, E⟩
def clothL : List (List Int) := [[1, 0, 0, 0], [0, 1, 0, 0], [1, 1, 1, 0], [0, 0, 0, 1]]
set_option maxRecDepth 100000 in
theorem cloths_any (w : World) : Calls Try.prog 48 #[] w fun e w' => ∃ (a : Option Addr) (S : List (Value × List Int)), e = .returned (.slice a S.length 4) ∧ S.map (·.2) = clothL ∧ LolAt w' a S ∧ Ext [] w w' := by
  have E : Ext [] w w := Ext.refl _ _
  refine calls_has 6 Try.func48 rfl Try.ntmps48 (Nat.le_of_ble_eq_true rfl) ?_
  intro fa F
  refine wp_seq_k fun K1 hK1 => ?_
  refine wp_region_lit ?_
  refine F.vl (R_assign rfl (ev_c fa _)) ?_; clear F fa; intro fa F
  refine wpList_nil ?_
  refine hK1 _ _ ?_
  clear hK1
  refine wp_seq_k fun K2 hK2 => ?_
  refine wp_region_lit ?_
  refine sq_new F rfl (by decide) rfl (R_buildSliceV rfl (prS (ev_c fa _) (prS (ev_c fa _) (prS (ev_c fa _) (prS (ev_c fa _) pr0)))) Try.underlying25 (size := 1) (by kernel_rfl) (by decide) (by decide) Try.zeroValue3 (cells := #[.int .i64 1, .int .i64 0, .int .i64 0, .int .i64 0]) (by kernel_rfl)) ?_; clear F fa; intro fa w1 F hw
  obtain ⟨n1, hn⟩ : ∃ n, n = w.heap.size := ⟨_, rfl⟩
  rw [← hn] at F
  have s1 : w.heap.size ≤ n1 := Nat.le_of_eq hn.symm
  have l1_E : w.heap.size ≤ n1 := by rw [hn]; exact E.size
  replace E := ext_alloc E hw
  have q1 := new_block hw hn
  clear hw hn
  refine sq_new F rfl (by decide) rfl (R_buildSliceV rfl (prS (ev_c fa _) (prS (ev_c fa _) (prS (ev_c fa _) (prS (ev_c fa _) pr0)))) Try.underlying25 (size := 1) (by kernel_rfl) (by decide) (by decide) Try.zeroValue3 (cells := #[.int .i64 0, .int .i64 1, .int .i64 0, .int .i64 0]) (by kernel_rfl)) ?_; clear F fa; intro fa w2 F hw
  obtain ⟨n2, hn⟩ : ∃ n, n = w1.heap.size := ⟨_, rfl⟩
  rw [← hn] at F
  have s2 : w1.heap.size ≤ n2 := Nat.le_of_eq hn.symm
  have l2_E : w.heap.size ≤ n2 := by rw [hn]; exact E.size
  have m2_1 : n1 < n2 := by rw [hn]; exact blk_lt q1
  replace q1 := keep_alloc hw q1
  replace E := ext_alloc E hw
  have q2 := new_block hw hn
  clear hw hn
  refine sq_new F rfl (by decide) rfl (R_buildSliceV rfl (prS (ev_c fa _) (prS (ev_c fa _) (prS (ev_c fa _) (prS (ev_c fa _) pr0)))) Try.underlying25 (size := 1) (by kernel_rfl) (by decide) (by decide) Try.zeroValue3 (cells := #[.int .i64 1, .int .i64 1, .int .i64 1, .int .i64 0]) (by kernel_rfl)) ?_; clear F fa; intro fa w3 F hw
  obtain ⟨n3, hn⟩ : ∃ n, n = w2.heap.size := ⟨_, rfl⟩
  rw [← hn] at F
  have s3 : w2.heap.size ≤ n3 := Nat.le_of_eq hn.symm
  have l3_E : w.heap.size ≤ n3 := by rw [hn]; exact E.size
  have m3_1 : n1 < n3 := by rw [hn]; exact blk_lt q1
  have m3_2 : n2 < n3 := by rw [hn]; exact blk_lt q2
  replace q1 := keep_alloc hw q1
  replace q2 := keep_alloc hw q2
  replace E := ext_alloc E hw
  have q3 := new_block hw hn
  clear hw hn
  refine sq_new F rfl (by decide) rfl (R_buildSliceV rfl (prS (ev_c fa _) (prS (ev_c fa _) (prS (ev_c fa _) (prS (ev_c fa _) pr0)))) Try.underlying25 (size := 1) (by kernel_rfl) (by decide) (by decide) Try.zeroValue3 (cells := #[.int .i64 0, .int .i64 0, .int .i64 0, .int .i64 1]) (by kernel_rfl)) ?_; clear F fa; intro fa w4 F hw
  obtain ⟨n4, hn⟩ : ∃ n, n = w3.heap.size := ⟨_, rfl⟩
  rw [← hn] at F
  have s4 : w3.heap.size ≤ n4 := Nat.le_of_eq hn.symm
  have l4_E : w.heap.size ≤ n4 := by rw [hn]; exact E.size
  have m4_1 : n1 < n4 := by rw [hn]; exact blk_lt q1
  have m4_2 : n2 < n4 := by rw [hn]; exact blk_lt q2
  have m4_3 : n3 < n4 := by rw [hn]; exact blk_lt q3
  replace q1 := keep_alloc hw q1
  replace q2 := keep_alloc hw q2
  replace q3 := keep_alloc hw q3
  replace E := ext_alloc E hw
  have q4 := new_block hw hn
  clear hw hn
  refine sq_new F rfl (by decide) rfl (R_buildSliceV rfl (prS (F.at rfl) (prS (F.at rfl) (prS (F.at rfl) (prS (F.at rfl) pr0)))) Try.underlying22 (size := 1) (by kernel_rfl) (by decide) (by decide) Try.zeroValue25 (cells := #[.slice (some ⟨n1, 0, none⟩) 4 4, .slice (some ⟨n2, 0, none⟩) 4 4, .slice (some ⟨n3, 0, none⟩) 4 4, .slice (some ⟨n4, 0, none⟩) 4 4]) (by kernel_rfl)) ?_; clear F fa; intro fa w5 F hw
  obtain ⟨n5, hn⟩ : ∃ n, n = w4.heap.size := ⟨_, rfl⟩
  rw [← hn] at F
  have s5 : w4.heap.size ≤ n5 := Nat.le_of_eq hn.symm
  have l5_E : w.heap.size ≤ n5 := by rw [hn]; exact E.size
  have m5_1 : n1 < n5 := by rw [hn]; exact blk_lt q1
  have m5_2 : n2 < n5 := by rw [hn]; exact blk_lt q2
  have m5_3 : n3 < n5 := by rw [hn]; exact blk_lt q3
  have m5_4 : n4 < n5 := by rw [hn]; exact blk_lt q4
  replace q1 := keep_alloc hw q1
  replace q2 := keep_alloc hw q2
  replace q3 := keep_alloc hw q3
  replace q4 := keep_alloc hw q4
  replace E := ext_alloc E hw
  have q5 := new_block hw hn
  clear hw hn
  refine F.as ?_; clear F fa; intro fa F
  refine wpList_nil ?_
  refine hK2 _ _ ?_
  clear hK2
  refine wp_ret ?_
  (try simp only [Exit.inBlock, Exit.then, reduceIte])
  refine rt_v F (rs_1 F rfl rfl) ?_
  refine ⟨some ⟨n5, 0, none⟩, [(.slice (some ⟨n1, 0, none⟩) 4 4, [1, 0, 0, 0]), (.slice (some ⟨n2, 0, none⟩) 4 4, [0, 1, 0, 0]), (.slice (some ⟨n3, 0, none⟩) 4 4, [1, 1, 1, 0]), (.slice (some ⟨n4, 0, none⟩) 4 4, [0, 0, 0, 1])], rfl, rfl, lol_lit _ q5 ?_, E⟩
  intro p hp; simp only [List.mem_cons, List.not_mem_nil, or_false] at hp; rcases hp with rfl | rfl | rfl | rfl; (· exact row_lit [1, 0, 0, 0] q1); (· exact row_lit [0, 1, 0, 0] q2); (· exact row_lit [1, 1, 1, 0] q3); (· exact row_lit [0, 0, 0, 1] q4)
end Go.Proofs.Ytdjeecgddbjbeaa
