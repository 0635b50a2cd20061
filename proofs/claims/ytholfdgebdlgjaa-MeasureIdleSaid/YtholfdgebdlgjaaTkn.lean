/- The walks of reading, house, alone and SameInts: the chapter's examples. No conditions. -/
import Derived.Test.YtholfdgebdlgjaaNxt
import Derived.Test.YtholfdgebdlgjaaMea2
import Derived.Test.YtholfdgebdlgjaaHouse
namespace Go.Proofs.Ytholfdgebdlgjaa
open Go.RowKit
set_option linter.unusedVariables false
set_option linter.unusedSimpArgs false
theorem reading_any (s a k p : Int) (w : World) :
    Calls Try.prog 58 #[.int .i64 s, .int .i64 a, .int .i64 k, .int .i64 p] w fun e w' => e = .returned (.agg #[.int .i64 s, .int .i64 a, .int .i64 k, .int .i64 p]) ∧ Ext [] w w' := by
  have E : Ext [] w w := Ext.refl _ _
  go_enter Try.func58, Try.ntmps58
  go_upto_region 0 with (fail)
  refine wp_region_lit ?_
  refine seq_new rfl rfl (R_alloc rfl Try.zeroValue66) (by simp only [List.set_cons_succ, List.set_cons_zero]; exact rfl) fun w1 hw => ?_
  obtain ⟨n8, hn⟩ : ∃ n, n = w.heap.size := ⟨_, rfl⟩
  rw [← hn]
  have l8 : w.heap.size ≤ n8 := by rw [hn]; exact E.size
  have q8 := new_row hw hn
  replace E := ext_alloc E hw
  clear hw hn
  refine wpList_nil ?_
  go_upto_region 1 with (fail)
  refine wp_region_lit ?_
  refine seq_val rfl rfl (R_move (v := .int .i64 _) rfl rfl) (by simp only [List.set_cons_succ, List.set_cons_zero]; exact rfl) ?_
  refine seq_val rfl rfl (R_move (v := .int .i64 _) rfl rfl) (by simp only [List.set_cons_succ, List.set_cons_zero]; exact rfl) ?_
  refine seq_val rfl rfl (R_move (v := .int .i64 _) rfl rfl) (by simp only [List.set_cons_succ, List.set_cons_zero]; exact rfl) ?_
  refine seq_val rfl rfl (R_move (v := .int .i64 _) rfl rfl) (by simp only [List.set_cons_succ, List.set_cons_zero]; exact rfl) ?_
  refine seq_val rfl rfl (R_build' rfl (cells := #[.int .i64 s, .int .i64 a, .int .i64 k, .int .i64 p]) (by kernel_rfl)) (by simp only [List.set_cons_succ, List.set_cons_zero]; exact rfl) ?_
  refine seq_to rfl rfl (R_storeRow rfl rfl rfl (by kernel_rfl) (by simp [Value.oneCell']) q8 rfl) fun w2 hw => ?_
  replace q8 := put_row hw q8 rfl
  replace E := ext_cells E hw (fun h => by first | exact absurd h (by omega) | simp)
  clear hw
  refine wpList_nil ?_
  go_wp2
  exact bodyPost_ret (res_cell rfl rfl Try.underlying66 rfl (by kernel_rfl) q8) rfl ⟨rfl, E⟩
theorem alone_any (w : World) :
    Calls Try.prog 78 #[] w fun e w' => ∃ gv, e = .returned (tpV (aloneT []) gv (.slice none 0 0) (.slice none 0 0)) ∧ IsTp w' gv (.slice none 0 0) (.slice none 0 0) (aloneT []) ∧ Ext [] w w' := by
  have E : Ext [] w w := Ext.refl _ _
  go_enter Try.func78, Try.ntmps78
  go_upto_region 0 with (fail)
  refine wp_region_lit ?_
  refine seq_new rfl rfl (R_alloc rfl Try.zeroValue28) (by simp only [List.set_cons_succ, List.set_cons_zero]; exact rfl) fun w1 hw => ?_
  obtain ⟨n0, hn⟩ : ∃ n, n = w.heap.size := ⟨_, rfl⟩
  rw [← hn]
  have l0 : w.heap.size ≤ n0 := by rw [hn]; exact E.size
  have q0 := new_row hw hn
  replace E := ext_alloc E hw
  clear hw hn
  refine wpList_nil ?_
  go_upto_region 1 with (fail)
  refine wp_region_lit ?_
  refine seq_val rfl rfl (R_build' rfl (cells := #[.int .i64 60, .int .i64 120]) (by kernel_rfl)) (by simp only [List.set_cons_succ, List.set_cons_zero]; exact rfl) ?_
  refine seq_val rfl rfl (R_build' rfl (cells := #[.int .i64 (-3), .int .i64 3]) (by kernel_rfl)) (by simp only [List.set_cons_succ, List.set_cons_zero]; exact rfl) ?_
  refine seq_val rfl rfl (R_build' rfl (cells := #[.int .i64 0, .int .i64 0]) (by kernel_rfl)) (by simp only [List.set_cons_succ, List.set_cons_zero]; exact rfl) ?_
  refine seq_new rfl rfl (R_buildSlice rfl Try.underlying24 (size := 2) (by kernel_rfl) (by decide) (by decide) Try.zeroValue23 (cells := #[.int .i64 0, .int .i64 0]) (by kernel_rfl)) (by simp only [List.set_cons_succ, List.set_cons_zero]; exact rfl) fun w2 hw => ?_
  obtain ⟨n4, hn⟩ : ∃ n, n = w1.heap.size := ⟨_, rfl⟩
  rw [← hn]
  have l4 : w.heap.size ≤ n4 := by rw [hn]; exact E.size
  have m4_0 : n0 < n4 := by rw [hn]; exact blk_lt q0
  replace q0 := keep_alloc hw q0
  have q4 := new_block hw hn
  replace E := ext_alloc E hw
  clear hw hn
  refine seq_val rfl rfl (R_build' rfl (cells := #[.int .i64 1, .int .i64 1, .int .i64 2, .int .i64 60, .int .i64 120, .int .i64 (-3), .int .i64 3, .int .i64 1, .slice (some ⟨n4, 0, none⟩) 1 1, .slice none 0 0, .slice none 0 0]) (by kernel_rfl)) (by simp only [List.set_cons_succ, List.set_cons_zero]; exact rfl) ?_
  refine seq_to rfl rfl (R_storeRow rfl rfl rfl (by kernel_rfl) (by simp [Value.oneCell']) q0 rfl) fun w3 hw => ?_
  replace q0 := put_row hw q0 rfl
  replace q4 := keep_cells hw q4 (by omega)
  replace E := ext_cells E hw (fun h => by first | exact absurd h (by omega) | simp)
  clear hw
  refine wpList_nil ?_
  go_wp2
  refine bodyPost_ret (res_cell rfl rfl Try.underlying28 rfl (by kernel_rfl) q0) rfl ⟨.slice (some ⟨n4, 0, none⟩) 1 1, rfl, ⟨?_, rows_nil _ _ _, rows_nil _ _ _⟩, E⟩
  exact rows_of_flat (xs := [((0 : Int), (0 : Int))]) (row := grRow) (pad := []) 1 (fun _ => rfl) q4
theorem R_append_none {P : Program} {ρ : Operand → Value} {o : Oper} {w : World} {s x : Operand} {t e : TypeId} {base n size : Nat} {v : Value} {xs : List Value} (ho : o.op = .call { callee := .builtin .append, args := #[s, x], argTypes := #[t, t] }) (ht : P.underlying t = some (.slice e)) (hs : ρ s = v) (hx : ρ x = .slice none 0 0) (hin : (P.info? e).map (·.size) = some size) (hown : w.ownsRow base e size v n xs) :
    (execOp ρ o).run P w = .ok (.value v) w := by
  cases hq : P.info? e with
  | none => simp [hq] at hin
  | some i =>
    have hr := run_append_owned_none (P := P) (w := w) base t o.type e i size ht hq v n xs hown
    unfold execOp
    simp only [ho, resolve, invoke, builtin, Sem.run_bind, Sem.run_pure, Result.andThen_ok, List.map_toArray, List.map_cons, List.map_nil, hs, hx, hr]
set_option maxRecDepth 100000 in
set_option maxHeartbeats 2000000 in
theorem house0_any (w : World) :
    Calls Try.prog 77 #[.slice none 0 0] w fun e w' => ∃ gv ra rc, e = .returned (tpV (houseT []) gv (.slice ra (houseT []).rd.length rc) (.slice none 0 0)) ∧ IsTp w' gv (.slice ra (houseT []).rd.length rc) (.slice none 0 0) (houseT []) ∧ (houseT []).rd.length ≤ rc ∧ Ext [] w w' := by
  have E : Ext [] w w := Ext.refl _ _
  go_enter Try.func77, Try.ntmps77
  go_upto_region 0 with (fail)
  refine wp_region_lit ?_
  refine seq_new rfl rfl (R_alloc rfl Try.zeroValue28) (by simp only [List.set_cons_succ, List.set_cons_zero]; exact rfl) fun w1 hw => ?_
  obtain ⟨n2, hn⟩ : ∃ n, n = w.heap.size := ⟨_, rfl⟩
  rw [← hn]
  have l2 : w.heap.size ≤ n2 := by rw [hn]; exact E.size
  have q2 := new_row hw hn
  replace E := ext_alloc E hw
  clear hw hn
  refine wpList_nil ?_
  go_upto_region 1 with (fail)
  refine wp_region_lit ?_
  refine seq_call rfl rfl (by kernel_rfl) (reading_any 0 0 0 90 _) fun e w2 hR => ?_
  obtain ⟨rfl, e1⟩ := hR
  refine ⟨_, _, rfl, (by simp only [List.set_cons_succ, List.set_cons_zero]; exact rfl), ?_⟩
  replace q2 := (e1).keep0 q2
  replace E := ext_same E (e1)
  refine seq_call rfl rfl (by kernel_rfl) (reading_any 0 1 1 97 _) fun e w3 hR => ?_
  obtain ⟨rfl, e2⟩ := hR
  refine ⟨_, _, rfl, (by simp only [List.set_cons_succ, List.set_cons_zero]; exact rfl), ?_⟩
  replace q2 := (e2).keep0 q2
  replace E := ext_same E (e2)
  refine seq_call rfl rfl (by kernel_rfl) (reading_any 1 0 0 84 _) fun e w4 hR => ?_
  obtain ⟨rfl, e3⟩ := hR
  refine ⟨_, _, rfl, (by simp only [List.set_cons_succ, List.set_cons_zero]; exact rfl), ?_⟩
  replace q2 := (e3).keep0 q2
  replace E := ext_same E (e3)
  refine seq_call rfl rfl (by kernel_rfl) (reading_any 1 1 1 88 _) fun e w5 hR => ?_
  obtain ⟨rfl, e4⟩ := hR
  refine ⟨_, _, rfl, (by simp only [List.set_cons_succ, List.set_cons_zero]; exact rfl), ?_⟩
  replace q2 := (e4).keep0 q2
  replace E := ext_same E (e4)
  refine seq_new rfl rfl (R_buildSlice rfl Try.underlying25 (size := 4) (by kernel_rfl) (by decide) (by decide) Try.zeroValue66 (cells := #[.int .i64 0, .int .i64 0, .int .i64 0, .int .i64 90, .int .i64 0, .int .i64 1, .int .i64 1, .int .i64 97, .int .i64 1, .int .i64 0, .int .i64 0, .int .i64 84, .int .i64 1, .int .i64 1, .int .i64 1, .int .i64 88]) (by kernel_rfl)) (by simp only [List.set_cons_succ, List.set_cons_zero]; exact rfl) fun w6 hw => ?_
  obtain ⟨n8, hn⟩ : ∃ n, n = w5.heap.size := ⟨_, rfl⟩
  rw [← hn]
  have l8 : w.heap.size ≤ n8 := by rw [hn]; exact E.size
  have m8_2 : n2 < n8 := by rw [hn]; exact blk_lt q2
  replace q2 := keep_alloc hw q2
  have q8 := new_block hw hn
  replace E := ext_alloc E hw
  clear hw hn
  refine seq_val rfl rfl (R_assign (v := .slice _ _ _) rfl rfl) (by simp only [List.set_cons_succ, List.set_cons_zero]; exact rfl) ?_
  refine wpList_nil ?_
  go_upto_region 2 with (fail)
  refine wp_region_lit ?_
  refine seq_val rfl rfl (R_build' rfl (cells := #[.int .i64 60, .int .i64 120]) (by kernel_rfl)) (by simp only [List.set_cons_succ, List.set_cons_zero]; exact rfl) ?_
  refine seq_val rfl rfl (R_build' rfl (cells := #[.int .i64 (-3), .int .i64 3]) (by kernel_rfl)) (by simp only [List.set_cons_succ, List.set_cons_zero]; exact rfl) ?_
  refine seq_val rfl rfl (R_build' rfl (cells := #[.int .i64 0, .int .i64 4]) (by kernel_rfl)) (by simp only [List.set_cons_succ, List.set_cons_zero]; exact rfl) ?_
  refine seq_val rfl rfl (R_build' rfl (cells := #[.int .i64 (-2), .int .i64 2]) (by kernel_rfl)) (by simp only [List.set_cons_succ, List.set_cons_zero]; exact rfl) ?_
  refine seq_new rfl rfl (R_buildSlice rfl Try.underlying24 (size := 2) (by kernel_rfl) (by decide) (by decide) Try.zeroValue23 (cells := #[.int .i64 0, .int .i64 4, .int .i64 (-2), .int .i64 2]) (by kernel_rfl)) (by simp only [List.set_cons_succ, List.set_cons_zero]; exact rfl) fun w7 hw => ?_
  obtain ⟨n13, hn⟩ : ∃ n, n = w6.heap.size := ⟨_, rfl⟩
  rw [← hn]
  have l13 : w.heap.size ≤ n13 := by rw [hn]; exact E.size
  have m13_2 : n2 < n13 := by rw [hn]; exact blk_lt q2
  have m13_8 : n8 < n13 := by rw [hn]; exact blk_lt q8
  replace q2 := keep_alloc hw q2
  replace q8 := keep_alloc hw q8
  have q13 := new_block hw hn
  replace E := ext_alloc E hw
  clear hw hn
  refine seq_val rfl rfl (R_move (v := .slice _ _ _) rfl rfl) (by simp only [List.set_cons_succ, List.set_cons_zero]; exact rfl) ?_
  refine seq_val rfl rfl (R_move (v := .slice _ _ _) rfl rfl) (by simp only [List.set_cons_succ, List.set_cons_zero]; exact rfl) ?_
  refine seq_val rfl rfl (R_append_none rfl Try.underlying25 rfl rfl (size := 4) (by kernel_rfl) (owns_of_block (base := 0) (n := 4) q8 (Nat.zero_le _) rfl (by decide))) (by simp only [List.set_cons_succ, List.set_cons_zero]; exact rfl) ?_
  refine seq_val rfl rfl (R_build' rfl (cells := #[.int .i64 2, .int .i64 2, .int .i64 2, .int .i64 60, .int .i64 120, .int .i64 (-3), .int .i64 3, .int .i64 1, .slice (some ⟨n13, 0, none⟩) 2 2, .slice (some ⟨n8, 0, none⟩) 4 4, .slice none 0 0]) (by kernel_rfl)) (by simp only [List.set_cons_succ, List.set_cons_zero]; exact rfl) ?_
  refine seq_to rfl rfl (R_storeRow rfl rfl rfl (by kernel_rfl) (by simp [Value.oneCell']) q2 rfl) fun w8 hw => ?_
  replace q2 := put_row hw q2 rfl
  replace q8 := keep_cells hw q8 (by omega)
  replace q13 := keep_cells hw q13 (by omega)
  replace E := ext_cells E hw (fun h => by first | exact absurd h (by omega) | simp)
  clear hw
  refine wpList_nil ?_
  go_wp2
  refine bodyPost_ret (res_cell rfl rfl Try.underlying28 rfl (by kernel_rfl) q2) rfl ⟨.slice (some ⟨n13, 0, none⟩) 2 2, some ⟨n8, 0, none⟩, 4, rfl, ⟨?_, ?_, rows_nil _ _ _⟩, by decide, E⟩
  · exact rows_of_flat (xs := (houseT []).gr) (row := grRow) (pad := []) 2 (fun _ => rfl) q13
  · exact rows_of_flat (xs := (houseT []).rd) (row := rdRow) (pad := []) 4 (fun _ => rfl) q8
set_option maxRecDepth 100000 in
set_option maxHeartbeats 2000000 in
theorem house1_any (b : Nat) (w : World) (qp : w.heap[b]? = some (.cells #[.int .i64 0, .int .i64 0, .int .i64 1, .int .i64 99] 66 (0, 0))) :
    Calls Try.prog 77 #[.slice (some ⟨b, 0, none⟩) 1 1] w fun e w' => ∃ gv ra rc, e = .returned (tpV (houseT [(0, 0, 1, 99)]) gv (.slice ra (houseT [(0, 0, 1, 99)]).rd.length rc) (.slice none 0 0)) ∧ IsTp w' gv (.slice ra (houseT [(0, 0, 1, 99)]).rd.length rc) (.slice none 0 0) (houseT [(0, 0, 1, 99)]) ∧ (houseT [(0, 0, 1, 99)]).rd.length ≤ rc ∧ Ext [] w w' := by
  have E : Ext [] w w := Ext.refl _ _
  go_enter Try.func77, Try.ntmps77
  go_upto_region 0 with (fail)
  refine wp_region_lit ?_
  refine seq_new rfl rfl (R_alloc rfl Try.zeroValue28) (by simp only [List.set_cons_succ, List.set_cons_zero]; exact rfl) fun w1 hw => ?_
  obtain ⟨n2, hn⟩ : ∃ n, n = w.heap.size := ⟨_, rfl⟩
  rw [← hn]
  have l2 : w.heap.size ≤ n2 := by rw [hn]; exact E.size
  have m2_p : b < n2 := by rw [hn]; exact blk_lt qp
  replace qp := keep_alloc hw qp
  have q2 := new_row hw hn
  replace E := ext_alloc E hw
  clear hw hn
  refine wpList_nil ?_
  go_upto_region 1 with (fail)
  refine wp_region_lit ?_
  refine seq_call rfl rfl (by kernel_rfl) (reading_any 0 0 0 90 _) fun e w2 hR => ?_
  obtain ⟨rfl, e1⟩ := hR
  refine ⟨_, _, rfl, (by simp only [List.set_cons_succ, List.set_cons_zero]; exact rfl), ?_⟩
  replace qp := (e1).keep0 qp
  replace q2 := (e1).keep0 q2
  replace E := ext_same E (e1)
  refine seq_call rfl rfl (by kernel_rfl) (reading_any 0 1 1 97 _) fun e w3 hR => ?_
  obtain ⟨rfl, e2⟩ := hR
  refine ⟨_, _, rfl, (by simp only [List.set_cons_succ, List.set_cons_zero]; exact rfl), ?_⟩
  replace qp := (e2).keep0 qp
  replace q2 := (e2).keep0 q2
  replace E := ext_same E (e2)
  refine seq_call rfl rfl (by kernel_rfl) (reading_any 1 0 0 84 _) fun e w4 hR => ?_
  obtain ⟨rfl, e3⟩ := hR
  refine ⟨_, _, rfl, (by simp only [List.set_cons_succ, List.set_cons_zero]; exact rfl), ?_⟩
  replace qp := (e3).keep0 qp
  replace q2 := (e3).keep0 q2
  replace E := ext_same E (e3)
  refine seq_call rfl rfl (by kernel_rfl) (reading_any 1 1 1 88 _) fun e w5 hR => ?_
  obtain ⟨rfl, e4⟩ := hR
  refine ⟨_, _, rfl, (by simp only [List.set_cons_succ, List.set_cons_zero]; exact rfl), ?_⟩
  replace qp := (e4).keep0 qp
  replace q2 := (e4).keep0 q2
  replace E := ext_same E (e4)
  refine seq_new rfl rfl (R_buildSlice rfl Try.underlying25 (size := 4) (by kernel_rfl) (by decide) (by decide) Try.zeroValue66 (cells := #[.int .i64 0, .int .i64 0, .int .i64 0, .int .i64 90, .int .i64 0, .int .i64 1, .int .i64 1, .int .i64 97, .int .i64 1, .int .i64 0, .int .i64 0, .int .i64 84, .int .i64 1, .int .i64 1, .int .i64 1, .int .i64 88]) (by kernel_rfl)) (by simp only [List.set_cons_succ, List.set_cons_zero]; exact rfl) fun w6 hw => ?_
  obtain ⟨n8, hn⟩ : ∃ n, n = w5.heap.size := ⟨_, rfl⟩
  rw [← hn]
  have l8 : w.heap.size ≤ n8 := by rw [hn]; exact E.size
  have m8_p : b < n8 := by rw [hn]; exact blk_lt qp
  have m8_2 : n2 < n8 := by rw [hn]; exact blk_lt q2
  replace qp := keep_alloc hw qp
  replace q2 := keep_alloc hw q2
  have q8 := new_block hw hn
  replace E := ext_alloc E hw
  clear hw hn
  refine seq_val rfl rfl (R_assign (v := .slice _ _ _) rfl rfl) (by simp only [List.set_cons_succ, List.set_cons_zero]; exact rfl) ?_
  refine wpList_nil ?_
  go_upto_region 2 with (fail)
  refine wp_region_lit ?_
  refine seq_val rfl rfl (R_build' rfl (cells := #[.int .i64 60, .int .i64 120]) (by kernel_rfl)) (by simp only [List.set_cons_succ, List.set_cons_zero]; exact rfl) ?_
  refine seq_val rfl rfl (R_build' rfl (cells := #[.int .i64 (-3), .int .i64 3]) (by kernel_rfl)) (by simp only [List.set_cons_succ, List.set_cons_zero]; exact rfl) ?_
  refine seq_val rfl rfl (R_build' rfl (cells := #[.int .i64 0, .int .i64 4]) (by kernel_rfl)) (by simp only [List.set_cons_succ, List.set_cons_zero]; exact rfl) ?_
  refine seq_val rfl rfl (R_build' rfl (cells := #[.int .i64 (-2), .int .i64 2]) (by kernel_rfl)) (by simp only [List.set_cons_succ, List.set_cons_zero]; exact rfl) ?_
  refine seq_new rfl rfl (R_buildSlice rfl Try.underlying24 (size := 2) (by kernel_rfl) (by decide) (by decide) Try.zeroValue23 (cells := #[.int .i64 0, .int .i64 4, .int .i64 (-2), .int .i64 2]) (by kernel_rfl)) (by simp only [List.set_cons_succ, List.set_cons_zero]; exact rfl) fun w7 hw => ?_
  obtain ⟨n13, hn⟩ : ∃ n, n = w6.heap.size := ⟨_, rfl⟩
  rw [← hn]
  have l13 : w.heap.size ≤ n13 := by rw [hn]; exact E.size
  have m13_p : b < n13 := by rw [hn]; exact blk_lt qp
  have m13_2 : n2 < n13 := by rw [hn]; exact blk_lt q2
  have m13_8 : n8 < n13 := by rw [hn]; exact blk_lt q8
  replace qp := keep_alloc hw qp
  replace q2 := keep_alloc hw q2
  replace q8 := keep_alloc hw q8
  have q13 := new_block hw hn
  replace E := ext_alloc E hw
  clear hw hn
  refine seq_val rfl rfl (R_move (v := .slice _ _ _) rfl rfl) (by simp only [List.set_cons_succ, List.set_cons_zero]; exact rfl) ?_
  refine seq_val rfl rfl (R_move (v := .slice _ _ _) rfl rfl) (by simp only [List.set_cons_succ, List.set_cons_zero]; exact rfl) ?_
  have ho := owns_of_block (base := n8) (n := 4) (size := 4) q8 (Nat.le_refl _) rfl (by decide)
  have hb8 := blk_lt q8
  refine seq_append rfl rfl rfl (n8) (e := 66) (size := 4) (bytes := 32) Try.underlying25 (by kernel_rfl) (by decide) rfl ho rfl qp rfl (by simp [Value.oneCell']) (by omega) (by omega) (by have := E.size; omega) fun v' w8 hown' hg => ?_
  obtain ⟨va16, vc16, rfl⟩ := owns_slice hown'
  refine ⟨_, (by simp only [List.set_cons_succ, List.set_cons_zero]; exact rfl), ?_⟩
  replace qp := keep_own (g := n8) hg qp (by omega)
  replace q2 := keep_own (g := n8) hg q2 (by omega)
  replace q13 := keep_own (g := n8) hg q13 (by omega)
  replace E := ext_append E ho hg (by omega)
  replace ho := hown'
  clear hg
  refine seq_val rfl rfl (R_build' rfl (cells := #[.int .i64 2, .int .i64 2, .int .i64 2, .int .i64 60, .int .i64 120, .int .i64 (-3), .int .i64 3, .int .i64 1, .slice (some ⟨n13, 0, none⟩) 2 2, .slice va16 (4 + 1) vc16, .slice none 0 0]) (by kernel_rfl)) (by simp only [List.set_cons_succ, List.set_cons_zero]; exact rfl) ?_
  refine seq_to rfl rfl (R_storeRow rfl rfl rfl (by kernel_rfl) (by simp [Value.oneCell']) q2 rfl) fun w9 hw => ?_
  replace qp := keep_cells hw qp (by omega)
  replace q2 := put_row hw q2 rfl
  replace q13 := keep_cells hw q13 (by omega)
  replace ho := owns_cells hw ho (by omega)
  replace E := ext_cells E hw (fun h => by first | exact absurd h (by omega) | simp)
  clear hw
  refine wpList_nil ?_
  go_wp2
  have hcap := owns_cap ho
  have hrows := rows_of_owns (xs := (houseT [(0, 0, 1, 99)]).rd) (row := rdRow) ho (fun _ => rfl)
  refine bodyPost_ret (res_cell rfl rfl Try.underlying28 rfl (by kernel_rfl) q2) rfl ⟨.slice (some ⟨n13, 0, none⟩) 2 2, va16, vc16, rfl, ⟨?_, hrows, rows_nil _ _ _⟩, hcap, E⟩
  exact rows_of_flat (xs := (houseT [(0, 0, 1, 99)]).gr) (row := grRow) (pad := []) 2 (fun _ => rfl) q13
theorem blk_of_range {w : World} {b off : Nat} {cs : List Value} {v : Value} (h : w.rangeAt b off cs) (h0 : cs[0]? = some v) : b < w.heap.size := by
  have := h 0 v h0
  exact World.block_lt_of_cell? w ⟨b, off + 0, none⟩ this
theorem take_step {α : Type} [DecidableEq α] {xs ys : List α} {i : Nat} (d : α) (hi : i < xs.length) (hl : xs.length = ys.length) (h : xs.take i = ys.take i) (he : xs.getD i d = ys.getD i d) : xs.take (i + 1) = ys.take (i + 1) := by
  have hi2 : i < ys.length := by omega
  rw [List.take_add_one, List.take_add_one, h]
  simp only [List.getD_eq_getElem?_getD, List.getElem?_eq_getElem hi, List.getElem?_eq_getElem hi2, Option.getD_some] at he
  simp [hi, hi2, he]
set_option maxRecDepth 100000 in
set_option maxHeartbeats 2000000 in
theorem sameInts_any (xs ys : List Int) (a b : Option Addr) (ca cb : Nat) (w : World) (hx : IsRows w (.slice a xs.length ca) 1 (xs.map intRow)) (hy : IsRows w (.slice b ys.length cb) 1 (ys.map intRow)) (h1 : xs.length ≤ 1000000) (h2 : ys.length ≤ 1000000) :
    Calls Try.prog 50 #[.slice a xs.length ca, .slice b ys.length cb] w fun e w' => e = .returned (.bool (decide (xs = ys))) ∧ Ext [] w w' := by
  have E : Ext [] w w := Ext.refl _ _
  by_cases hl : xs.length = ys.length
  · go_enter Try.func50, Try.ntmps50
    go_wp2_with fail
    go_loopw [5] (fun iv wr => ∃ i : Nat, i ≤ xs.length ∧ iv = .int .i64 i ∧ xs.take i = ys.take i ∧ Ext [] w wr) (fun iv _ => xs.length - (intOf iv).toNat)
    case atStart => exact ⟨0, Nat.zero_le _, rfl, by simp, E⟩
    case round =>
      clear E
      obtain ⟨i, hi, rfl, ht, E⟩ := hrel
      have HT := Lib.hid ht; clear ht
      by_cases hlt : (i : Int) < (xs.length : Int)
      · obtain ⟨xb, xo, hxa, hxr⟩ := rows_in 0 hx E (i := i) (by omega)
        obtain ⟨yb, yo, hya, hyr⟩ := rows_in 0 hy E (i := i) (by omega)
        have hcx : Hid (∀ W : World, Ext [] wr W → W.cell? ⟨xb, xo + (i : Int).toNat * 1, none⟩ = some (.int .i64 (xs.getD i 0))) := fun W hW => by
          have hlt2 := blk_of_range hxr rfl
          have := hxr 0 (.int .i64 (xs.getD i 0)) rfl
          rw [hW.cell (a := ⟨xb, xo + (i : Int).toNat * 1, none⟩) hlt2 (by simp)]; simpa using this
        have hcy : Hid (∀ W : World, Ext [] wr W → W.cell? ⟨yb, yo + (i : Int).toNat * 1, none⟩ = some (.int .i64 (ys.getD i 0))) := fun W hW => by
          have hlt2 := blk_of_range hyr rfl
          have := hyr 0 (.int .i64 (ys.getD i 0)) rfl
          rw [hW.cell (a := ⟨yb, yo + (i : Int).toNat * 1, none⟩) hlt2 (by simp)]; simpa using this
        clear hxr hyr
        obtain ⟨x, hxd⟩ : ∃ x, x = xs.getD i 0 := ⟨_, rfl⟩
        obtain ⟨y, hyd⟩ : ∃ y, y = ys.getD i 0 := ⟨_, rfl⟩
        rw [← hxd] at hcx
        rw [← hyd] at hcy
        go_upto_region 6 with (fail)
        refine region_any (Ext [] wr) follows fun w1 hh eS => ?_
        replace E := ext_same E eS
        refine anyH_take (i := 0) rfl (by kernel_rfl) (by kernel_rfl) (by kernel_rfl) (fun _ _ _ h => h) rfl rfl (fun w' hS => R_move (v := .slice _ _ _) rfl rfl) eS (by simp only [List.set_cons_succ, List.set_cons_zero]; exact rfl) ?_
        refine anyH_take (i := 1) rfl (by kernel_rfl) (by kernel_rfl) (by kernel_rfl) (fun _ _ _ h => h) rfl rfl (fun w' hS => R_move (v := .int .i64 _) rfl rfl) eS (by simp only [List.set_cons_succ, List.set_cons_zero]; exact rfl) ?_
        refine anyH_take (i := 2) rfl (by kernel_rfl) (by kernel_rfl) (by kernel_rfl) (fun _ _ _ h => h) rfl rfl (fun w' hS => R_ixSlice (sz := 1) rfl (hxa xs.length ca) rfl Try.underlying29 (by kernel_rfl) (by omega) (by omega)) eS (by simp only [List.set_cons_succ, List.set_cons_zero]; exact rfl) ?_
        refine anyH_take (i := 3) rfl (by kernel_rfl) (by kernel_rfl) (by kernel_rfl) (fun _ _ _ h => h) rfl rfl (fun w' hS => R_load (v := .int .i64 x) rfl rfl Try.underlying3 rfl (hcx.out _ hS)) eS (by simp only [List.set_cons_succ, List.set_cons_zero]; exact rfl) ?_
        refine anyH_take (i := 4) rfl (by kernel_rfl) (by kernel_rfl) (by kernel_rfl) (fun _ _ _ h => h) rfl rfl (fun w' hS => R_move (v := .slice _ _ _) rfl rfl) eS (by simp only [List.set_cons_succ, List.set_cons_zero]; exact rfl) ?_
        refine anyH_take (i := 5) rfl (by kernel_rfl) (by kernel_rfl) (by kernel_rfl) (fun _ _ _ h => h) rfl rfl (fun w' hS => R_move (v := .int .i64 _) rfl rfl) eS (by simp only [List.set_cons_succ, List.set_cons_zero]; exact rfl) ?_
        refine anyH_take (i := 6) rfl (by kernel_rfl) (by kernel_rfl) (by kernel_rfl) (fun _ _ _ h => h) rfl rfl (fun w' hS => R_ixSlice (sz := 1) rfl (hya ys.length cb) rfl Try.underlying29 (by kernel_rfl) (by omega) (by omega)) eS (by simp only [List.set_cons_succ, List.set_cons_zero]; exact rfl) ?_
        refine anyH_take (i := 7) rfl (by kernel_rfl) (by kernel_rfl) (by kernel_rfl) (fun _ _ _ h => h) rfl rfl (fun w' hS => R_load (v := .int .i64 y) rfl rfl Try.underlying3 rfl (hcy.out _ hS)) eS (by simp only [List.set_cons_succ, List.set_cons_zero]; exact rfl) ?_
        refine anyH_take (i := 8) rfl (by kernel_rfl) (by kernel_rfl) (by kernel_rfl) (fun _ _ _ h => h) rfl rfl (fun w' hS => R_neq rfl rfl rfl) eS (by simp only [List.set_cons_succ, List.set_cons_zero]; exact rfl) ?_
        refine wpAnyH_done (by kernel_rfl) ?_ _
        clear hh eS
        clear hcx hcy
        by_cases hxy : x = y
        · have H1 := Lib.hid (take_step 0 (by omega) hl HT.out (by rw [← hxd, ← hyd]; exact hxy))
          clear hxd hyd
          subst hxy
          go_wp2
          go_roundw
          case rel => exact ⟨i + 1, by omega, by go_num, H1.out, E⟩
          case measure => simp [intOf]; omega
        · have H1 : Hid (decide (xs = ys) = false) := by
            show _ = _
            refine decide_eq_false fun e => hxy ?_
            rw [hxd, hyd, e]
          clear hxd hyd
          have hb : (x != y) = true := by simpa using hxy
          go_wp2
          go_ret
          exact ⟨ret_bool H1.out.symm, E⟩
      · have H1 : Hid (decide (xs = ys) = true) := by
          show _ = _
          refine decide_eq_true ?_
          have := HT.out
          rwa [List.take_of_length_le (by omega), List.take_of_length_le (by omega)] at this
        go_wp2
        go_ret
        exact ⟨ret_bool H1.out.symm, E⟩
  · have H1 : Hid (decide (xs = ys) = false) := by
      show _ = _
      exact decide_eq_false fun e => hl (by rw [e])
    have hb : ((xs.length : Int) != (ys.length : Int)) = true := by simpa using fun e => hl (by omega)
    go_enter Try.func50, Try.ntmps50
    go_wp2
    go_ret
    exact ⟨ret_bool H1.out.symm, E⟩
end Go.Proofs.Ytholfdgebdlgjaa
