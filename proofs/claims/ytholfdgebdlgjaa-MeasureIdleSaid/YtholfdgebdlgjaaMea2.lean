/- The walks of Pull and Apart. Conditions: lists of at most 1000. -/
import Derived.Test.YtholfdgebdlgjaaMea
namespace Go.Proofs.Ytholfdgebdlgjaa
open Go.RowKit
set_option linter.unusedVariables false
set_option linter.unusedSimpArgs false
/-- The numbers that a pull can have, and the error. -/
def pullE (t : Tp) (k : Int) : Int := solvedE t (sel3 [] [] [k])
def pullV (t : Tp) (k : Int) : Int × Int := if pullE t k = 0 then (-(bdV t 0 0 (nodeT k)), bdV t 0 (nodeT k) 0) else (0, 0)
/-- By how much a measure can be above another one, and the error. -/
def apartE (t : Tp) (s a o h : Int) : Int := solvedE t (sel3 [s, o] [a, h] [])
def apartV (t : Tp) (s a o h : Int) : Int × Int := if apartE t s a o h = 0 then (-(bdV t 0 (nodeC s a) (nodeC o h)), bdV t 0 (nodeC o h) (nodeC s a)) else (0, 0)
set_option maxRecDepth 100000 in
set_option maxHeartbeats 2000000 in
theorem pull_all (t : Tp) (gv rv lv : Value) (k : Int) (w : World) (ht : IsTp w gv rv lv t) (hl1 : t.gr.length ≤ 1000) (hl2 : t.rd.length ≤ 1000) (hl3 : t.lk.length ≤ 1000) :
    Calls Try.prog 35 #[tpV t gv rv lv, .int .i64 k] w fun e w' => e = .returned (.tuple #[.agg #[.int .i64 (pullV t k).1, .int .i64 (pullV t k).2], .int .i64 (pullE t k)]) ∧ Ext [] w w' := by
  have hone := tp_one ht
  have HK : Hid (∀ (W : World) (b1 : Nat), Ext [] w W → W.heap[b1]? = some (.cells #[.int .i64 k] 3 (0, 0)) → Calls Try.prog 90 #[tpV t gv rv lv, .slice none 0 0, .slice none 0 0, .slice (some ⟨b1, 0, none⟩) 1 1] W fun e w' => e = .returned (.tuple #[.agg (openV t (sel3 [] [] [k]) gv rv lv), .agg (matCells (solvedM t (sel3 [] [] [k]))), .int .i64 (pullE t k)]) ∧ Ext [] W w') :=
    fun W b1 e h1 => solved_any t gv rv lv (sel3 [] [] [k]) (sel3 none none (some ⟨b1, 0, none⟩)) (sel3 0 0 1) W (ht.ext e (by simp)) hl1 hl2 hl3 (rows3 (rows_nil _ _ _) (rows_nil _ _ _) (rows_lit [k] 1 h1)) (fun i hi => by rcases i with _ | _ | i <;> simp [sel3])
  clear ht
  have E : Ext [] w w := Ext.refl _ _
  have hVs := openV_size t (sel3 [] [] [k]) gv rv lv
  have hVo := openV_one (t := t) (xs := sel3 [] [] [k]) hone
  generalize openV t (sel3 [] [] [k]) gv rv lv = X at HK hVs hVo
  by_cases h : pullE t k = 0
  · obtain ⟨h1, h2⟩ := solved_open h
    have ok := (checkE_zero.1 (openE_check h1)).1
    have ks := ask_known h1 (i := 2) (by omega) (n := k) (by simp [sel3])
    have k1 := ok.T3
    rw [show lim t 2 = t.T from rfl] at ks
    rw [show solvedM t (sel3 [] [] [k]) = bdV t 0 from if_pos h1, h] at HK
    rw [show pullV t k = (-(bdV t 0 0 (nodeT k)), bdV t 0 (nodeT k) 0) from if_pos h, h]
    have big := bd_big ok 0 (p := 0) (q := nodeT k) (by omega) (by unfold nodeT; omega)
    clear h h1 h2 ok
    obtain ⟨m, hm⟩ : ∃ m, m = bdV t 0 := ⟨_, rfl⟩
    rw [← hm] at HK big ⊢
    clear hm
    unfold nodeT at big ⊢
    unfold tpV at HK ⊢
    go_enter Try.func35, Try.ntmps35
    go_upto_region 0 with (fail)
    refine wp_region_lit ?_
    refine seq_new rfl rfl (R_box (v := .agg _) rfl rfl) (by simp only [List.set_cons_succ, List.set_cons_zero]; exact rfl) fun w1 hw => ?_
    obtain ⟨n2, hn⟩ : ∃ n, n = w.heap.size := ⟨_, rfl⟩
    rw [← hn]
    have l2 : w.heap.size ≤ n2 := by rw [hn]; exact E.size
    have q2 := new_row hw hn
    replace E := ext_alloc E hw
    clear hw hn
    refine seq_new rfl rfl (R_alloc rfl Try.zeroValue23) (by simp only [List.set_cons_succ, List.set_cons_zero]; exact rfl) fun w2 hw => ?_
    obtain ⟨n4, hn⟩ : ∃ n, n = w1.heap.size := ⟨_, rfl⟩
    rw [← hn]
    have l4 : w.heap.size ≤ n4 := by rw [hn]; exact E.size
    have m4_2 : n2 < n4 := by rw [hn]; exact blk_lt q2
    replace q2 := keep_alloc hw q2
    have q4 := new_row hw hn
    replace E := ext_alloc E hw
    clear hw hn
    refine seq_val rfl rfl (R_assign (v := .int .i64 _) rfl rfl) (by simp only [List.set_cons_succ, List.set_cons_zero]; exact rfl) ?_
    refine wpList_nil ?_
    go_upto_region 1 with (fail)
    refine wp_region_lit ?_
    refine seq_val rfl rfl (R_loadBlk rfl rfl Try.underlying28 rfl (by kernel_rfl) q2) (by simp only [List.set_cons_succ, List.set_cons_zero]; exact rfl) ?_
    refine seq_val rfl rfl (R_move (v := .int .i64 _) rfl rfl) (by simp only [List.set_cons_succ, List.set_cons_zero]; exact rfl) ?_
    refine seq_new rfl rfl (R_buildSlice rfl Try.underlying29 (size := 1) (by kernel_rfl) (by decide) (by decide) Try.zeroValue3 (cells := #[.int .i64 k]) (by kernel_rfl)) (by simp only [List.set_cons_succ, List.set_cons_zero]; exact rfl) fun w3 hw => ?_
    obtain ⟨n12, hn⟩ : ∃ n, n = w2.heap.size := ⟨_, rfl⟩
    rw [← hn]
    have l12 : w.heap.size ≤ n12 := by rw [hn]; exact E.size
    have m12_2 : n2 < n12 := by rw [hn]; exact blk_lt q2
    have m12_4 : n4 < n12 := by rw [hn]; exact blk_lt q4
    replace q2 := keep_alloc hw q2
    replace q4 := keep_alloc hw q4
    have q12 := new_block hw hn
    replace E := ext_alloc E hw
    clear hw hn
    refine seq_call rfl rfl (by kernel_rfl) (HK.out _ n12 E q12) fun e w4 hR => ?_
    obtain ⟨rfl, e1⟩ := hR
    refine ⟨_, _, rfl, (by simp only [List.set_cons_succ, List.set_cons_zero]; exact rfl), ?_⟩
    replace q2 := (e1).keep0 q2
    replace q4 := (e1).keep0 q4
    replace q12 := (e1).keep0 q12
    replace E := ext_same E (e1)
    refine seq_val rfl rfl (R_move (v := .tuple _) rfl rfl) (by simp only [List.set_cons_succ, List.set_cons_zero]; exact rfl) ?_
    refine seq_val rfl rfl (R_extract rfl rfl (get0)) (by simp only [List.set_cons_succ, List.set_cons_zero]; exact rfl) ?_
    refine seq_val rfl rfl (R_extract rfl rfl (getS (get0))) (by simp only [List.set_cons_succ, List.set_cons_zero]; exact rfl) ?_
    refine seq_val rfl rfl (R_extract rfl rfl (getS (getS (get0)))) (by simp only [List.set_cons_succ, List.set_cons_zero]; exact rfl) ?_
    refine seq_new rfl rfl (R_alloc rfl Try.zeroValue100) (by simp only [List.set_cons_succ, List.set_cons_zero]; exact rfl) fun w5 hw => ?_
    obtain ⟨n6, hn⟩ : ∃ n, n = w4.heap.size := ⟨_, rfl⟩
    rw [← hn]
    have l6 : w.heap.size ≤ n6 := by rw [hn]; exact E.size
    have m6_2 : n2 < n6 := by rw [hn]; exact blk_lt q2
    have m6_4 : n4 < n6 := by rw [hn]; exact blk_lt q4
    have m6_12 : n12 < n6 := by rw [hn]; exact blk_lt q12
    replace q2 := keep_alloc hw q2
    replace q4 := keep_alloc hw q4
    replace q12 := keep_alloc hw q12
    have q6 := new_row hw hn
    replace E := ext_alloc E hw
    clear hw hn
    refine seq_new rfl rfl (R_alloc rfl Try.zeroValue105) (by simp only [List.set_cons_succ, List.set_cons_zero]; exact rfl) fun w6 hw => ?_
    obtain ⟨n7, hn⟩ : ∃ n, n = w5.heap.size := ⟨_, rfl⟩
    rw [← hn]
    have l7 : w.heap.size ≤ n7 := by rw [hn]; exact E.size
    have m7_2 : n2 < n7 := by rw [hn]; exact blk_lt q2
    have m7_4 : n4 < n7 := by rw [hn]; exact blk_lt q4
    have m7_12 : n12 < n7 := by rw [hn]; exact blk_lt q12
    have m7_6 : n6 < n7 := by rw [hn]; exact blk_lt q6
    replace q2 := keep_alloc hw q2
    replace q4 := keep_alloc hw q4
    replace q12 := keep_alloc hw q12
    replace q6 := keep_alloc hw q6
    have q7 := new_row hw hn
    replace E := ext_alloc E hw
    clear hw hn
    refine seq_to rfl rfl (R_storeRow rfl rfl rfl (by rw [hVs]; kernel_rfl) hVo q6 (by rw [hVs]; rfl)) fun w7 hw => ?_
    replace q2 := keep_cells hw q2 (by omega)
    replace q4 := keep_cells hw q4 (by omega)
    replace q12 := keep_cells hw q12 (by omega)
    replace q6 := put_row hw q6 (by rw [hVs]; rfl)
    replace q7 := keep_cells hw q7 (by omega)
    replace E := ext_cells E hw (fun h => by first | exact absurd h (by omega) | simp)
    clear hw
    refine seq_to rfl rfl (R_storeRow rfl rfl rfl (by rw [matCells_size]; kernel_rfl) (by rw [← matList_toArray]; exact all_oneCell_toArray (matList_one _)) q7 (by show Try.zeroCells105.size = _; rw [Try.zeroCells105_size, matCells_size])) fun w8 hw => ?_
    replace q2 := keep_cells hw q2 (by omega)
    replace q4 := keep_cells hw q4 (by omega)
    replace q12 := keep_cells hw q12 (by omega)
    replace q6 := keep_cells hw q6 (by omega)
    replace q7 := put_row hw q7 (by show Try.zeroCells105.size = _; rw [Try.zeroCells105_size, matCells_size])
    replace E := ext_cells E hw (fun h => by first | exact absurd h (by omega) | simp)
    clear hw
    refine seq_val rfl rfl (R_assign (v := .int .i64 _) rfl rfl) (by simp only [List.set_cons_succ, List.set_cons_zero]; exact rfl) ?_
    refine wpList_nil ?_
    clear e1
    go_upto_region 4 with (fail)
    refine wp_region_lit ?_
    refine seq_val rfl rfl (R_loadBlk rfl rfl Try.underlying105 rfl (by rw [matCells_size]; kernel_rfl) q7) (by simp only [List.set_cons_succ, List.set_cons_zero]; exact rfl) ?_
    refine seq_val rfl rfl (R_move (v := .int .i64 _) rfl rfl) (by simp only [List.set_cons_succ, List.set_cons_zero]; exact rfl) ?_
    refine seq_call rfl rfl (by kernel_rfl) (pull_any m k _ (by omega) (by omega) big.1 big.2) fun e w9 hR => ?_
    obtain ⟨rfl, hb⟩ := hR
    refine ⟨_, _, rfl, (by simp only [List.set_cons_succ, List.set_cons_zero]; exact rfl), ?_⟩
    replace q2 := (Ext.of_below hb).keep0 q2
    replace q4 := (Ext.of_below hb).keep0 q4
    replace q12 := (Ext.of_below hb).keep0 q12
    replace q6 := (Ext.of_below hb).keep0 q6
    replace q7 := (Ext.of_below hb).keep0 q7
    replace E := ext_same E (Ext.of_below hb)
    refine seq_to rfl rfl (R_storeRow rfl rfl rfl (by kernel_rfl) (by simp [Value.oneCell']) q4 rfl) fun w10 hw => ?_
    replace q2 := keep_cells hw q2 (by omega)
    replace q4 := put_row hw q4 rfl
    replace q12 := keep_cells hw q12 (by omega)
    replace q6 := keep_cells hw q6 (by omega)
    replace q7 := keep_cells hw q7 (by omega)
    replace E := ext_cells E hw (fun h => by first | exact absurd h (by omega) | simp)
    clear hw
    refine seq_val rfl rfl (R_assign (v := .int .i64 _) rfl rfl) (by simp only [List.set_cons_succ, List.set_cons_zero]; exact rfl) ?_
    refine wpList_nil ?_
    go_wp2
    refine bodyPost_ret (res_ct rfl rfl Try.underlying23 rfl (by kernel_rfl) q4 rfl) rfl ⟨rfl, E⟩
  · rw [show pullV t k = (0, 0) from if_neg h]
    obtain ⟨ce, hce⟩ : ∃ ce, ce = pullE t k := ⟨_, rfl⟩
    rw [← hce] at h HK ⊢
    clear hce
    have hb : (ce != 0) = true := by simpa using h
    generalize solvedM t (sel3 [] [] [k]) = m at HK
    unfold tpV at HK ⊢
    go_enter Try.func35, Try.ntmps35
    go_upto_region 0 with (fail)
    refine wp_region_lit ?_
    refine seq_new rfl rfl (R_box (v := .agg _) rfl rfl) (by simp only [List.set_cons_succ, List.set_cons_zero]; exact rfl) fun w1 hw => ?_
    obtain ⟨n2, hn⟩ : ∃ n, n = w.heap.size := ⟨_, rfl⟩
    rw [← hn]
    have l2 : w.heap.size ≤ n2 := by rw [hn]; exact E.size
    have q2 := new_row hw hn
    replace E := ext_alloc E hw
    clear hw hn
    refine seq_new rfl rfl (R_alloc rfl Try.zeroValue23) (by simp only [List.set_cons_succ, List.set_cons_zero]; exact rfl) fun w2 hw => ?_
    obtain ⟨n4, hn⟩ : ∃ n, n = w1.heap.size := ⟨_, rfl⟩
    rw [← hn]
    have l4 : w.heap.size ≤ n4 := by rw [hn]; exact E.size
    have m4_2 : n2 < n4 := by rw [hn]; exact blk_lt q2
    replace q2 := keep_alloc hw q2
    have q4 := new_row hw hn
    replace E := ext_alloc E hw
    clear hw hn
    refine seq_val rfl rfl (R_assign (v := .int .i64 _) rfl rfl) (by simp only [List.set_cons_succ, List.set_cons_zero]; exact rfl) ?_
    refine wpList_nil ?_
    go_upto_region 1 with (fail)
    refine wp_region_lit ?_
    refine seq_val rfl rfl (R_loadBlk rfl rfl Try.underlying28 rfl (by kernel_rfl) q2) (by simp only [List.set_cons_succ, List.set_cons_zero]; exact rfl) ?_
    refine seq_val rfl rfl (R_move (v := .int .i64 _) rfl rfl) (by simp only [List.set_cons_succ, List.set_cons_zero]; exact rfl) ?_
    refine seq_new rfl rfl (R_buildSlice rfl Try.underlying29 (size := 1) (by kernel_rfl) (by decide) (by decide) Try.zeroValue3 (cells := #[.int .i64 k]) (by kernel_rfl)) (by simp only [List.set_cons_succ, List.set_cons_zero]; exact rfl) fun w3 hw => ?_
    obtain ⟨n12, hn⟩ : ∃ n, n = w2.heap.size := ⟨_, rfl⟩
    rw [← hn]
    have l12 : w.heap.size ≤ n12 := by rw [hn]; exact E.size
    have m12_2 : n2 < n12 := by rw [hn]; exact blk_lt q2
    have m12_4 : n4 < n12 := by rw [hn]; exact blk_lt q4
    replace q2 := keep_alloc hw q2
    replace q4 := keep_alloc hw q4
    have q12 := new_block hw hn
    replace E := ext_alloc E hw
    clear hw hn
    refine seq_call rfl rfl (by kernel_rfl) (HK.out _ n12 E q12) fun e w4 hR => ?_
    obtain ⟨rfl, e1⟩ := hR
    refine ⟨_, _, rfl, (by simp only [List.set_cons_succ, List.set_cons_zero]; exact rfl), ?_⟩
    replace q2 := (e1).keep0 q2
    replace q4 := (e1).keep0 q4
    replace q12 := (e1).keep0 q12
    replace E := ext_same E (e1)
    refine seq_val rfl rfl (R_move (v := .tuple _) rfl rfl) (by simp only [List.set_cons_succ, List.set_cons_zero]; exact rfl) ?_
    refine seq_val rfl rfl (R_extract rfl rfl (get0)) (by simp only [List.set_cons_succ, List.set_cons_zero]; exact rfl) ?_
    refine seq_val rfl rfl (R_extract rfl rfl (getS (get0))) (by simp only [List.set_cons_succ, List.set_cons_zero]; exact rfl) ?_
    refine seq_val rfl rfl (R_extract rfl rfl (getS (getS (get0)))) (by simp only [List.set_cons_succ, List.set_cons_zero]; exact rfl) ?_
    refine seq_new rfl rfl (R_alloc rfl Try.zeroValue100) (by simp only [List.set_cons_succ, List.set_cons_zero]; exact rfl) fun w5 hw => ?_
    obtain ⟨n6, hn⟩ : ∃ n, n = w4.heap.size := ⟨_, rfl⟩
    rw [← hn]
    have l6 : w.heap.size ≤ n6 := by rw [hn]; exact E.size
    have m6_2 : n2 < n6 := by rw [hn]; exact blk_lt q2
    have m6_4 : n4 < n6 := by rw [hn]; exact blk_lt q4
    have m6_12 : n12 < n6 := by rw [hn]; exact blk_lt q12
    replace q2 := keep_alloc hw q2
    replace q4 := keep_alloc hw q4
    replace q12 := keep_alloc hw q12
    have q6 := new_row hw hn
    replace E := ext_alloc E hw
    clear hw hn
    refine seq_new rfl rfl (R_alloc rfl Try.zeroValue105) (by simp only [List.set_cons_succ, List.set_cons_zero]; exact rfl) fun w6 hw => ?_
    obtain ⟨n7, hn⟩ : ∃ n, n = w5.heap.size := ⟨_, rfl⟩
    rw [← hn]
    have l7 : w.heap.size ≤ n7 := by rw [hn]; exact E.size
    have m7_2 : n2 < n7 := by rw [hn]; exact blk_lt q2
    have m7_4 : n4 < n7 := by rw [hn]; exact blk_lt q4
    have m7_12 : n12 < n7 := by rw [hn]; exact blk_lt q12
    have m7_6 : n6 < n7 := by rw [hn]; exact blk_lt q6
    replace q2 := keep_alloc hw q2
    replace q4 := keep_alloc hw q4
    replace q12 := keep_alloc hw q12
    replace q6 := keep_alloc hw q6
    have q7 := new_row hw hn
    replace E := ext_alloc E hw
    clear hw hn
    refine seq_to rfl rfl (R_storeRow rfl rfl rfl (by rw [hVs]; kernel_rfl) hVo q6 (by rw [hVs]; rfl)) fun w7 hw => ?_
    replace q2 := keep_cells hw q2 (by omega)
    replace q4 := keep_cells hw q4 (by omega)
    replace q12 := keep_cells hw q12 (by omega)
    replace q6 := put_row hw q6 (by rw [hVs]; rfl)
    replace q7 := keep_cells hw q7 (by omega)
    replace E := ext_cells E hw (fun h => by first | exact absurd h (by omega) | simp)
    clear hw
    refine seq_to rfl rfl (R_storeRow rfl rfl rfl (by rw [matCells_size]; kernel_rfl) (by rw [← matList_toArray]; exact all_oneCell_toArray (matList_one _)) q7 (by show Try.zeroCells105.size = _; rw [Try.zeroCells105_size, matCells_size])) fun w8 hw => ?_
    replace q2 := keep_cells hw q2 (by omega)
    replace q4 := keep_cells hw q4 (by omega)
    replace q12 := keep_cells hw q12 (by omega)
    replace q6 := keep_cells hw q6 (by omega)
    replace q7 := put_row hw q7 (by show Try.zeroCells105.size = _; rw [Try.zeroCells105_size, matCells_size])
    replace E := ext_cells E hw (fun h => by first | exact absurd h (by omega) | simp)
    clear hw
    refine seq_val rfl rfl (R_assign (v := .int .i64 _) rfl rfl) (by simp only [List.set_cons_succ, List.set_cons_zero]; exact rfl) ?_
    refine wpList_nil ?_
    clear e1
    go_upto_region 3 with (fail)
    refine wp_region_lit ?_
    refine seq_val rfl rfl (R_build' rfl (cells := #[.int .i64 0, .int .i64 0]) (by kernel_rfl)) (by simp only [List.set_cons_succ, List.set_cons_zero]; exact rfl) ?_
    refine seq_val rfl rfl (R_move (v := .int .i64 _) rfl rfl) (by simp only [List.set_cons_succ, List.set_cons_zero]; exact rfl) ?_
    refine seq_to rfl rfl (R_storeRow rfl rfl rfl (by kernel_rfl) (by simp [Value.oneCell']) q4 rfl) fun w9 hw => ?_
    replace q2 := keep_cells hw q2 (by omega)
    replace q4 := put_row hw q4 rfl
    replace q12 := keep_cells hw q12 (by omega)
    replace q6 := keep_cells hw q6 (by omega)
    replace q7 := keep_cells hw q7 (by omega)
    replace E := ext_cells E hw (fun h => by first | exact absurd h (by omega) | simp)
    clear hw
    refine seq_val rfl rfl (R_assign (v := .int .i64 _) rfl rfl) (by simp only [List.set_cons_succ, List.set_cons_zero]; exact rfl) ?_
    refine wpList_nil ?_
    go_wp2
    refine bodyPost_ret (res_ct rfl rfl Try.underlying23 rfl (by kernel_rfl) q4 rfl) rfl ⟨rfl, E⟩
set_option maxRecDepth 100000 in
set_option maxHeartbeats 2000000 in
theorem apart_all (t : Tp) (gv rv lv : Value) (s a o h : Int) (w : World) (ht : IsTp w gv rv lv t) (hl1 : t.gr.length ≤ 1000) (hl2 : t.rd.length ≤ 1000) (hl3 : t.lk.length ≤ 1000) :
    Calls Try.prog 43 #[tpV t gv rv lv, .int .i64 s, .int .i64 a, .int .i64 o, .int .i64 h] w fun e w' => e = .returned (.tuple #[.agg #[.int .i64 (apartV t s a o h).1, .int .i64 (apartV t s a o h).2], .int .i64 (apartE t s a o h)]) ∧ Ext [] w w' := by
  have hone := tp_one ht
  have HK : Hid (∀ (W : World) (b1 b2 : Nat), Ext [] w W → W.heap[b1]? = some (.cells #[.int .i64 s, .int .i64 o] 3 (0, 0)) → W.heap[b2]? = some (.cells #[.int .i64 a, .int .i64 h] 3 (0, 0)) → Calls Try.prog 90 #[tpV t gv rv lv, .slice (some ⟨b1, 0, none⟩) 2 2, .slice (some ⟨b2, 0, none⟩) 2 2, .slice none 0 0] W fun e w' => e = .returned (.tuple #[.agg (openV t (sel3 [s, o] [a, h] []) gv rv lv), .agg (matCells (solvedM t (sel3 [s, o] [a, h] []))), .int .i64 (apartE t s a o h)]) ∧ Ext [] W w') :=
    fun W b1 b2 e h1 h2 => solved_any t gv rv lv (sel3 [s, o] [a, h] []) (sel3 (some ⟨b1, 0, none⟩) (some ⟨b2, 0, none⟩) none) (sel3 2 2 0) W (ht.ext e (by simp)) hl1 hl2 hl3 (rows3 (rows_lit [s, o] 2 h1) (rows_lit [a, h] 2 h2) (rows_nil _ _ _)) (fun i hi => by rcases i with _ | _ | i <;> simp [sel3])
  clear ht
  have E : Ext [] w w := Ext.refl _ _
  have hVs := openV_size t (sel3 [s, o] [a, h] []) gv rv lv
  have hVo := openV_one (t := t) (xs := sel3 [s, o] [a, h] []) hone
  generalize openV t (sel3 [s, o] [a, h] []) gv rv lv = X at HK hVs hVo
  by_cases hE : apartE t s a o h = 0
  · obtain ⟨h1, h2⟩ := solved_open hE
    have ok := (checkE_zero.1 (openE_check h1)).1
    have ks := ask_known h1 (i := 0) (by omega) (n := s) (by simp [sel3])
    have ka := ask_known h1 (i := 1) (by omega) (n := a) (by simp [sel3])
    have ks2 := ask_known h1 (i := 0) (by omega) (n := o) (by simp [sel3])
    have ka2 := ask_known h1 (i := 1) (by omega) (n := h) (by simp [sel3])
    have k1 := ok.S3
    have k2 := ok.A3
    rw [show lim t 0 = t.S from rfl] at ks ks2
    rw [show lim t 1 = t.A from rfl] at ka ka2
    rw [show solvedM t (sel3 [s, o] [a, h] []) = bdV t 0 from if_pos h1, hE] at HK
    rw [show apartV t s a o h = (-(bdV t 0 (nodeC s a) (nodeC o h)), bdV t 0 (nodeC o h) (nodeC s a)) from if_pos hE, hE]
    have big := bd_big ok 0 (p := nodeC s a) (q := nodeC o h) (by unfold nodeC; omega) (by unfold nodeC; omega)
    clear hE h1 h2 ok
    obtain ⟨m, hm⟩ : ∃ m, m = bdV t 0 := ⟨_, rfl⟩
    rw [← hm] at HK big ⊢
    clear hm
    unfold nodeC at big ⊢
    unfold tpV at HK ⊢
    go_enter Try.func43, Try.ntmps43
    go_upto_region 0 with (fail)
    refine wp_region_lit ?_
    refine seq_new rfl rfl (R_box (v := .agg _) rfl rfl) (by simp only [List.set_cons_succ, List.set_cons_zero]; exact rfl) fun w1 hw => ?_
    obtain ⟨n5, hn⟩ : ∃ n, n = w.heap.size := ⟨_, rfl⟩
    rw [← hn]
    have l5 : w.heap.size ≤ n5 := by rw [hn]; exact E.size
    have q5 := new_row hw hn
    replace E := ext_alloc E hw
    clear hw hn
    refine seq_new rfl rfl (R_alloc rfl Try.zeroValue23) (by simp only [List.set_cons_succ, List.set_cons_zero]; exact rfl) fun w2 hw => ?_
    obtain ⟨n10, hn⟩ : ∃ n, n = w1.heap.size := ⟨_, rfl⟩
    rw [← hn]
    have l10 : w.heap.size ≤ n10 := by rw [hn]; exact E.size
    have m10_5 : n5 < n10 := by rw [hn]; exact blk_lt q5
    replace q5 := keep_alloc hw q5
    have q10 := new_row hw hn
    replace E := ext_alloc E hw
    clear hw hn
    refine seq_val rfl rfl (R_assign (v := .int .i64 _) rfl rfl) (by simp only [List.set_cons_succ, List.set_cons_zero]; exact rfl) ?_
    refine wpList_nil ?_
    go_upto_region 1 with (fail)
    refine wp_region_lit ?_
    refine seq_val rfl rfl (R_loadBlk rfl rfl Try.underlying28 rfl (by kernel_rfl) q5) (by simp only [List.set_cons_succ, List.set_cons_zero]; exact rfl) ?_
    refine seq_val rfl rfl (R_move (v := .int .i64 _) rfl rfl) (by simp only [List.set_cons_succ, List.set_cons_zero]; exact rfl) ?_
    refine seq_val rfl rfl (R_move (v := .int .i64 _) rfl rfl) (by simp only [List.set_cons_succ, List.set_cons_zero]; exact rfl) ?_
    refine seq_new rfl rfl (R_buildSlice rfl Try.underlying29 (size := 1) (by kernel_rfl) (by decide) (by decide) Try.zeroValue3 (cells := #[.int .i64 s, .int .i64 o]) (by kernel_rfl)) (by simp only [List.set_cons_succ, List.set_cons_zero]; exact rfl) fun w3 hw => ?_
    obtain ⟨n19, hn⟩ : ∃ n, n = w2.heap.size := ⟨_, rfl⟩
    rw [← hn]
    have l19 : w.heap.size ≤ n19 := by rw [hn]; exact E.size
    have m19_5 : n5 < n19 := by rw [hn]; exact blk_lt q5
    have m19_10 : n10 < n19 := by rw [hn]; exact blk_lt q10
    replace q5 := keep_alloc hw q5
    replace q10 := keep_alloc hw q10
    have q19 := new_block hw hn
    replace E := ext_alloc E hw
    clear hw hn
    refine seq_val rfl rfl (R_move (v := .int .i64 _) rfl rfl) (by simp only [List.set_cons_succ, List.set_cons_zero]; exact rfl) ?_
    refine seq_val rfl rfl (R_move (v := .int .i64 _) rfl rfl) (by simp only [List.set_cons_succ, List.set_cons_zero]; exact rfl) ?_
    refine seq_new rfl rfl (R_buildSlice rfl Try.underlying29 (size := 1) (by kernel_rfl) (by decide) (by decide) Try.zeroValue3 (cells := #[.int .i64 a, .int .i64 h]) (by kernel_rfl)) (by simp only [List.set_cons_succ, List.set_cons_zero]; exact rfl) fun w4 hw => ?_
    obtain ⟨n22, hn⟩ : ∃ n, n = w3.heap.size := ⟨_, rfl⟩
    rw [← hn]
    have l22 : w.heap.size ≤ n22 := by rw [hn]; exact E.size
    have m22_5 : n5 < n22 := by rw [hn]; exact blk_lt q5
    have m22_10 : n10 < n22 := by rw [hn]; exact blk_lt q10
    have m22_19 : n19 < n22 := by rw [hn]; exact blk_lt q19
    replace q5 := keep_alloc hw q5
    replace q10 := keep_alloc hw q10
    replace q19 := keep_alloc hw q19
    have q22 := new_block hw hn
    replace E := ext_alloc E hw
    clear hw hn
    refine seq_call rfl rfl (by kernel_rfl) (HK.out _ n19 n22 E q19 q22) fun e w5 hR => ?_
    obtain ⟨rfl, e1⟩ := hR
    refine ⟨_, _, rfl, (by simp only [List.set_cons_succ, List.set_cons_zero]; exact rfl), ?_⟩
    replace q5 := (e1).keep0 q5
    replace q10 := (e1).keep0 q10
    replace q19 := (e1).keep0 q19
    replace q22 := (e1).keep0 q22
    replace E := ext_same E (e1)
    refine seq_val rfl rfl (R_move (v := .tuple _) rfl rfl) (by simp only [List.set_cons_succ, List.set_cons_zero]; exact rfl) ?_
    refine seq_val rfl rfl (R_extract rfl rfl (get0)) (by simp only [List.set_cons_succ, List.set_cons_zero]; exact rfl) ?_
    refine seq_val rfl rfl (R_extract rfl rfl (getS (get0))) (by simp only [List.set_cons_succ, List.set_cons_zero]; exact rfl) ?_
    refine seq_val rfl rfl (R_extract rfl rfl (getS (getS (get0)))) (by simp only [List.set_cons_succ, List.set_cons_zero]; exact rfl) ?_
    refine seq_new rfl rfl (R_alloc rfl Try.zeroValue100) (by simp only [List.set_cons_succ, List.set_cons_zero]; exact rfl) fun w6 hw => ?_
    obtain ⟨n12, hn⟩ : ∃ n, n = w5.heap.size := ⟨_, rfl⟩
    rw [← hn]
    have l12 : w.heap.size ≤ n12 := by rw [hn]; exact E.size
    have m12_5 : n5 < n12 := by rw [hn]; exact blk_lt q5
    have m12_10 : n10 < n12 := by rw [hn]; exact blk_lt q10
    have m12_19 : n19 < n12 := by rw [hn]; exact blk_lt q19
    have m12_22 : n22 < n12 := by rw [hn]; exact blk_lt q22
    replace q5 := keep_alloc hw q5
    replace q10 := keep_alloc hw q10
    replace q19 := keep_alloc hw q19
    replace q22 := keep_alloc hw q22
    have q12 := new_row hw hn
    replace E := ext_alloc E hw
    clear hw hn
    refine seq_new rfl rfl (R_alloc rfl Try.zeroValue105) (by simp only [List.set_cons_succ, List.set_cons_zero]; exact rfl) fun w7 hw => ?_
    obtain ⟨n13, hn⟩ : ∃ n, n = w6.heap.size := ⟨_, rfl⟩
    rw [← hn]
    have l13 : w.heap.size ≤ n13 := by rw [hn]; exact E.size
    have m13_5 : n5 < n13 := by rw [hn]; exact blk_lt q5
    have m13_10 : n10 < n13 := by rw [hn]; exact blk_lt q10
    have m13_19 : n19 < n13 := by rw [hn]; exact blk_lt q19
    have m13_22 : n22 < n13 := by rw [hn]; exact blk_lt q22
    have m13_12 : n12 < n13 := by rw [hn]; exact blk_lt q12
    replace q5 := keep_alloc hw q5
    replace q10 := keep_alloc hw q10
    replace q19 := keep_alloc hw q19
    replace q22 := keep_alloc hw q22
    replace q12 := keep_alloc hw q12
    have q13 := new_row hw hn
    replace E := ext_alloc E hw
    clear hw hn
    refine seq_to rfl rfl (R_storeRow rfl rfl rfl (by rw [hVs]; kernel_rfl) hVo q12 (by rw [hVs]; rfl)) fun w8 hw => ?_
    replace q5 := keep_cells hw q5 (by omega)
    replace q10 := keep_cells hw q10 (by omega)
    replace q19 := keep_cells hw q19 (by omega)
    replace q22 := keep_cells hw q22 (by omega)
    replace q12 := put_row hw q12 (by rw [hVs]; rfl)
    replace q13 := keep_cells hw q13 (by omega)
    replace E := ext_cells E hw (fun h => by first | exact absurd h (by omega) | simp)
    clear hw
    refine seq_to rfl rfl (R_storeRow rfl rfl rfl (by rw [matCells_size]; kernel_rfl) (by rw [← matList_toArray]; exact all_oneCell_toArray (matList_one _)) q13 (by show Try.zeroCells105.size = _; rw [Try.zeroCells105_size, matCells_size])) fun w9 hw => ?_
    replace q5 := keep_cells hw q5 (by omega)
    replace q10 := keep_cells hw q10 (by omega)
    replace q19 := keep_cells hw q19 (by omega)
    replace q22 := keep_cells hw q22 (by omega)
    replace q12 := keep_cells hw q12 (by omega)
    replace q13 := put_row hw q13 (by show Try.zeroCells105.size = _; rw [Try.zeroCells105_size, matCells_size])
    replace E := ext_cells E hw (fun h => by first | exact absurd h (by omega) | simp)
    clear hw
    refine seq_val rfl rfl (R_assign (v := .int .i64 _) rfl rfl) (by simp only [List.set_cons_succ, List.set_cons_zero]; exact rfl) ?_
    refine wpList_nil ?_
    clear e1
    go_upto_region 4 with (fail)
    refine wp_region_st 7 follows (by kernel_rfl) fun w10 hw10 ew10 => ?_
    replace q5 := keep_same hw10 q5
    replace q10 := keep_same hw10 q10
    replace q19 := keep_same hw10 q19
    replace q22 := keep_same hw10 q22
    replace q12 := keep_same hw10 q12
    replace q13 := keep_same hw10 q13
    replace E := ext_same E ew10
    clear hw10 ew10
    refine still_val rfl rfl (R_loadBlk rfl rfl Try.underlying105 rfl (by rw [matCells_size]; kernel_rfl) q13) (by simp only [List.set_cons_succ, List.set_cons_zero]; exact rfl) ?_
    refine still_val rfl rfl (R_move (v := .int .i64 _) rfl rfl) (by simp only [List.set_cons_succ, List.set_cons_zero]; exact rfl) ?_
    refine still_val rfl rfl (R_move (v := .int .i64 _) rfl rfl) (by simp only [List.set_cons_succ, List.set_cons_zero]; exact rfl) ?_
    refine still_call rfl rfl (by kernel_rfl) (cell_any o h _ (by omega) (by omega) (by omega) (by omega)) (by simp only [List.set_cons_succ, List.set_cons_zero]; exact rfl) ?_
    refine still_val rfl rfl (R_move (v := .int .i64 _) rfl rfl) (by simp only [List.set_cons_succ, List.set_cons_zero]; exact rfl) ?_
    refine still_val rfl rfl (R_move (v := .int .i64 _) rfl rfl) (by simp only [List.set_cons_succ, List.set_cons_zero]; exact rfl) ?_
    refine still_call rfl rfl (by kernel_rfl) (cell_any s a _ (by omega) (by omega) (by omega) (by omega)) (by simp only [List.set_cons_succ, List.set_cons_zero]; exact rfl) ?_
    refine wpStill_nil ?_
    refine seq_call rfl rfl (by kernel_rfl) (apart_any m (1 + o * 3 + h) (1 + s * 3 + a) _ (by omega) (by omega) (by omega) (by omega) big.1 big.2) fun e w11 hR => ?_
    obtain ⟨rfl, hb⟩ := hR
    refine ⟨_, _, rfl, (by simp only [List.set_cons_succ, List.set_cons_zero]; exact rfl), ?_⟩
    replace q5 := (Ext.of_below hb).keep0 q5
    replace q10 := (Ext.of_below hb).keep0 q10
    replace q19 := (Ext.of_below hb).keep0 q19
    replace q22 := (Ext.of_below hb).keep0 q22
    replace q12 := (Ext.of_below hb).keep0 q12
    replace q13 := (Ext.of_below hb).keep0 q13
    replace E := ext_same E (Ext.of_below hb)
    refine seq_to rfl rfl (R_storeRow rfl rfl rfl (by kernel_rfl) (by simp [Value.oneCell']) q10 rfl) fun w12 hw => ?_
    replace q5 := keep_cells hw q5 (by omega)
    replace q10 := put_row hw q10 rfl
    replace q19 := keep_cells hw q19 (by omega)
    replace q22 := keep_cells hw q22 (by omega)
    replace q12 := keep_cells hw q12 (by omega)
    replace q13 := keep_cells hw q13 (by omega)
    replace E := ext_cells E hw (fun h => by first | exact absurd h (by omega) | simp)
    clear hw
    refine seq_val rfl rfl (R_assign (v := .int .i64 _) rfl rfl) (by simp only [List.set_cons_succ, List.set_cons_zero]; exact rfl) ?_
    refine wpList_nil ?_
    go_wp2
    refine bodyPost_ret (res_ct rfl rfl Try.underlying23 rfl (by kernel_rfl) q10 rfl) rfl ⟨rfl, E⟩
  · rw [show apartV t s a o h = (0, 0) from if_neg hE]
    obtain ⟨ce, hce⟩ : ∃ ce, ce = apartE t s a o h := ⟨_, rfl⟩
    rw [← hce] at hE HK ⊢
    clear hce
    have hb : (ce != 0) = true := by simpa using hE
    generalize solvedM t (sel3 [s, o] [a, h] []) = m at HK
    unfold tpV at HK ⊢
    go_enter Try.func43, Try.ntmps43
    go_upto_region 0 with (fail)
    refine wp_region_lit ?_
    refine seq_new rfl rfl (R_box (v := .agg _) rfl rfl) (by simp only [List.set_cons_succ, List.set_cons_zero]; exact rfl) fun w1 hw => ?_
    obtain ⟨n5, hn⟩ : ∃ n, n = w.heap.size := ⟨_, rfl⟩
    rw [← hn]
    have l5 : w.heap.size ≤ n5 := by rw [hn]; exact E.size
    have q5 := new_row hw hn
    replace E := ext_alloc E hw
    clear hw hn
    refine seq_new rfl rfl (R_alloc rfl Try.zeroValue23) (by simp only [List.set_cons_succ, List.set_cons_zero]; exact rfl) fun w2 hw => ?_
    obtain ⟨n10, hn⟩ : ∃ n, n = w1.heap.size := ⟨_, rfl⟩
    rw [← hn]
    have l10 : w.heap.size ≤ n10 := by rw [hn]; exact E.size
    have m10_5 : n5 < n10 := by rw [hn]; exact blk_lt q5
    replace q5 := keep_alloc hw q5
    have q10 := new_row hw hn
    replace E := ext_alloc E hw
    clear hw hn
    refine seq_val rfl rfl (R_assign (v := .int .i64 _) rfl rfl) (by simp only [List.set_cons_succ, List.set_cons_zero]; exact rfl) ?_
    refine wpList_nil ?_
    go_upto_region 1 with (fail)
    refine wp_region_lit ?_
    refine seq_val rfl rfl (R_loadBlk rfl rfl Try.underlying28 rfl (by kernel_rfl) q5) (by simp only [List.set_cons_succ, List.set_cons_zero]; exact rfl) ?_
    refine seq_val rfl rfl (R_move (v := .int .i64 _) rfl rfl) (by simp only [List.set_cons_succ, List.set_cons_zero]; exact rfl) ?_
    refine seq_val rfl rfl (R_move (v := .int .i64 _) rfl rfl) (by simp only [List.set_cons_succ, List.set_cons_zero]; exact rfl) ?_
    refine seq_new rfl rfl (R_buildSlice rfl Try.underlying29 (size := 1) (by kernel_rfl) (by decide) (by decide) Try.zeroValue3 (cells := #[.int .i64 s, .int .i64 o]) (by kernel_rfl)) (by simp only [List.set_cons_succ, List.set_cons_zero]; exact rfl) fun w3 hw => ?_
    obtain ⟨n19, hn⟩ : ∃ n, n = w2.heap.size := ⟨_, rfl⟩
    rw [← hn]
    have l19 : w.heap.size ≤ n19 := by rw [hn]; exact E.size
    have m19_5 : n5 < n19 := by rw [hn]; exact blk_lt q5
    have m19_10 : n10 < n19 := by rw [hn]; exact blk_lt q10
    replace q5 := keep_alloc hw q5
    replace q10 := keep_alloc hw q10
    have q19 := new_block hw hn
    replace E := ext_alloc E hw
    clear hw hn
    refine seq_val rfl rfl (R_move (v := .int .i64 _) rfl rfl) (by simp only [List.set_cons_succ, List.set_cons_zero]; exact rfl) ?_
    refine seq_val rfl rfl (R_move (v := .int .i64 _) rfl rfl) (by simp only [List.set_cons_succ, List.set_cons_zero]; exact rfl) ?_
    refine seq_new rfl rfl (R_buildSlice rfl Try.underlying29 (size := 1) (by kernel_rfl) (by decide) (by decide) Try.zeroValue3 (cells := #[.int .i64 a, .int .i64 h]) (by kernel_rfl)) (by simp only [List.set_cons_succ, List.set_cons_zero]; exact rfl) fun w4 hw => ?_
    obtain ⟨n22, hn⟩ : ∃ n, n = w3.heap.size := ⟨_, rfl⟩
    rw [← hn]
    have l22 : w.heap.size ≤ n22 := by rw [hn]; exact E.size
    have m22_5 : n5 < n22 := by rw [hn]; exact blk_lt q5
    have m22_10 : n10 < n22 := by rw [hn]; exact blk_lt q10
    have m22_19 : n19 < n22 := by rw [hn]; exact blk_lt q19
    replace q5 := keep_alloc hw q5
    replace q10 := keep_alloc hw q10
    replace q19 := keep_alloc hw q19
    have q22 := new_block hw hn
    replace E := ext_alloc E hw
    clear hw hn
    refine seq_call rfl rfl (by kernel_rfl) (HK.out _ n19 n22 E q19 q22) fun e w5 hR => ?_
    obtain ⟨rfl, e1⟩ := hR
    refine ⟨_, _, rfl, (by simp only [List.set_cons_succ, List.set_cons_zero]; exact rfl), ?_⟩
    replace q5 := (e1).keep0 q5
    replace q10 := (e1).keep0 q10
    replace q19 := (e1).keep0 q19
    replace q22 := (e1).keep0 q22
    replace E := ext_same E (e1)
    refine seq_val rfl rfl (R_move (v := .tuple _) rfl rfl) (by simp only [List.set_cons_succ, List.set_cons_zero]; exact rfl) ?_
    refine seq_val rfl rfl (R_extract rfl rfl (get0)) (by simp only [List.set_cons_succ, List.set_cons_zero]; exact rfl) ?_
    refine seq_val rfl rfl (R_extract rfl rfl (getS (get0))) (by simp only [List.set_cons_succ, List.set_cons_zero]; exact rfl) ?_
    refine seq_val rfl rfl (R_extract rfl rfl (getS (getS (get0)))) (by simp only [List.set_cons_succ, List.set_cons_zero]; exact rfl) ?_
    refine seq_new rfl rfl (R_alloc rfl Try.zeroValue100) (by simp only [List.set_cons_succ, List.set_cons_zero]; exact rfl) fun w6 hw => ?_
    obtain ⟨n12, hn⟩ : ∃ n, n = w5.heap.size := ⟨_, rfl⟩
    rw [← hn]
    have l12 : w.heap.size ≤ n12 := by rw [hn]; exact E.size
    have m12_5 : n5 < n12 := by rw [hn]; exact blk_lt q5
    have m12_10 : n10 < n12 := by rw [hn]; exact blk_lt q10
    have m12_19 : n19 < n12 := by rw [hn]; exact blk_lt q19
    have m12_22 : n22 < n12 := by rw [hn]; exact blk_lt q22
    replace q5 := keep_alloc hw q5
    replace q10 := keep_alloc hw q10
    replace q19 := keep_alloc hw q19
    replace q22 := keep_alloc hw q22
    have q12 := new_row hw hn
    replace E := ext_alloc E hw
    clear hw hn
    refine seq_new rfl rfl (R_alloc rfl Try.zeroValue105) (by simp only [List.set_cons_succ, List.set_cons_zero]; exact rfl) fun w7 hw => ?_
    obtain ⟨n13, hn⟩ : ∃ n, n = w6.heap.size := ⟨_, rfl⟩
    rw [← hn]
    have l13 : w.heap.size ≤ n13 := by rw [hn]; exact E.size
    have m13_5 : n5 < n13 := by rw [hn]; exact blk_lt q5
    have m13_10 : n10 < n13 := by rw [hn]; exact blk_lt q10
    have m13_19 : n19 < n13 := by rw [hn]; exact blk_lt q19
    have m13_22 : n22 < n13 := by rw [hn]; exact blk_lt q22
    have m13_12 : n12 < n13 := by rw [hn]; exact blk_lt q12
    replace q5 := keep_alloc hw q5
    replace q10 := keep_alloc hw q10
    replace q19 := keep_alloc hw q19
    replace q22 := keep_alloc hw q22
    replace q12 := keep_alloc hw q12
    have q13 := new_row hw hn
    replace E := ext_alloc E hw
    clear hw hn
    refine seq_to rfl rfl (R_storeRow rfl rfl rfl (by rw [hVs]; kernel_rfl) hVo q12 (by rw [hVs]; rfl)) fun w8 hw => ?_
    replace q5 := keep_cells hw q5 (by omega)
    replace q10 := keep_cells hw q10 (by omega)
    replace q19 := keep_cells hw q19 (by omega)
    replace q22 := keep_cells hw q22 (by omega)
    replace q12 := put_row hw q12 (by rw [hVs]; rfl)
    replace q13 := keep_cells hw q13 (by omega)
    replace E := ext_cells E hw (fun h => by first | exact absurd h (by omega) | simp)
    clear hw
    refine seq_to rfl rfl (R_storeRow rfl rfl rfl (by rw [matCells_size]; kernel_rfl) (by rw [← matList_toArray]; exact all_oneCell_toArray (matList_one _)) q13 (by show Try.zeroCells105.size = _; rw [Try.zeroCells105_size, matCells_size])) fun w9 hw => ?_
    replace q5 := keep_cells hw q5 (by omega)
    replace q10 := keep_cells hw q10 (by omega)
    replace q19 := keep_cells hw q19 (by omega)
    replace q22 := keep_cells hw q22 (by omega)
    replace q12 := keep_cells hw q12 (by omega)
    replace q13 := put_row hw q13 (by show Try.zeroCells105.size = _; rw [Try.zeroCells105_size, matCells_size])
    replace E := ext_cells E hw (fun h => by first | exact absurd h (by omega) | simp)
    clear hw
    refine seq_val rfl rfl (R_assign (v := .int .i64 _) rfl rfl) (by simp only [List.set_cons_succ, List.set_cons_zero]; exact rfl) ?_
    refine wpList_nil ?_
    clear e1
    go_upto_region 3 with (fail)
    refine wp_region_lit ?_
    refine seq_val rfl rfl (R_build' rfl (cells := #[.int .i64 0, .int .i64 0]) (by kernel_rfl)) (by simp only [List.set_cons_succ, List.set_cons_zero]; exact rfl) ?_
    refine seq_val rfl rfl (R_move (v := .int .i64 _) rfl rfl) (by simp only [List.set_cons_succ, List.set_cons_zero]; exact rfl) ?_
    refine seq_to rfl rfl (R_storeRow rfl rfl rfl (by kernel_rfl) (by simp [Value.oneCell']) q10 rfl) fun w10 hw => ?_
    replace q5 := keep_cells hw q5 (by omega)
    replace q10 := put_row hw q10 rfl
    replace q19 := keep_cells hw q19 (by omega)
    replace q22 := keep_cells hw q22 (by omega)
    replace q12 := keep_cells hw q12 (by omega)
    replace q13 := keep_cells hw q13 (by omega)
    replace E := ext_cells E hw (fun h => by first | exact absurd h (by omega) | simp)
    clear hw
    refine seq_val rfl rfl (R_assign (v := .int .i64 _) rfl rfl) (by simp only [List.set_cons_succ, List.set_cons_zero]; exact rfl) ?_
    refine wpList_nil ?_
    go_wp2
    refine bodyPost_ret (res_ct rfl rfl Try.underlying23 rfl (by kernel_rfl) q10 rfl) rfl ⟨rfl, E⟩
end Go.Proofs.Ytholfdgebdlgjaa
