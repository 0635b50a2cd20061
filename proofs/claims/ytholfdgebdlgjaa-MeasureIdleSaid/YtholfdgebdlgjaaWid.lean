/- The walks of Wider and possible. Conditions: lists of at most 1000. -/
import Derived.Test.YtholfdgebdlgjaaMea2
namespace Go.Proofs.Ytholfdgebdlgjaa
open Go.RowKit
set_option linter.unusedVariables false
set_option linter.unusedSimpArgs false
/-- Whether a singer is wider than another one, and the error. -/
def widE (t : Tp) (s o a : Int) : Int := if openE t (sel3 [s, o] [a] []) ≠ 0 then openE t (sel3 [s, o] [a] []) else if s = o then 4 else apartE t s a o a
def widV (t : Tp) (s o a : Int) : Int := if widE t s o a = 0 then (if 0 < (apartV t s a o a).1 then 1 else if (apartV t s a o a).2 ≤ 0 then 2 else 3) else 0
set_option maxRecDepth 100000 in
set_option maxHeartbeats 2000000 in
theorem wider_any (t : Tp) (gv rv lv : Value) (s o a : Int) (w : World) (ht : IsTp w gv rv lv t) (hl1 : t.gr.length ≤ 1000) (hl2 : t.rd.length ≤ 1000) (hl3 : t.lk.length ≤ 1000) :
    Calls Try.prog 63 #[tpV t gv rv lv, .int .i64 s, .int .i64 o, .int .i64 a] w fun e w' => e = .returned (.tuple #[.int .i64 (widV t s o a), .int .i64 (widE t s o a)]) ∧ Ext [] w w' := by
  have hone := tp_one ht
  have HK : Hid (∀ (W : World) (b1 b2 : Nat), Ext [] w W → W.heap[b1]? = some (.cells #[.int .i64 s, .int .i64 o] 3 (0, 0)) → W.heap[b2]? = some (.cells #[.int .i64 a] 3 (0, 0)) → Calls Try.prog 79 #[tpV t gv rv lv, .slice (some ⟨b1, 0, none⟩) 2 2, .slice (some ⟨b2, 0, none⟩) 1 1, .slice none 0 0] W fun e w' => e = .returned (.tuple #[.agg (openV t (sel3 [s, o] [a] []) gv rv lv), .int .i64 (openE t (sel3 [s, o] [a] []))]) ∧ Ext [] W w') :=
    fun W b1 b2 e h1 h2 => open_any t gv rv lv (sel3 [s, o] [a] []) (sel3 (some ⟨b1, 0, none⟩) (some ⟨b2, 0, none⟩) none) (sel3 2 1 0) W (ht.ext e (by simp)) hl1 hl2 hl3 (rows3 (rows_lit [s, o] 2 h1) (rows_lit [a] 1 h2) (rows_nil _ _ _)) (fun i hi => by rcases i with _ | _ | i <;> simp [sel3])
  have HA : Hid (∀ W : World, Ext [] w W → Calls Try.prog 43 #[tpV t gv rv lv, .int .i64 s, .int .i64 a, .int .i64 o, .int .i64 a] W fun e w' => e = .returned (.tuple #[.agg #[.int .i64 (apartV t s a o a).1, .int .i64 (apartV t s a o a).2], .int .i64 (apartE t s a o a)]) ∧ Ext [] W w') :=
    fun W e => apart_all t gv rv lv s a o a W (ht.ext e (by simp)) hl1 hl2 hl3
  clear ht
  have E : Ext [] w w := Ext.refl _ _
  have hVs := openV_size t (sel3 [s, o] [a] []) gv rv lv
  have hVo := openV_one (t := t) (xs := sel3 [s, o] [a] []) hone
  generalize openV t (sel3 [s, o] [a] []) gv rv lv = X at HK hVs hVo
  have HE : Hid (widE t s o a = if openE t (sel3 [s, o] [a] []) ≠ 0 then openE t (sel3 [s, o] [a] []) else if s = o then 4 else apartE t s a o a) := rfl
  have HV : Hid (widV t s o a = if widE t s o a = 0 then (if 0 < (apartV t s a o a).1 then 1 else if (apartV t s a o a).2 ≤ 0 then 2 else 3) else 0) := rfl
  generalize widE t s o a = we at HE HV ⊢
  generalize widV t s o a = wv at HV ⊢
  generalize apartV t s a o a = av at HA HV
  obtain ⟨r1, r2⟩ := av
  generalize apartE t s a o a = ae at HA HE
  generalize openE t (sel3 [s, o] [a] []) = oe at HK HE
  unfold tpV at HK HA ⊢
  go_enter Try.func63, Try.ntmps63
  go_upto_region 0 with (fail)
  refine wp_region_lit ?_
  refine seq_new rfl rfl (R_box (v := .agg _) rfl rfl) (by simp only [List.set_cons_succ, List.set_cons_zero]; exact rfl) fun w1 hw => ?_
  obtain ⟨n4, hn⟩ : ∃ n, n = w.heap.size := ⟨_, rfl⟩
  rw [← hn]
  have l4 : w.heap.size ≤ n4 := by rw [hn]; exact E.size
  have q4 := new_row hw hn
  replace E := ext_alloc E hw
  clear hw hn
  refine seq_val rfl rfl (R_assign (v := .int .i64 _) rfl rfl) (by simp only [List.set_cons_succ, List.set_cons_zero]; exact rfl) ?_
  refine seq_val rfl rfl (R_assign (v := .int .i64 _) rfl rfl) (by simp only [List.set_cons_succ, List.set_cons_zero]; exact rfl) ?_
  refine wpList_nil ?_
  go_upto_region 1 with (fail)
  refine wp_region_lit ?_
  refine seq_val rfl rfl (R_loadBlk rfl rfl Try.underlying28 rfl (by kernel_rfl) q4) (by simp only [List.set_cons_succ, List.set_cons_zero]; exact rfl) ?_
  refine seq_val rfl rfl (R_move (v := .int .i64 _) rfl rfl) (by simp only [List.set_cons_succ, List.set_cons_zero]; exact rfl) ?_
  refine seq_val rfl rfl (R_move (v := .int .i64 _) rfl rfl) (by simp only [List.set_cons_succ, List.set_cons_zero]; exact rfl) ?_
  refine seq_new rfl rfl (R_buildSlice rfl Try.underlying29 (size := 1) (by kernel_rfl) (by decide) (by decide) Try.zeroValue3 (cells := #[.int .i64 s, .int .i64 o]) (by kernel_rfl)) (by simp only [List.set_cons_succ, List.set_cons_zero]; exact rfl) fun w2 hw => ?_
  obtain ⟨n18, hn⟩ : ∃ n, n = w1.heap.size := ⟨_, rfl⟩
  rw [← hn]
  have l18 : w.heap.size ≤ n18 := by rw [hn]; exact E.size
  have m18_4 : n4 < n18 := by rw [hn]; exact blk_lt q4
  replace q4 := keep_alloc hw q4
  have q18 := new_block hw hn
  replace E := ext_alloc E hw
  clear hw hn
  refine seq_val rfl rfl (R_move (v := .int .i64 _) rfl rfl) (by simp only [List.set_cons_succ, List.set_cons_zero]; exact rfl) ?_
  refine seq_new rfl rfl (R_buildSlice rfl Try.underlying29 (size := 1) (by kernel_rfl) (by decide) (by decide) Try.zeroValue3 (cells := #[.int .i64 a]) (by kernel_rfl)) (by simp only [List.set_cons_succ, List.set_cons_zero]; exact rfl) fun w3 hw => ?_
  obtain ⟨n20, hn⟩ : ∃ n, n = w2.heap.size := ⟨_, rfl⟩
  rw [← hn]
  have l20 : w.heap.size ≤ n20 := by rw [hn]; exact E.size
  have m20_4 : n4 < n20 := by rw [hn]; exact blk_lt q4
  have m20_18 : n18 < n20 := by rw [hn]; exact blk_lt q18
  replace q4 := keep_alloc hw q4
  replace q18 := keep_alloc hw q18
  have q20 := new_block hw hn
  replace E := ext_alloc E hw
  clear hw hn
  refine seq_call rfl rfl (by kernel_rfl) (HK.out _ n18 n20 E q18 q20) fun e w4 hR => ?_
  obtain ⟨rfl, e1⟩ := hR
  refine ⟨_, _, rfl, (by simp only [List.set_cons_succ, List.set_cons_zero]; exact rfl), ?_⟩
  replace q4 := (e1).keep0 q4
  replace q18 := (e1).keep0 q18
  replace q20 := (e1).keep0 q20
  replace E := ext_same E (e1)
  refine seq_val rfl rfl (R_move (v := .tuple _) rfl rfl) (by simp only [List.set_cons_succ, List.set_cons_zero]; exact rfl) ?_
  refine seq_val rfl rfl (R_extract rfl rfl (get0)) (by simp only [List.set_cons_succ, List.set_cons_zero]; exact rfl) ?_
  refine seq_val rfl rfl (R_extract rfl rfl (getS (get0))) (by simp only [List.set_cons_succ, List.set_cons_zero]; exact rfl) ?_
  refine seq_new rfl rfl (R_alloc rfl Try.zeroValue100) (by simp only [List.set_cons_succ, List.set_cons_zero]; exact rfl) fun w5 hw => ?_
  obtain ⟨n10, hn⟩ : ∃ n, n = w4.heap.size := ⟨_, rfl⟩
  rw [← hn]
  have l10 : w.heap.size ≤ n10 := by rw [hn]; exact E.size
  have m10_4 : n4 < n10 := by rw [hn]; exact blk_lt q4
  have m10_18 : n18 < n10 := by rw [hn]; exact blk_lt q18
  have m10_20 : n20 < n10 := by rw [hn]; exact blk_lt q20
  replace q4 := keep_alloc hw q4
  replace q18 := keep_alloc hw q18
  replace q20 := keep_alloc hw q20
  have q10 := new_row hw hn
  replace E := ext_alloc E hw
  clear hw hn
  refine seq_to rfl rfl (R_storeRow rfl rfl rfl (by rw [hVs]; kernel_rfl) hVo q10 (by rw [hVs]; rfl)) fun w6 hw => ?_
  replace q4 := keep_cells hw q4 (by omega)
  replace q18 := keep_cells hw q18 (by omega)
  replace q20 := keep_cells hw q20 (by omega)
  replace q10 := put_row hw q10 (by rw [hVs]; rfl)
  replace E := ext_cells E hw (fun h => by first | exact absurd h (by omega) | simp)
  clear hw
  refine seq_val rfl rfl (R_assign (v := .int .i64 _) rfl rfl) (by simp only [List.set_cons_succ, List.set_cons_zero]; exact rfl) ?_
  refine wpList_nil ?_
  clear e1
  by_cases h1 : oe = 0
  · subst h1
    by_cases h2 : s = o
    · have H1 : Hid (we = 4) := by show _ = _; rw [HE.out, if_neg (by decide), if_pos h2]
      have H2 : Hid (wv = 0) := by show _ = _; rw [HV.out, H1.out]; rfl
      go_wp2
      go_ret2
      exact ⟨by rw [H1.out, H2.out]; rfl, E⟩
    · have H1 : Hid (we = ae) := by show _ = _; rw [HE.out, if_neg (by decide), if_neg h2]
      go_upto_region 6 with (fail)
      refine wp_region_lit ?_
      refine seq_val rfl rfl (R_loadBlk rfl rfl Try.underlying28 rfl (by kernel_rfl) q4) (by simp only [List.set_cons_succ, List.set_cons_zero]; exact rfl) ?_
      refine seq_val rfl rfl (R_move (v := .int .i64 _) rfl rfl) (by simp only [List.set_cons_succ, List.set_cons_zero]; exact rfl) ?_
      refine seq_val rfl rfl (R_move (v := .int .i64 _) rfl rfl) (by simp only [List.set_cons_succ, List.set_cons_zero]; exact rfl) ?_
      refine seq_val rfl rfl (R_move (v := .int .i64 _) rfl rfl) (by simp only [List.set_cons_succ, List.set_cons_zero]; exact rfl) ?_
      refine seq_val rfl rfl (R_move (v := .int .i64 _) rfl rfl) (by simp only [List.set_cons_succ, List.set_cons_zero]; exact rfl) ?_
      refine seq_call rfl rfl (by kernel_rfl) (HA.out _ E) fun e w7 hR => ?_
      obtain ⟨rfl, e1⟩ := hR
      refine ⟨_, _, rfl, (by simp only [List.set_cons_succ, List.set_cons_zero]; exact rfl), ?_⟩
      replace q4 := (e1).keep0 q4
      replace q18 := (e1).keep0 q18
      replace q20 := (e1).keep0 q20
      replace q10 := (e1).keep0 q10
      replace E := ext_same E (e1)
      refine seq_val rfl rfl (R_move (v := .tuple _) rfl rfl) (by simp only [List.set_cons_succ, List.set_cons_zero]; exact rfl) ?_
      refine seq_val rfl rfl (R_extract rfl rfl (get0)) (by simp only [List.set_cons_succ, List.set_cons_zero]; exact rfl) ?_
      refine seq_val rfl rfl (R_extract rfl rfl (getS (get0))) (by simp only [List.set_cons_succ, List.set_cons_zero]; exact rfl) ?_
      refine seq_new rfl rfl (R_alloc rfl Try.zeroValue23) (by simp only [List.set_cons_succ, List.set_cons_zero]; exact rfl) fun w8 hw => ?_
      obtain ⟨n12, hn⟩ : ∃ n, n = w7.heap.size := ⟨_, rfl⟩
      rw [← hn]
      have l12 : w.heap.size ≤ n12 := by rw [hn]; exact E.size
      have m12_4 : n4 < n12 := by rw [hn]; exact blk_lt q4
      have m12_18 : n18 < n12 := by rw [hn]; exact blk_lt q18
      have m12_20 : n20 < n12 := by rw [hn]; exact blk_lt q20
      have m12_10 : n10 < n12 := by rw [hn]; exact blk_lt q10
      replace q4 := keep_alloc hw q4
      replace q18 := keep_alloc hw q18
      replace q20 := keep_alloc hw q20
      replace q10 := keep_alloc hw q10
      have q12 := new_row hw hn
      replace E := ext_alloc E hw
      clear hw hn
      refine seq_to rfl rfl (R_storeRow rfl rfl rfl (by kernel_rfl) (by simp [Value.oneCell']) q12 rfl) fun w9 hw => ?_
      replace q4 := keep_cells hw q4 (by omega)
      replace q18 := keep_cells hw q18 (by omega)
      replace q20 := keep_cells hw q20 (by omega)
      replace q10 := keep_cells hw q10 (by omega)
      replace q12 := put_row hw q12 rfl
      replace E := ext_cells E hw (fun h => by first | exact absurd h (by omega) | simp)
      clear hw
      refine seq_val rfl rfl (R_assign (v := .int .i64 _) rfl rfl) (by simp only [List.set_cons_succ, List.set_cons_zero]; exact rfl) ?_
      refine wpList_nil ?_
      clear e1
      by_cases h3 : ae = 0
      · subst h3
        have c0 := (cells_of_block q12 0).trans get0
        have c1 := (cells_of_block q12 1).trans (getS get0)
        by_cases h4 : 0 < r1
        · have H2 : Hid (wv = 1) := by show _ = _; rw [HV.out, H1.out, if_pos rfl, if_pos h4]
          go_wp2
          go_ret2
          exact ⟨by rw [H1.out, H2.out]; rfl, E⟩
        · by_cases h5 : r2 ≤ 0
          · have H2 : Hid (wv = 2) := by show _ = _; rw [HV.out, H1.out, if_pos rfl, if_neg h4, if_pos h5]
            go_wp2
            go_ret2
            exact ⟨by rw [H1.out, H2.out]; rfl, E⟩
          · have H2 : Hid (wv = 3) := by show _ = _; rw [HV.out, H1.out, if_pos rfl, if_neg h4, if_neg h5]
            go_wp2
            go_ret2
            exact ⟨by rw [H1.out, H2.out]; rfl, E⟩
      · have H2 : Hid (wv = 0) := by show _ = _; rw [HV.out, H1.out, if_neg h3]
        have hb : (ae != 0) = true := by simpa using h3
        go_wp2
        go_ret2
        exact ⟨by rw [H1.out, H2.out]; rfl, E⟩
  · have H1 : Hid (we = oe) := by show _ = _; rw [HE.out, if_pos h1]
    have H2 : Hid (wv = 0) := by show _ = _; rw [HV.out, H1.out, if_neg h1]
    have hb : (oe != 0) = true := by simpa using h1
    go_wp2
    go_ret2
    exact ⟨by rw [H1.out, H2.out]; rfl, E⟩
set_option maxRecDepth 100000 in
set_option maxHeartbeats 2000000 in
theorem possible_any (t : Tp) (ok : t.Ok) (gv rv lv : Value) (out : Int) (ho1 : 0 ≤ out) (ho2 : out < 65536) (w : World) (ht : IsTp w gv rv lv t) :
    Calls Try.prog 116 #[tpV t gv rv lv, .int .u16 out] w fun e w' => e = .returned (.bool (bdB t out)) ∧ Ext [] w w' := by
  have HS : Hid (∀ W : World, Ext [] w W → Calls Try.prog 80 #[tpV t gv rv lv, .int .u16 out] W fun e w' => e = .returned (.tuple #[.agg (matCells (bdV t out)), .bool (bdB t out)]) ∧ Ext [] W w') :=
    fun W e => solve_v t ok gv rv lv out ho1 ho2 W (ht.ext e (by simp))
  clear ht
  obtain ⟨m, hm⟩ : ∃ m, m = bdV t out := ⟨_, rfl⟩
  obtain ⟨b, hb⟩ : ∃ b, b = bdB t out := ⟨_, rfl⟩
  rw [← hm, ← hb] at HS
  rw [← hb]
  clear hm hb
  have E : Ext [] w w := Ext.refl _ _
  unfold tpV at HS ⊢
  go_enter Try.func116, Try.ntmps116
  go_upto_region 0 with (fail)
  refine wp_region_lit ?_
  refine seq_new rfl rfl (R_box (v := .agg _) rfl rfl) (by simp only [List.set_cons_succ, List.set_cons_zero]; exact rfl) fun w1 hw => ?_
  obtain ⟨n2, hn⟩ : ∃ n, n = w.heap.size := ⟨_, rfl⟩
  rw [← hn]
  have l2 : w.heap.size ≤ n2 := by rw [hn]; exact E.size
  have q2 := new_row hw hn
  replace E := ext_alloc E hw
  clear hw hn
  refine seq_val rfl rfl (R_assign (v := .bool _) rfl rfl) (by simp only [List.set_cons_succ, List.set_cons_zero]; exact rfl) ?_
  refine wpList_nil ?_
  go_upto_region 1 with (fail)
  refine wp_region_lit ?_
  refine seq_val rfl rfl (R_loadBlk rfl rfl Try.underlying100 rfl (by kernel_rfl) q2) (by simp only [List.set_cons_succ, List.set_cons_zero]; exact rfl) ?_
  refine seq_val rfl rfl (R_move (v := .int .u16 _) rfl rfl) (by simp only [List.set_cons_succ, List.set_cons_zero]; exact rfl) ?_
  refine seq_call rfl rfl (by kernel_rfl) (HS.out _ E) fun e w2 hR => ?_
  obtain ⟨rfl, e1⟩ := hR
  refine ⟨_, _, rfl, (by simp only [List.set_cons_succ, List.set_cons_zero]; exact rfl), ?_⟩
  replace q2 := (e1).keep0 q2
  replace E := ext_same E (e1)
  refine seq_val rfl rfl (R_move (v := .tuple _) rfl rfl) (by simp only [List.set_cons_succ, List.set_cons_zero]; exact rfl) ?_
  refine seq_val rfl rfl (R_extract rfl rfl (get0)) (by simp only [List.set_cons_succ, List.set_cons_zero]; exact rfl) ?_
  refine seq_val rfl rfl (R_extract rfl rfl (getS (get0))) (by simp only [List.set_cons_succ, List.set_cons_zero]; exact rfl) ?_
  refine seq_new rfl rfl (R_alloc rfl Try.zeroValue105) (by simp only [List.set_cons_succ, List.set_cons_zero]; exact rfl) fun w3 hw => ?_
  obtain ⟨n5, hn⟩ : ∃ n, n = w2.heap.size := ⟨_, rfl⟩
  rw [← hn]
  have l5 : w.heap.size ≤ n5 := by rw [hn]; exact E.size
  have m5_2 : n2 < n5 := by rw [hn]; exact blk_lt q2
  replace q2 := keep_alloc hw q2
  have q5 := new_row hw hn
  replace E := ext_alloc E hw
  clear hw hn
  refine seq_to rfl rfl (R_storeRow rfl rfl rfl (by rw [matCells_size]; kernel_rfl) (by rw [← matList_toArray]; exact all_oneCell_toArray (matList_one _)) q5 (by show Try.zeroCells105.size = _; rw [Try.zeroCells105_size, matCells_size])) fun w4 hw => ?_
  replace q2 := keep_cells hw q2 (by omega)
  replace q5 := put_row hw q5 (by show Try.zeroCells105.size = _; rw [Try.zeroCells105_size, matCells_size])
  replace E := ext_cells E hw (fun h => by first | exact absurd h (by omega) | simp)
  clear hw
  refine seq_val rfl rfl (R_assign (v := .bool _) rfl rfl) (by simp only [List.set_cons_succ, List.set_cons_zero]; exact rfl) ?_
  refine wpList_nil ?_
  clear e1
  go_wp2
  go_ret
  exact ⟨rfl, E⟩
end Go.Proofs.Ytholfdgebdlgjaa
