/- The law MeasureAdded: Add refuses just the readings that no truth has, and returns the tapes with the reading otherwise. No conditions. -/
import Derived.Test.YtholfdgebdlgjaaVf
namespace Go.Proofs.Ytholfdgebdlgjaa
open Go.RowKit
set_option linter.unusedVariables false
set_option linter.unusedSimpArgs false
theorem fit_zero {t : Tp} {r : Int × Int × Int × Int} (h : RdFit t r) : rdgE t.S t.A t.T r.1 r.2.1 r.2.2.1 r.2.2.2 = 0 := by
  obtain ⟨h1, h2, h3, h4, h5, h6, h7, h8⟩ := h
  unfold rdgE
  refine firstE_zero.2 fun e he => ?_
  simp only [List.mem_cons, List.not_mem_nil, or_false] at he
  rcases he with rfl | rfl | rfl | rfl
  · exact knownE_zero.2 ⟨h1, h2⟩
  · exact knownE_zero.2 ⟨h3, h4⟩
  · exact knownE_zero.2 ⟨h5, h6⟩
  · exact numberE_zero.2 ⟨h7, h8⟩
theorem check_fit {t : Tp} (ok : t.Ok) {r : Int × Int × Int × Int} (h : RdFit t r) (gv rv lv : Value) (w : World) :
    Calls Try.prog 85 #[tpV t gv rv lv, .agg #[.int .i64 r.1, .int .i64 r.2.1, .int .i64 r.2.2.1, .int .i64 r.2.2.2]] w fun e w' => e = .returned (.int .i64 0) ∧ Ext [] w w' := by
  have o1 := ok.S1; have o2 := ok.S3; have o3 := ok.A1; have o4 := ok.A3; have o5 := ok.T1; have o6 := ok.T3
  have c := checkReading_any t.S t.A t.T t.bl t.bm t.pl t.pm t.sl gv rv lv r.1 r.2.1 r.2.2.1 r.2.2.2 w (by omega) (by omega) (by omega) (by omega) (by omega) (by omega)
  rw [fit_zero h] at c
  exact c.mono fun e w' ⟨h1, h2⟩ => ⟨h1, Ext.of_below h2⟩
set_option maxRecDepth 100000 in
set_option maxHeartbeats 2000000 in
theorem read_far (t : Tp) (gv lv : Value) (ra : Option Addr) (rcap : Nat) (r : Int × Int × Int × Int) (w : World) (ht : IsTp w gv (.slice ra t.rd.length rcap) lv t) (hl2 : t.rd.length ≤ 1000) (hc : t.rd.length ≤ rcap) :
    Calls Try.prog 102 #[tpV t gv (.slice ra t.rd.length rcap) lv, .agg #[.int .i64 r.1, .int .i64 r.2.1, .int .i64 r.2.2.1, .int .i64 r.2.2.2]] w fun e w' => ∃ b cap, w.heap.size ≤ b ∧ t.rd.length + 1 ≤ cap ∧ e = .returned (tpV (addR t r) gv (.slice (some ⟨b, 0, none⟩) (addR t r).rd.length cap) lv) ∧ IsTp w' gv (.slice (some ⟨b, 0, none⟩) (addR t r).rd.length cap) lv (addR t r) ∧ Ext [] w w' := by
  have hone := tp_one ht
  have hrl : ∀ x, (rdRow x).length = 4 := fun _ => rfl
  have E : Ext [] w w := Ext.refl _ _
  have HH : Hid (∀ W : World, Ext [] w W → t.rd.length = t.rd.length ∧ ((t.rd.map rdRow).flatten).length = t.rd.length * 4 ∧ (ra = none → t.rd.length = 0) ∧ ∀ a0, ra = some a0 → ∀ (j : Nat) (v : Value), ((t.rd.map rdRow).flatten)[j]? = some v → W.cell? (a0.add j) = some v) := fun W e =>
    ⟨rfl, flat_len hrl _, (fun hn => by
      by_cases hne : t.rd.map rdRow = []
      · simpa using hne
      · obtain ⟨b, off, h1, -⟩ := ht.rd.range rfl hne
        rw [hn] at h1; cases h1), rows_flat (by decide) hrl (ht.rd.ext e (by simp))⟩
  have Ht := Lib.hid ht; clear ht
  unfold tpV
  go_enter Try.func102, Try.ntmps102
  go_upto_region 0 with (fail)
  refine wp_region_lit ?_
  refine seq_new rfl rfl (R_box (v := .agg _) rfl rfl) (by simp only [List.set_cons_succ, List.set_cons_zero]; exact rfl) fun w1 hw => ?_
  obtain ⟨n2, hn⟩ : ∃ n, n = w.heap.size := ⟨_, rfl⟩
  rw [← hn]
  have l2 : w.heap.size ≤ n2 := by rw [hn]; exact E.size
  have q2 := new_row hw hn
  replace E := ext_alloc E hw
  clear hw hn
  refine seq_new rfl rfl (R_box (v := .agg _) rfl rfl) (by simp only [List.set_cons_succ, List.set_cons_zero]; exact rfl) fun w2 hw => ?_
  obtain ⟨n3, hn⟩ : ∃ n, n = w1.heap.size := ⟨_, rfl⟩
  rw [← hn]
  have l3 : w.heap.size ≤ n3 := by rw [hn]; exact E.size
  have m3_2 : n2 < n3 := by rw [hn]; exact blk_lt q2
  replace q2 := keep_alloc hw q2
  have q3 := new_row hw hn
  replace E := ext_alloc E hw
  clear hw hn
  refine seq_new rfl rfl (R_alloc rfl Try.zeroValue28) (by simp only [List.set_cons_succ, List.set_cons_zero]; exact rfl) fun w3 hw => ?_
  obtain ⟨n4, hn⟩ : ∃ n, n = w2.heap.size := ⟨_, rfl⟩
  rw [← hn]
  have l4 : w.heap.size ≤ n4 := by rw [hn]; exact E.size
  have m4_2 : n2 < n4 := by rw [hn]; exact blk_lt q2
  have m4_3 : n3 < n4 := by rw [hn]; exact blk_lt q3
  replace q2 := keep_alloc hw q2
  replace q3 := keep_alloc hw q3
  have q4 := new_row hw hn
  replace E := ext_alloc E hw
  clear hw hn
  refine wpList_nil ?_
  go_upto_region 1 with (fail)
  refine region_until (Ext [] w3) 13 follows fun w4 hh eS => ?_
  have q2_ := q2
  have q3_ := q3
  have q4_ := q4
  replace q2 := keep_same hh q2
  replace q3 := keep_same hh q3
  replace q4 := keep_same hh q4
  replace E := ext_same E eS
  refine anyU_take (i := 0) (last := 13) rfl rfl (by decide) (by kernel_rfl) (by kernel_rfl) (by kernel_rfl) (by kernel_rfl) (by kernel_rfl) (fun _ _ _ h => h) rfl rfl (fun w' hS => R_field rfl rfl Try.underlying28 rfl (n := 9) (sz := 1) rfl (by kernel_rfl) (by decide)) eS (by simp only [List.set_cons_succ, List.set_cons_zero]; exact rfl) ?_
  refine anyU_take (i := 1) (last := 13) rfl rfl (by decide) (by kernel_rfl) (by kernel_rfl) (by kernel_rfl) (by kernel_rfl) (by kernel_rfl) (fun _ _ _ h => h) rfl rfl (fun w' hS => R_load rfl rfl Try.underlying25 rfl ((cells_of_block (hS.keep q2_ (by simp)) 9).trans (getS (getS (getS (getS (getS (getS (getS (getS (getS (get0)))))))))))) eS (by simp only [List.set_cons_succ, List.set_cons_zero]; exact rfl) ?_
  refine anyU_take (i := 2) (last := 13) rfl rfl (by decide) (by kernel_rfl) (by kernel_rfl) (by kernel_rfl) (by kernel_rfl) (by kernel_rfl) (fun _ _ _ h => h) rfl rfl (fun w' hS => R_field rfl rfl Try.underlying28 rfl (n := 9) (sz := 1) rfl (by kernel_rfl) (by decide)) eS (by simp only [List.set_cons_succ, List.set_cons_zero]; exact rfl) ?_
  refine anyU_take (i := 3) (last := 13) rfl rfl (by decide) (by kernel_rfl) (by kernel_rfl) (by kernel_rfl) (by kernel_rfl) (by kernel_rfl) (fun _ _ _ h => h) rfl rfl (fun w' hS => R_load rfl rfl Try.underlying25 rfl ((cells_of_block (hS.keep q2_ (by simp)) 9).trans (getS (getS (getS (getS (getS (getS (getS (getS (getS (get0)))))))))))) eS (by simp only [List.set_cons_succ, List.set_cons_zero]; exact rfl) ?_
  refine anyU_take (i := 4) (last := 13) rfl rfl (by decide) (by kernel_rfl) (by kernel_rfl) (by kernel_rfl) (by kernel_rfl) (by kernel_rfl) (fun _ _ _ h => h) rfl rfl (fun w' hS => R_len rfl rfl rfl Try.underlying25) eS (by simp only [List.set_cons_succ, List.set_cons_zero]; exact rfl) ?_
  refine anyU_take (i := 5) (last := 13) rfl rfl (by decide) (by kernel_rfl) (by kernel_rfl) (by kernel_rfl) (by kernel_rfl) (by kernel_rfl) (fun _ _ _ h => h) rfl rfl (fun w' hS => R_field rfl rfl Try.underlying28 rfl (n := 9) (sz := 1) rfl (by kernel_rfl) (by decide)) eS (by simp only [List.set_cons_succ, List.set_cons_zero]; exact rfl) ?_
  refine anyU_take (i := 6) (last := 13) rfl rfl (by decide) (by kernel_rfl) (by kernel_rfl) (by kernel_rfl) (by kernel_rfl) (by kernel_rfl) (fun _ _ _ h => h) rfl rfl (fun w' hS => R_load rfl rfl Try.underlying25 rfl ((cells_of_block (hS.keep q2_ (by simp)) 9).trans (getS (getS (getS (getS (getS (getS (getS (getS (getS (get0)))))))))))) eS (by simp only [List.set_cons_succ, List.set_cons_zero]; exact rfl) ?_
  refine anyU_take (i := 7) (last := 13) rfl rfl (by decide) (by kernel_rfl) (by kernel_rfl) (by kernel_rfl) (by kernel_rfl) (by kernel_rfl) (fun _ _ _ h => h) rfl rfl (fun w' hS => R_len rfl rfl rfl Try.underlying25) eS (by simp only [List.set_cons_succ, List.set_cons_zero]; exact rfl) ?_
  refine anyU_take (i := 8) (last := 13) rfl rfl (by decide) (by kernel_rfl) (by kernel_rfl) (by kernel_rfl) (by kernel_rfl) (by kernel_rfl) (fun _ _ _ h => h) rfl rfl (fun w' hS => R_slice3 rfl rfl rfl rfl Try.underlying25 (size := 4) (by kernel_rfl) (Nat.le_refl _) hc) eS (by simp only [List.set_cons_succ, List.set_cons_zero]; exact rfl) ?_
  refine anyU_take (i := 9) (last := 13) rfl rfl (by decide) (by kernel_rfl) (by kernel_rfl) (by kernel_rfl) (by kernel_rfl) (by kernel_rfl) (fun _ _ _ h => h) rfl rfl (fun w' hS => R_loadBlk rfl rfl Try.underlying66 rfl (by kernel_rfl) (hS.keep q3_ (by simp))) eS (by simp only [List.set_cons_succ, List.set_cons_zero]; exact rfl) ?_
  refine anyU_new (i := 10) rfl (by kernel_rfl) rfl rfl (R_buildSlice rfl Try.underlying25 (size := 4) (by kernel_rfl) (by decide) (by decide) Try.zeroValue66 (cells := #[.int .i64 r.1, .int .i64 r.2.1, .int .i64 r.2.2.1, .int .i64 r.2.2.2]) (by kernel_rfl)) (by simp only [List.set_cons_succ, List.set_cons_zero]; exact rfl) fun w5 hw => ?_
  replace eS := ext_alloc eS hw
  obtain ⟨n15, hn⟩ : ∃ n, n = w4.heap.size := ⟨_, rfl⟩
  rw [← hn]
  have l15 : w.heap.size ≤ n15 := by rw [hn]; exact E.size
  have m15_2 : n2 < n15 := by rw [hn]; exact blk_lt q2
  have m15_3 : n3 < n15 := by rw [hn]; exact blk_lt q3
  have m15_4 : n4 < n15 := by rw [hn]; exact blk_lt q4
  replace q2 := keep_alloc hw q2
  replace q3 := keep_alloc hw q3
  replace q4 := keep_alloc hw q4
  have q15 := new_block hw hn
  replace E := ext_alloc E hw
  clear hw hn
  refine ⟨fun _ => eS, ?_⟩
  refine anyU_append_far (i := 11) rfl (by kernel_rfl) rfl rfl rfl (e := 66) (size := 4) (bytes := 32) Try.underlying25 (by kernel_rfl) (by decide) rfl (HH.out _ E) rfl q15 rfl (by omega) (by omega) fun cap16 pad16 w6 hcap16 hw => ?_
  replace eS := ext_alloc eS.drew hw
  replace E := E.drew
  replace q2 := blk_drew q2
  replace q3 := blk_drew q3
  replace q4 := blk_drew q4
  replace q15 := blk_drew q15
  have hsz : w5.drew.heap.size = w5.heap.size := rfl
  obtain ⟨n16, hn⟩ : ∃ n, n = w5.drew.heap.size := ⟨_, rfl⟩
  rw [← hn]
  have l16 : w.heap.size ≤ n16 := by rw [hn]; exact E.size
  have m16_2 : n2 < n16 := by rw [hn]; exact blk_lt q2
  have m16_3 : n3 < n16 := by rw [hn]; exact blk_lt q3
  have m16_4 : n4 < n16 := by rw [hn]; exact blk_lt q4
  have m16_15 : n15 < n16 := by rw [hn]; exact blk_lt q15
  replace q2 := keep_alloc hw q2
  replace q3 := keep_alloc hw q3
  replace q4 := keep_alloc hw q4
  replace q15 := keep_alloc hw q15
  have q16 := new_block hw hn
  replace E := ext_alloc E hw
  clear hw hn
  clear hsz
  refine ⟨_, (by simp only [List.set_cons_succ, List.set_cons_zero]; exact rfl), eS, ?_⟩
  refine anyU_take (i := 12) (last := 13) rfl rfl (by decide) (by kernel_rfl) (by kernel_rfl) (by kernel_rfl) (by kernel_rfl) (by kernel_rfl) (fun _ _ _ h => h) rfl rfl (fun w' hS => R_field rfl rfl Try.underlying28 rfl (n := 9) (sz := 1) rfl (by kernel_rfl) (by decide)) eS (by simp only [List.set_cons_succ, List.set_cons_zero]; exact rfl) ?_
  refine anyU_last (o := _) rfl (by kernel_rfl) rfl rfl (R_store (v := .slice _ _ _) rfl rfl rfl rfl (by kernel_rfl) ((cells_of_block q2 9).trans (getS (getS (getS (getS (getS (getS (getS (getS (getS (get0))))))))))) (free_of_block q2 9)) (by kernel_rfl) fun w7 hw => ?_
  replace q2 := put_cell hw q2 (by simp only [List.setIfInBounds_toArray, List.set_cons_succ, List.set_cons_zero]; exact rfl)
  replace q3 := keep_cell hw q3 (by omega)
  replace q4 := keep_cell hw q4 (by omega)
  replace q15 := keep_cell hw q15 (by omega)
  replace q16 := keep_cell hw q16 (by omega)
  replace E := ext_cell E hw (fun h => by first | exact absurd h (by omega) | simp)
  clear hw
  refine anyU_done (by kernel_rfl) ?_ _
  clear q2_ q3_ q4_ hh eS
  go_upto_region 2 with (fail)
  refine wp_region_lit ?_
  refine seq_val rfl rfl (R_loadBlk rfl rfl Try.underlying28 rfl (by kernel_rfl) q2) (by simp only [List.set_cons_succ, List.set_cons_zero]; exact rfl) ?_
  refine seq_to rfl rfl (R_storeRow rfl rfl rfl (by kernel_rfl) (by simp [hone.1, hone.2.2, show ∀ k n, (Value.int k n).oneCell' = true from fun _ _ => rfl, show ∀ a n c, (Value.slice a n c).oneCell' = true from fun _ _ _ => rfl]) q4 rfl) fun w8 hw => ?_
  replace q2 := keep_cells hw q2 (by omega)
  replace q3 := keep_cells hw q3 (by omega)
  replace q4 := put_row hw q4 rfl
  replace q15 := keep_cells hw q15 (by omega)
  replace q16 := keep_cells hw q16 (by omega)
  replace E := ext_cells E hw (fun h => by first | exact absurd h (by omega) | simp)
  clear hw
  refine wpList_nil ?_
  go_wp2
  have hflat : (t.rd.map rdRow).flatten ++ [.int .i64 r.1, .int .i64 r.2.1, .int .i64 r.2.2.1, .int .i64 r.2.2.2] ++ pad16 = ((addR t r).rd.map rdRow).flatten ++ pad16 := by simp [addR, rdRow]
  rw [hflat] at q16
  have hl : (addR t r).rd.length = t.rd.length + 1 := by simp [addR]
  refine bodyPost_ret (res_cell rfl rfl Try.underlying28 rfl (by kernel_rfl) q4) rfl ⟨n16, by omega, cap16, hcap16, ?_, ⟨Ht.out.gr.ext E (by simp), rows_of_flat cap16 hrl q16, Ht.out.lk.ext E (by simp)⟩, E⟩
  rw [hl]
  rfl
theorem rows_ltb {α : Type} {w : World} {b n c sz : Nat} {xs : List α} {row : α → List Value} (h : IsRows w (.slice (some ⟨b, 0, none⟩) n c) sz (xs.map row)) (hne : xs ≠ []) : b < w.heap.size := by
  obtain ⟨a, cap, hv, hl, hc⟩ := h
  obtain ⟨b', off, ha, hb, -⟩ := hc (by simpa using hne)
  have hv2 := hv
  simp only [Value.slice.injEq] at hv2
  rw [ha] at hv2
  obtain ⟨h1, -, -⟩ := hv2
  cases h1
  exact hb
theorem rows_blk {α : Type} {w w' : World} {b n c sz : Nat} {xs : List α} {row : α → List Value} {o : Obj} (h : IsRows w (.slice (some ⟨b, 0, none⟩) n c) sz (xs.map row)) (q : w.heap[b]? = some o) (q' : w'.heap[b]? = some o) : IsRows w' (.slice (some ⟨b, 0, none⟩) n c) sz (xs.map row) := by
  obtain ⟨a, cap, hv, hl, hc⟩ := h
  refine ⟨a, cap, hv, hl, fun hne => ?_⟩
  obtain ⟨b', off, ha, hb, hcell⟩ := hc hne
  have hv2 := hv
  simp only [Value.slice.injEq] at hv2
  rw [ha] at hv2
  obtain ⟨h1, -, -⟩ := hv2
  cases h1
  refine ⟨b, 0, ha, blk_lt q', fun i j x hi hj => ?_⟩
  rw [World.cell?_of_block (w := w) (a := ⟨b, 0 + i * sz + j, none⟩) (q'.trans q.symm)]
  exact hcell i j x hi hj
def zTp : Value := .agg #[.int .i64 0, .int .i64 0, .int .i64 0, .int .i64 0, .int .i64 0, .int .i64 0, .int .i64 0, .int .i64 0, .slice none 0 0, .slice none 0 0, .slice none 0 0]
def AddPost (t : Tp) (r : Int × Int × Int × Int) (w : World) (e : Ending) (w' : World) : Prop :=
  ∃ ga ra la gc rc lc, e = .returned (.tuple #[tpV (addR t r) (.slice ga t.gr.length gc) (.slice ra (t.rd.length + 1) rc) (.slice la t.lk.length lc), .int .i64 0]) ∧ IsTp w' (.slice ga t.gr.length gc) (.slice ra (t.rd.length + 1) rc) (.slice la t.lk.length lc) (addR t r) ∧ Ext [] w w'
set_option maxRecDepth 100000 in
theorem add_live {t : Tp} (hL : t.Live) {r : Int × Int × Int × Int} (hr : RdFit t r) (h7 : t.rd.length ≤ 7) (ga ra la : Option Addr) (gc rc lc : Nat) (hcap : t.rd.length ≤ rc) (w : World) (ht : IsTp w (.slice ga t.gr.length gc) (.slice ra t.rd.length rc) (.slice la t.lk.length lc) t) :
    Calls Try.prog 68 #[tpV t (.slice ga t.gr.length gc) (.slice ra t.rd.length rc) (.slice la t.lk.length lc), .agg #[.int .i64 r.1, .int .i64 r.2.1, .int .i64 r.2.2.1, .int .i64 r.2.2.2]] w fun e w' => (bdB (addR t r) 0 = true → AddPost t r w e w') ∧ (bdB (addR t r) 0 = false → e = .returned (.tuple #[zTp, .int .i64 9]) ∧ Ext [] w w') := by
  obtain ⟨hok2, h82⟩ := addR_fit hL.ok hr h7
  have ok := hL.ok
  have hgl := ok.grl
  have hS3 := ok.S3
  have hkl := ok.lkl
  have E : Ext [] w w := Ext.refl _ _
  have HT := Lib.hid ht
  clear ht
  unfold tpV
  refine calls_has 57 Try.func68 rfl Try.ntmps68 (Nat.le_of_ble_eq_true rfl) ?_
  intro fa F
  refine wp_seq_k fun K1 hK1 => ?_
  refine wp_region_lit ?_
  refine sq_new F rfl (by decide) rfl (R_box rfl (F.at rfl)) ?_; clear F fa; intro fa w1 F hw
  obtain ⟨n2, hn⟩ : ∃ n, n = w.heap.size := ⟨_, rfl⟩
  rw [← hn] at F
  have s2 : w.heap.size ≤ n2 := Nat.le_of_eq hn.symm
  have l2_E : w.heap.size ≤ n2 := by rw [hn]; exact E.size
  replace E := ext_alloc E hw
  have q2 := new_row hw hn
  clear hw hn
  refine sq_new F rfl (by decide) rfl (R_box rfl (F.at rfl)) ?_; clear F fa; intro fa w2 F hw
  obtain ⟨n3, hn⟩ : ∃ n, n = w1.heap.size := ⟨_, rfl⟩
  rw [← hn] at F
  have s3 : w1.heap.size ≤ n3 := Nat.le_of_eq hn.symm
  have l3_E : w.heap.size ≤ n3 := by rw [hn]; exact E.size
  have m3_2 : n2 < n3 := by rw [hn]; exact blk_lt q2
  replace q2 := keep_alloc hw q2
  replace E := ext_alloc E hw
  have q3 := new_row hw hn
  clear hw hn
  refine sq_new F rfl (by decide) rfl (R_alloc rfl Try.zeroValue28) ?_; clear F fa; intro fa w3 F hw
  obtain ⟨n4, hn⟩ : ∃ n, n = w2.heap.size := ⟨_, rfl⟩
  rw [← hn] at F
  have s4 : w2.heap.size ≤ n4 := Nat.le_of_eq hn.symm
  have l4_E : w.heap.size ≤ n4 := by rw [hn]; exact E.size
  have m4_2 : n2 < n4 := by rw [hn]; exact blk_lt q2
  have m4_3 : n3 < n4 := by rw [hn]; exact blk_lt q3
  replace q2 := keep_alloc hw q2
  replace q3 := keep_alloc hw q3
  replace E := ext_alloc E hw
  have q4 := new_row hw hn
  clear hw hn
  refine sq_val F rfl (by decide) rfl (R_assign rfl (ev_c fa _)) ?_; clear F fa; intro fa F
  refine wpList_nil ?_
  refine hK1 _ _ ?_
  clear hK1
  refine wp_seq_k fun K2 hK2 => ?_
  refine wp_region_lit ?_
  refine sq_val F rfl (by decide) rfl (R_loadBlk rfl (F.at rfl) Try.underlying28 rfl (by kernel_rfl) q2) ?_; clear F fa; intro fa F
  refine sq_call F rfl (by decide) rfl (R_callV rfl rfl Try.call79 (mpS (F.at rfl) (mpS (ev_c fa _) (mpS (ev_c fa _) (mpS (ev_c fa _) mp0))))) (open_ok (HT.out.ext E (by simp)) ok (by omega)) fun e w4 hR => ?_
  obtain ⟨rfl, e9⟩ := hR
  refine ⟨_, rfl, ?_⟩; clear F fa; intro fa F
  replace q2 := (e9).keep0 q2
  replace q3 := (e9).keep0 q3
  replace q4 := (e9).keep0 q4
  replace E := ext_same E (e9)
  clear e9
  refine sq_val F rfl (by decide) rfl (R_move rfl (F.at rfl)) ?_; clear F fa; intro fa F
  refine sq_val F rfl (by decide) rfl (R_extract rfl (F.at rfl) (get0)) ?_; clear F fa; intro fa F
  refine sq_val F rfl (by decide) rfl (R_extract rfl (F.at rfl) (getS (get0))) ?_; clear F fa; intro fa F
  refine sq_new F rfl (by decide) rfl (R_alloc rfl Try.zeroValue100) ?_; clear F fa; intro fa w5 F hw
  obtain ⟨n6, hn⟩ : ∃ n, n = w4.heap.size := ⟨_, rfl⟩
  rw [← hn] at F
  have s6 : w4.heap.size ≤ n6 := Nat.le_of_eq hn.symm
  have l6_E : w.heap.size ≤ n6 := by rw [hn]; exact E.size
  have m6_2 : n2 < n6 := by rw [hn]; exact blk_lt q2
  have m6_3 : n3 < n6 := by rw [hn]; exact blk_lt q3
  have m6_4 : n4 < n6 := by rw [hn]; exact blk_lt q4
  replace q2 := keep_alloc hw q2
  replace q3 := keep_alloc hw q3
  replace q4 := keep_alloc hw q4
  replace E := ext_alloc E hw
  have q6 := new_row hw hn
  clear hw hn
  refine sq_to rfl rfl (R_storeRow rfl (F.at rfl) (F.at rfl) (by kernel_rfl) (by simp [Value.oneCell']) q6 rfl) ?_; intro w6 hw
  replace q2 := keep_cells hw q2 (by omega)
  replace q3 := keep_cells hw q3 (by omega)
  replace q4 := keep_cells hw q4 (by omega)
  replace q6 := put_row hw q6 rfl
  replace E := ext_cells E hw (fun h => by first | exact absurd h (by omega) | simp)
  clear hw
  refine sq_val F rfl (by decide) rfl (R_assign rfl (F.at rfl)) ?_; clear F fa; intro fa F
  refine wpList_nil ?_
  refine hK2 _ _ ?_
  clear hK2
  refine wp_seq_k fun K3 hK3 => ?_
  refine wp_seq_k fun K4 hK4 => ?_
  refine wp_region_lit ?_
  refine sq_val F rfl (by decide) rfl (R_move rfl (F.at rfl)) ?_; clear F fa; intro fa F
  refine sq_val F rfl (by decide) rfl (R_neqB (b := false) rfl (F.at rfl) (ev_c fa _) (by decide)) ?_; clear F fa; intro fa F
  refine wpList_nil ?_
  refine hK4 _ _ ?_
  clear hK4
  refine cd_F F rfl ?_
  refine wp_skip ?_
  refine hK3 _ _ ?_
  clear hK3
  refine wp_seq_k fun K5 hK5 => ?_
  refine wp_seq_k fun K6 hK6 => ?_
  refine wp_region_lit ?_
  refine sq_val F rfl (by decide) rfl (R_field rfl (F.at rfl) Try.underlying28 rfl (n := 9) (sz := 1) rfl (by kernel_rfl) (by decide)) ?_; clear F fa; intro fa F
  refine sq_val F rfl (by decide) rfl (R_load rfl (F.at rfl) Try.underlying25 rfl ((cells_of_block q2 9).trans (getS (getS (getS (getS (getS (getS (getS (getS (getS (get0)))))))))))) ?_; clear F fa; intro fa F
  refine sq_val F rfl (by decide) rfl (R_len rfl rfl (F.at rfl) Try.underlying25) ?_; clear F fa; intro fa F
  refine sq_val F rfl (by decide) rfl (R_eqlD rfl (F.at rfl) (ev_c fa _)) ?_; clear F fa; intro fa F
  refine wpList_nil ?_
  refine hK6 _ _ ?_
  clear hK6
  refine cd_Fb F rfl (decide_eq_false (by omega)) ?_
  refine wp_skip ?_
  refine hK5 _ _ ?_
  clear hK5
  refine wp_seq_k fun K7 hK7 => ?_
  refine wp_seq_k fun K8 hK8 => ?_
  refine wp_region_lit ?_
  refine sq_val F rfl (by decide) rfl (R_loadBlk rfl (F.at rfl) Try.underlying28 rfl (by kernel_rfl) q2) ?_; clear F fa; intro fa F
  refine sq_val F rfl (by decide) rfl (R_loadBlk rfl (F.at rfl) Try.underlying66 rfl (by kernel_rfl) q3) ?_; clear F fa; intro fa F
  refine sq_call F rfl (by decide) rfl (R_callV rfl rfl Try.call85 (mpS (F.at rfl) (mpS (F.at rfl) mp0))) (check_fit ok hr _ _ _ _) fun e w7 hR => ?_
  obtain ⟨rfl, e9⟩ := hR
  refine ⟨_, rfl, ?_⟩; clear F fa; intro fa F
  replace q2 := (e9).keep0 q2
  replace q3 := (e9).keep0 q3
  replace q4 := (e9).keep0 q4
  replace q6 := (e9).keep0 q6
  replace E := ext_same E (e9)
  clear e9
  refine sq_val F rfl (by decide) rfl (R_assign rfl (F.at rfl)) ?_; clear F fa; intro fa F
  refine wpList_nil ?_
  refine hK8 _ _ ?_
  clear hK8
  refine wp_seq_k fun K9 hK9 => ?_
  refine wp_region_lit ?_
  refine sq_val F rfl (by decide) rfl (R_move rfl (F.at rfl)) ?_; clear F fa; intro fa F
  refine sq_val F rfl (by decide) rfl (R_neqB (b := false) rfl (F.at rfl) (ev_c fa _) (by decide)) ?_; clear F fa; intro fa F
  refine wpList_nil ?_
  refine hK9 _ _ ?_
  clear hK9
  refine cd_F F rfl ?_
  refine wp_skip ?_
  refine hK7 _ _ ?_
  clear hK7
  refine wp_seq_k fun K10 hK10 => ?_
  refine wp_region_lit ?_
  refine sq_val F rfl (by decide) rfl (R_loadBlk rfl (F.at rfl) Try.underlying28 rfl (by kernel_rfl) q2) ?_; clear F fa; intro fa F
  refine sq_val F rfl (by decide) rfl (R_loadBlk rfl (F.at rfl) Try.underlying66 rfl (by kernel_rfl) q3) ?_; clear F fa; intro fa F
  have z2 := blk_lt q2
  have z3 := blk_lt q3
  have z4 := blk_lt q4
  have z6 := blk_lt q6
  refine sq_call F rfl (by decide) rfl (R_callV rfl rfl Try.call102 (mpS (F.at rfl) (mpS (F.at rfl) mp0))) (read_far t _ _ ra rc r _ (HT.out.ext E (by simp)) (by omega) hcap) fun e w8 hR => ?_
  obtain ⟨bx, cx, hbx, hcx, rfl, hTx, e8⟩ := hR
  refine ⟨_, rfl, ?_⟩; clear F fa; intro fa F
  replace q2 := (e8).keep0 q2
  replace q3 := (e8).keep0 q3
  replace q4 := (e8).keep0 q4
  replace q6 := (e8).keep0 q6
  replace E := ext_same E (e8)
  clear e8
  have HX := Lib.hid hTx
  have hlx := rows_ltb hTx.rd (by simp [addR])
  clear hTx
  have EX : Ext [] w8 w8 := Ext.refl _ _
  obtain ⟨ox, qx⟩ : ∃ o, w8.heap[bx]? = some o := ⟨_, Array.getElem?_eq_getElem hlx⟩
  have hqx := Lib.hid qx
  have n2x : n2 < bx := by omega
  have n3x : n3 < bx := by omega
  have n4x : n4 < bx := by omega
  have n6x : n6 < bx := by omega
  refine sq_val F rfl (by decide) rfl (R_buildV rfl (prS (F.at rfl) pr0) (cells := #[.int .i64 t.S, .int .i64 t.A, .int .i64 t.T, .int .i64 t.bl, .int .i64 t.bm, .int .i64 t.pl, .int .i64 t.pm, .int .i64 t.sl, .slice ga t.gr.length gc, .slice (some ⟨bx, 0, none⟩) ((addR t r).rd.length) cx, .slice la t.lk.length lc]) (by kernel_rfl)) ?_; clear F fa; intro fa F
  refine sq_new F rfl (by decide) rfl (R_alloc rfl Try.zeroValue100) ?_; clear F fa; intro fa w9 F hw
  obtain ⟨n9, hn⟩ : ∃ n, n = w8.heap.size := ⟨_, rfl⟩
  rw [← hn] at F
  have s9 : w8.heap.size ≤ n9 := Nat.le_of_eq hn.symm
  have l9_E : w.heap.size ≤ n9 := by rw [hn]; exact E.size
  have l9_EX : w8.heap.size ≤ n9 := by rw [hn]; exact EX.size
  have m9_2 : n2 < n9 := by rw [hn]; exact blk_lt q2
  have m9_3 : n3 < n9 := by rw [hn]; exact blk_lt q3
  have m9_4 : n4 < n9 := by rw [hn]; exact blk_lt q4
  have m9_6 : n6 < n9 := by rw [hn]; exact blk_lt q6
  have m9_x : bx < n9 := by rw [hn]; exact blk_lt qx
  replace q2 := keep_alloc hw q2
  replace q3 := keep_alloc hw q3
  replace q4 := keep_alloc hw q4
  replace q6 := keep_alloc hw q6
  replace qx := keep_alloc hw qx
  replace E := ext_alloc E hw
  replace EX := ext_alloc EX hw
  have q9 := new_row hw hn
  clear hw hn
  refine sq_to rfl rfl (R_storeRow rfl (F.at rfl) (F.at rfl) (by kernel_rfl) (by simp [Value.oneCell']) q9 rfl) ?_; intro w10 hw
  replace q2 := keep_cells hw q2 (by omega)
  replace q3 := keep_cells hw q3 (by omega)
  replace q4 := keep_cells hw q4 (by omega)
  replace q6 := keep_cells hw q6 (by omega)
  replace qx := keep_cells hw qx (by omega)
  replace q9 := put_row hw q9 rfl
  replace E := ext_cells E hw (fun h => by first | exact absurd h (by omega) | simp)
  replace EX := ext_cells EX hw (fun h => by first | exact absurd h (by omega) | simp)
  clear hw
  refine wpList_nil ?_
  refine hK10 _ _ ?_
  clear hK10
  refine wp_seq_k fun K11 hK11 => ?_
  refine wp_seq_k fun K12 hK12 => ?_
  refine wp_region_lit ?_
  refine sq_val F rfl (by decide) rfl (R_loadBlk rfl (F.at rfl) Try.underlying100 rfl (by kernel_rfl) q6) ?_; clear F fa; intro fa F
  refine sq_call F rfl (by decide) rfl (R_callV rfl rfl Try.call116 (mpS (F.at rfl) (mpS (ev_c fa _) mp0))) (possible_any t ok _ _ _ 0 (by omega) (by omega) _ (HT.out.ext E (by simp))) fun e w11 hR => ?_
  obtain ⟨rfl, e9⟩ := hR
  refine ⟨_, rfl, ?_⟩; clear F fa; intro fa F
  replace q2 := (e9).keep0 q2
  replace q3 := (e9).keep0 q3
  replace q4 := (e9).keep0 q4
  replace q6 := (e9).keep0 q6
  replace qx := (e9).keep0 qx
  replace q9 := (e9).keep0 q9
  replace E := ext_same E (e9)
  replace EX := ext_same EX (e9)
  clear e9
  rw [hL.bdB] at F
  refine sq_val F rfl (by decide) rfl (R_move rfl (F.at rfl)) ?_; clear F fa; intro fa F
  refine sq_val F rfl (by decide) (wantT F rfl rfl (by decide) rfl) (R_loadBlk rfl (F.at rfl) Try.underlying100 rfl (by kernel_rfl) q9) ?_; clear F fa; intro fa F
  refine sq_call F rfl (by decide) (wantT F rfl rfl (by decide) rfl) (R_callV rfl rfl Try.call116 (mpS (F.at rfl) (mpS (ev_c fa _) mp0))) (possible_any (addR t r) hok2 _ _ _ 0 (by omega) (by omega) _ (HX.out.ext EX (by simp))) fun e w12 hR => ?_
  obtain ⟨rfl, e9⟩ := hR
  refine ⟨_, rfl, ?_⟩; clear F fa; intro fa F
  replace q2 := (e9).keep0 q2
  replace q3 := (e9).keep0 q3
  replace q4 := (e9).keep0 q4
  replace q6 := (e9).keep0 q6
  replace qx := (e9).keep0 qx
  replace q9 := (e9).keep0 q9
  replace E := ext_same E (e9)
  replace EX := ext_same EX (e9)
  clear e9
  refine sq_val F rfl (by decide) (wantT F rfl rfl (by decide) rfl) (R_not rfl (F.at rfl)) ?_; clear F fa; intro fa F
  refine sq_val F rfl (by decide) rfl (R_pickT rfl (F.at rfl) (F.at rfl)) ?_; clear F fa; intro fa F
  refine wpList_nil ?_
  refine hK12 _ _ ?_
  clear hK12
  refine cd_b F rfl (fun hc41 => ?_) (fun hc41 => ?_)
  · skip
    have hbb : bdB (addR t r) 0 = false := by simpa using hc41
    refine wp_seq_k fun K13 hK13 => ?_
    refine wp_region_lit ?_
    refine sq_val F rfl (by decide) rfl (R_buildV rfl pr0 (cells := #[.int .i64 0, .int .i64 0, .int .i64 0, .int .i64 0, .int .i64 0, .int .i64 0, .int .i64 0, .int .i64 0, .slice none 0 0, .slice none 0 0, .slice none 0 0]) (by kernel_rfl)) ?_; clear F fa; intro fa F
    refine sq_to rfl rfl (R_storeRow rfl (F.at rfl) (F.at rfl) (by kernel_rfl) (by simp [Value.oneCell']) q4 rfl) ?_; intro w13 hw
    replace q2 := keep_cells hw q2 (by omega)
    replace q3 := keep_cells hw q3 (by omega)
    replace q4 := put_row hw q4 rfl
    replace q6 := keep_cells hw q6 (by omega)
    replace qx := keep_cells hw qx (by omega)
    replace q9 := keep_cells hw q9 (by omega)
    replace E := ext_cells E hw (fun h => by first | exact absurd h (by omega) | simp)
    clear hw
    refine sq_val F rfl (by decide) rfl (R_assign rfl (ev_c fa _)) ?_; clear F fa; intro fa F
    refine wpList_nil ?_
    refine hK13 _ _ ?_
    clear hK13
    refine wp_ret ?_
    (try simp only [Exit.inBlock, Exit.then])
    refine rt_v F (rs_ct F rfl rfl rfl Try.underlying28 rfl (by kernel_rfl) q4) ?_
    exact ⟨fun h => absurd (h.symm.trans hbb) (by decide), fun _ => ⟨rfl, E⟩⟩
  · skip
    have hbb : bdB (addR t r) 0 = true := by simpa using hc41
    refine wp_skip ?_
    refine hK11 _ _ ?_
    clear hK11
    refine wp_seq_k fun K14 hK14 => ?_
    refine wp_region_lit ?_
    refine sq_new F rfl (by decide) rfl (R_buildSlice0 rfl Try.underlying24 (size := 2) (by kernel_rfl)) ?_; clear F fa; intro fa w14 F hw
    obtain ⟨n43, hn⟩ : ∃ n, n = w12.heap.size := ⟨_, rfl⟩
    rw [← hn] at F
    have s43 : w12.heap.size ≤ n43 := Nat.le_of_eq hn.symm
    have l43_E : w.heap.size ≤ n43 := by rw [hn]; exact E.size
    have l43_EX : w8.heap.size ≤ n43 := by rw [hn]; exact EX.size
    have m43_2 : n2 < n43 := by rw [hn]; exact blk_lt q2
    have m43_3 : n3 < n43 := by rw [hn]; exact blk_lt q3
    have m43_4 : n4 < n43 := by rw [hn]; exact blk_lt q4
    have m43_6 : n6 < n43 := by rw [hn]; exact blk_lt q6
    have m43_x : bx < n43 := by rw [hn]; exact blk_lt qx
    have m43_9 : n9 < n43 := by rw [hn]; exact blk_lt q9
    replace q2 := keep_alloc hw q2
    replace q3 := keep_alloc hw q3
    replace q4 := keep_alloc hw q4
    replace q6 := keep_alloc hw q6
    replace qx := keep_alloc hw qx
    replace q9 := keep_alloc hw q9
    replace E := ext_alloc E hw
    replace EX := ext_alloc EX hw
    have q43 := new_block hw hn
    clear hw hn
    refine sq_val F rfl (by decide) rfl (R_field rfl (F.at rfl) Try.underlying28 rfl (n := 8) (sz := 1) rfl (by kernel_rfl) (by decide)) ?_; clear F fa; intro fa F
    refine sq_val F rfl (by decide) rfl (R_load rfl (F.at rfl) Try.underlying24 rfl ((cells_of_block q2 8).trans (getS (getS (getS (getS (getS (getS (getS (getS (get0))))))))))) ?_; clear F fa; intro fa F
    have hog := owns_empty (base := n43) (size := 2) q43 (by omega)
    have hbl := blk_lt q43
    clear q43
    refine sq_some F rfl (by decide) rfl (appends_run rfl (n43) (e := 23) (size := 2) (bytes := 16) Try.underlying24 (by kernel_rfl) (by decide) (F.at rfl) hog (F.at rfl) (srcAt_of_rows (HT.out.ext E (by simp)).gr (by decide) (fun _ => rfl) gr_one) (by omega) (by omega) (by omega)) ?_; clear F fa; rintro fa v' w15 F ⟨hown', hg⟩
    rw [Nat.zero_add, List.nil_append] at hown'
    clear hbl
    obtain ⟨va46, vc46, rfl⟩ := owns_slice hown'
    replace q2 := keep_type hog hg q2 (by decide)
    replace q3 := keep_type hog hg q3 (by decide)
    replace q4 := keep_type hog hg q4 (by decide)
    replace q6 := keep_type hog hg q6 (by decide)
    replace qx := keep_append hog hg qx (by omega)
    replace q9 := keep_type hog hg q9 (by decide)
    replace E := ext_appendX E hog hg (by omega)
    replace EX := ext_appendX EX hog hg (by omega)
    replace hog := hown'
    clear hg
    refine sq_val F rfl (by decide) rfl (R_field rfl (F.at rfl) Try.underlying100 rfl (n := 0) (sz := 11) rfl (by kernel_rfl) (by decide)) ?_; clear F fa; intro fa F
    refine sq_val F rfl (by decide) rfl (R_field rfl (F.at rfl) Try.underlying28 rfl (n := 8) (sz := 1) rfl (by kernel_rfl) (by decide)) ?_; clear F fa; intro fa F
    refine sq_to rfl rfl (R_store rfl (F.at rfl) (F.at rfl) rfl (by kernel_rfl) ((cells_of_block q9 8).trans (getS (getS (getS (getS (getS (getS (getS (getS (get0)))))))))) (free_of_block q9 8)) ?_; intro w16 hw
    replace hog := owns_cellX hw hog (own_ne_type hog q9 (by decide))
    replace q2 := keep_cell hw q2 (by omega)
    replace q3 := keep_cell hw q3 (by omega)
    replace q4 := keep_cell hw q4 (by omega)
    replace q6 := keep_cell hw q6 (by omega)
    replace qx := keep_cell hw qx (by omega)
    replace q9 := put_cell hw q9 (by simp only [List.setIfInBounds_toArray, List.set_cons_succ, List.set_cons_zero]; exact rfl)
    replace E := ext_cell E hw (fun h => by first | exact absurd h (by omega) | simp)
    replace EX := ext_cell EX hw (fun h => by first | exact absurd h (by omega) | simp)
    clear hw
    refine wpList_nil ?_
    refine hK14 _ _ ?_
    clear hK14
    refine wp_seq_k fun K15 hK15 => ?_
    refine wp_region_lit ?_
    refine sq_new F rfl (by decide) rfl (R_buildSlice0 rfl Try.underlying26 (size := 6) (by kernel_rfl)) ?_; clear F fa; intro fa w17 F hw
    obtain ⟨n49, hn⟩ : ∃ n, n = w16.heap.size := ⟨_, rfl⟩
    rw [← hn] at F
    have s49 : w16.heap.size ≤ n49 := Nat.le_of_eq hn.symm
    have l49_E : w.heap.size ≤ n49 := by rw [hn]; exact E.size
    have l49_EX : w8.heap.size ≤ n49 := by rw [hn]; exact EX.size
    have m49_2 : n2 < n49 := by rw [hn]; exact blk_lt q2
    have m49_3 : n3 < n49 := by rw [hn]; exact blk_lt q3
    have m49_4 : n4 < n49 := by rw [hn]; exact blk_lt q4
    have m49_6 : n6 < n49 := by rw [hn]; exact blk_lt q6
    have m49_x : bx < n49 := by rw [hn]; exact blk_lt qx
    have m49_9 : n9 < n49 := by rw [hn]; exact blk_lt q9
    have o49_hog := Lib.hid (own_ne_new hog hn)
    replace hog := owns_alloc hw hog
    replace q2 := keep_alloc hw q2
    replace q3 := keep_alloc hw q3
    replace q4 := keep_alloc hw q4
    replace q6 := keep_alloc hw q6
    replace qx := keep_alloc hw qx
    replace q9 := keep_alloc hw q9
    replace E := ext_alloc E hw
    replace EX := ext_alloc EX hw
    have q49 := new_block hw hn
    clear hw hn
    refine sq_val F rfl (by decide) rfl (R_field rfl (F.at rfl) Try.underlying28 rfl (n := 10) (sz := 1) rfl (by kernel_rfl) (by decide)) ?_; clear F fa; intro fa F
    refine sq_val F rfl (by decide) rfl (R_load rfl (F.at rfl) Try.underlying26 rfl ((cells_of_block q2 10).trans (getS (getS (getS (getS (getS (getS (getS (getS (getS (getS (get0))))))))))))) ?_; clear F fa; intro fa F
    have hol := owns_empty (base := n49) (size := 6) q49 (by omega)
    have hbl := blk_lt q49
    clear q49
    refine sq_some F rfl (by decide) rfl (appends_run rfl (n49) (e := 75) (size := 6) (bytes := 48) Try.underlying26 (by kernel_rfl) (by decide) (F.at rfl) hol (F.at rfl) (srcAt_of_rows (HT.out.ext E (by simp)).lk (by decide) (fun _ => rfl) lk_one) (by omega) (by omega) (by omega)) ?_; clear F fa; rintro fa v' w18 F ⟨hown', hg⟩
    rw [Nat.zero_add, List.nil_append] at hown'
    clear hbl
    obtain ⟨va52, vc52, rfl⟩ := owns_slice hown'
    replace q2 := keep_type hol hg q2 (by decide)
    replace q3 := keep_type hol hg q3 (by decide)
    replace q4 := keep_type hol hg q4 (by decide)
    replace q6 := keep_type hol hg q6 (by decide)
    replace qx := keep_append hol hg qx (by omega)
    replace q9 := keep_type hol hg q9 (by decide)
    replace hog := owns_other hog hol hg (by decide)
    replace E := ext_appendX E hol hg (by omega)
    replace EX := ext_appendX EX hol hg (by omega)
    replace hol := hown'
    clear hg
    refine sq_val F rfl (by decide) rfl (R_field rfl (F.at rfl) Try.underlying100 rfl (n := 0) (sz := 11) rfl (by kernel_rfl) (by decide)) ?_; clear F fa; intro fa F
    refine sq_val F rfl (by decide) rfl (R_field rfl (F.at rfl) Try.underlying28 rfl (n := 10) (sz := 1) rfl (by kernel_rfl) (by decide)) ?_; clear F fa; intro fa F
    refine sq_to rfl rfl (R_store rfl (F.at rfl) (F.at rfl) rfl (by kernel_rfl) ((cells_of_block q9 10).trans (getS (getS (getS (getS (getS (getS (getS (getS (getS (getS (get0)))))))))))) (free_of_block q9 10)) ?_; intro w19 hw
    replace hog := owns_cellX hw hog (own_ne_type hog q9 (by decide))
    replace hol := owns_cellX hw hol (own_ne_type hol q9 (by decide))
    replace q2 := keep_cell hw q2 (by omega)
    replace q3 := keep_cell hw q3 (by omega)
    replace q4 := keep_cell hw q4 (by omega)
    replace q6 := keep_cell hw q6 (by omega)
    replace qx := keep_cell hw qx (by omega)
    replace q9 := put_cell hw q9 (by simp only [List.setIfInBounds_toArray, List.set_cons_succ, List.set_cons_zero]; exact rfl)
    replace E := ext_cell E hw (fun h => by first | exact absurd h (by omega) | simp)
    replace EX := ext_cell EX hw (fun h => by first | exact absurd h (by omega) | simp)
    clear hw
    refine wpList_nil ?_
    refine hK15 _ _ ?_
    clear hK15
    refine wp_seq_k fun K16 hK16 => ?_
    refine wp_region_lit ?_
    refine sq_val F rfl (by decide) rfl (R_field rfl (F.at rfl) Try.underlying100 rfl (n := 0) (sz := 11) rfl (by kernel_rfl) (by decide)) ?_; clear F fa; intro fa F
    refine sq_val F rfl (by decide) rfl (R_loadBlk rfl (F.at rfl) Try.underlying28 rfl (by kernel_rfl) q9) ?_; clear F fa; intro fa F
    refine sq_to rfl rfl (R_storeRow rfl (F.at rfl) (F.at rfl) (by kernel_rfl) (by simp [Value.oneCell']) q4 rfl) ?_; intro w20 hw
    replace hog := owns_cellsX hw hog (own_ne_type hog q4 (by decide))
    replace hol := owns_cellsX hw hol (own_ne_type hol q4 (by decide))
    replace q2 := keep_cells hw q2 (by omega)
    replace q3 := keep_cells hw q3 (by omega)
    replace q4 := put_row hw q4 rfl
    replace q6 := keep_cells hw q6 (by omega)
    replace qx := keep_cells hw qx (by omega)
    replace q9 := keep_cells hw q9 (by omega)
    replace E := ext_cells E hw (fun h => by first | exact absurd h (by omega) | simp)
    clear hw
    refine sq_val F rfl (by decide) rfl (R_assign rfl (ev_c fa _)) ?_; clear F fa; intro fa F
    refine wpList_nil ?_
    refine hK16 _ _ ?_
    clear hK16
    refine wp_ret ?_
    (try simp only [Exit.inBlock, Exit.then])
    refine rt_v F (rs_ct F rfl rfl rfl Try.underlying28 rfl (by kernel_rfl) q4) ?_
    refine ⟨fun _ => ⟨va46, some ⟨bx, 0, none⟩, va52, vc46, cx, vc52, ?_, ⟨rows_of_owns (row := grRow) hog (fun _ => rfl), ?_, rows_of_owns (row := lkRow) hol (fun _ => rfl)⟩, E⟩, fun h => absurd (h.symm.trans hbb) (by decide)⟩
    · rw [show t.rd.length + 1 = (addR t r).rd.length by simp [addR]]; rfl
    · rw [show t.rd.length + 1 = (addR t r).rd.length by simp [addR]]; exact rows_blk HX.out.rd hqx.out qx
theorem sameTapes_n (t : Tp) (n : Nat) (hn : t.rd.length = n) (ga ra la ga' ra' la' : Option Addr) (gc rc lc gc' rc' lc' : Nat) (w : World) (h : IsTp w (.slice ga t.gr.length gc) (.slice ra n rc) (.slice la t.lk.length lc) t) (h' : IsTp w (.slice ga' t.gr.length gc') (.slice ra' n rc') (.slice la' t.lk.length lc') t) (h1 : t.gr.length ≤ 1000) (h2 : t.rd.length ≤ 1000) (h3 : t.lk.length ≤ 1000) :
    Calls Try.prog 37 #[tpV t (.slice ga t.gr.length gc) (.slice ra n rc) (.slice la t.lk.length lc), tpV t (.slice ga' t.gr.length gc') (.slice ra' n rc') (.slice la' t.lk.length lc')] w fun e w' => e = .returned (.bool true) ∧ Ext [] w w' := by
  subst hn
  exact sameTapes_yes t ga ra la ga' ra' la' gc rc lc gc' rc' lc' w h h' h1 h2 h3
set_option maxRecDepth 100000 in
theorem added_walk (a0 : Option Addr) (len0 cap0 : Nat) (z0 : List Int) (w : World) (h0 : IsRow .i64 w a0 len0 cap0 z0) :
    Calls Try.prog 19 #[.slice a0 len0 cap0] w fun e w' => e = .returned (.bool true) ∧ Ext [] w w' := by
  have HN := Lib.hid (newLots_any w a0 len0 cap0 z0 h0)
  clear h0
  have E : Ext [] w w := Ext.refl _ _
  refine calls_has 71 Try.func19 rfl Try.ntmps19 (Nat.le_of_ble_eq_true rfl) ?_
  intro fa F
  refine wp_seq_k fun K1 hK1 => ?_
  refine wp_region_lit ?_
  refine sq_val F rfl (by decide) rfl (R_assign rfl (ev_c fa _)) ?_; clear F fa; intro fa F
  refine wpList_nil ?_
  refine hK1 _ _ ?_
  clear hK1
  refine wp_seq_k fun K2 hK2 => ?_
  refine wp_region_lit ?_
  refine sq_val F rfl (by decide) rfl (R_move rfl (F.at rfl)) ?_; clear F fa; intro fa F
  refine sq_call F rfl (by decide) rfl (R_callV rfl rfl Try.call27 (mpS (F.at rfl) mp0)) (HN.out) fun e w1 hR => ?_
  obtain ⟨b, rfl, hb, hb2, HL, e1⟩ := hR
  refine ⟨_, rfl, ?_⟩; clear F fa; intro fa F
  replace E := ext_same E (e1)
  clear e1
  refine sq_val F rfl (by decide) rfl (R_assign rfl (F.at rfl)) ?_; clear F fa; intro fa F
  refine wpList_nil ?_
  refine hK2 _ _ ?_
  clear hK2
  refine wp_seq_k fun K3 hK3 => ?_
  refine wp_region_lit ?_
  refine sq_val F rfl (by decide) rfl (R_move rfl (F.at rfl)) ?_; clear F fa; intro fa F
  refine sq_val F rfl (by decide) rfl (R_move rfl (F.at rfl)) ?_; clear F fa; intro fa F
  refine sq_new F rfl (by decide) rfl (R_buildSliceV rfl (prS (ev_c fa _) (prS (ev_c fa _) pr0)) Try.underlying29 (size := 1) (by kernel_rfl) (by decide) (by decide) Try.zeroValue3 (cells := #[.int .i64 6, .int .i64 20]) (by kernel_rfl)) ?_; clear F fa; intro fa w2 F hw
  obtain ⟨n18, hn⟩ : ∃ n, n = w1.heap.size := ⟨_, rfl⟩
  rw [← hn] at F
  have s18 : w1.heap.size ≤ n18 := Nat.le_of_eq hn.symm
  have l18_E : w.heap.size ≤ n18 := by rw [hn]; exact E.size
  have b18_HL := Nat.lt_of_lt_of_eq (lots_lt HL) hn.symm
  replace E := ext_alloc E hw
  replace HL := lots_alloc hw HL
  have q18 := new_block hw hn
  clear hw hn
  refine sq_call F rfl (by decide) rfl (R_callV rfl rfl Try.call45 (mpS (F.at rfl) (mpS (F.at rfl) mp0))) (of_any w _ b _ _ n18 _ [6, 20] HL (by omega) q18 (by omega) (by decide) (by decide)) fun e w3 hR => ?_
  obtain ⟨wd, rfl, hwd, HL, e1⟩ := hR
  refine ⟨_, rfl, ?_⟩; clear F fa; intro fa F
  replace q18 := (e1).keep q18 (by simp; omega)
  replace E := E.trans' e1 (fun i hi hl => by simp only [List.mem_cons, List.not_mem_nil, or_false] at hi ⊢; omega)
  replace hwd : 0 ≤ wd ∧ wd ≤ 60 := by simp at hwd; omega
  have hbB := lots_lt HL
  obtain ⟨B0, hB0⟩ : ∃ B0, B0 = w3.heap.size := ⟨_, rfl⟩
  rw [← hB0] at hbB
  have hwB : w.heap.size ≤ B0 := by rw [hB0]; exact E.size
  refine sq_call F rfl (by decide) rfl (R_callV rfl rfl Try.call44 (mpS (F.at rfl) (mpS (ev_c fa _) (mpS (ev_c fa _) (mpS (F.at rfl) mp0))))) (measuredOf_any w _ b _ _ 2 2 wd HL (by omega) (by omega) (by omega) (by omega) (by omega) (by omega) (by omega)) fun e w4 hR => ?_
  obtain ⟨t, ms, ps, vs, gv, rv, lv, mv, pv, rfl, hM, hS, hA, hbm, og, orr, olk, om, hms, op, HL, e2⟩ := hR
  refine ⟨_, rfl, ?_⟩; clear F fa; intro fa F
  replace q18 := (e2).keep q18 (by simp; omega)
  replace E := E.trans' e2 (fun i hi hl => by simp only [List.mem_cons, List.not_mem_nil, or_false] at hi ⊢; omega)
  have hLv := hM.live
  rw [← hB0] at og orr olk
  clear hB0
  obtain ⟨ga, gc, rfl⟩ := owns_slice og
  obtain ⟨ra, rc, rfl⟩ := owns_slice orr
  obtain ⟨la, lc, rfl⟩ := owns_slice olk
  obtain ⟨ma, mc, rfl⟩ := owns_slice om
  obtain ⟨pa, pc, rfl⟩ := owns_slice op
  have hbN := Lib.hid hbB
  have HT : Hid (∀ W, Ext [b] w4 W → IsTp W (.slice ga t.gr.length gc) (.slice ra t.rd.length rc) (.slice la t.lk.length lc) t) := fun W hW => tp_of_owns (owns_ext og hW (by simp; exact hbN.out)) (owns_ext orr hW (by simp; exact hbN.out)) (owns_ext olk hW (by simp; exact hbN.out))
  have hcapR := owns_cap orr
  clear om hms op og orr olk
  have hokT := hM.ok
  have hS1 := hokT.S1
  have hS3 := hokT.S3
  have hA1 := hokT.A1
  have hA3 := hokT.A3
  have hT1 := hokT.T1
  have hT3 := hokT.T3
  have hgl := hokT.grl
  have hrl := hM.rdl
  have hkl := hM.lkl
  obtain ⟨hP1, hP2⟩ := ok_prod hokT
  have EO : Ext [b] w4 w4 := Ext.refl _ _
  have hwo := E.size
  refine sq_val F rfl (by decide) rfl (R_move rfl (F.at rfl)) ?_; clear F fa; intro fa F
  refine sq_val F rfl (by decide) rfl (R_extract rfl (F.at rfl) (get0)) ?_; clear F fa; intro fa F
  refine sq_val F rfl (by decide) rfl (R_extract rfl (F.at rfl) (getS (get0))) ?_; clear F fa; intro fa F
  refine sq_val F rfl (by decide) rfl (R_extract rfl (F.at rfl) (getS (getS (get0)))) ?_; clear F fa; intro fa F
  refine sq_new F rfl (by decide) rfl (R_alloc rfl Try.zeroValue28) ?_; clear F fa; intro fa w5 F hw
  obtain ⟨n4, hn⟩ : ∃ n, n = w4.heap.size := ⟨_, rfl⟩
  rw [← hn] at F
  have s4 : w4.heap.size ≤ n4 := Nat.le_of_eq hn.symm
  have l4_E : w.heap.size ≤ n4 := by rw [hn]; exact E.size
  have l4_EO : w4.heap.size ≤ n4 := by rw [hn]; exact EO.size
  have b4_HL := Nat.lt_of_lt_of_eq (lots_lt HL) hn.symm
  replace E := ext_alloc E hw
  replace EO := ext_alloc EO hw
  replace HL := lots_alloc hw HL
  have q4 := new_row hw hn
  clear hw hn
  refine sq_to rfl rfl (R_storeRow rfl (F.at rfl) (F.at rfl) (by kernel_rfl) (by simp [Value.oneCell']) q4 rfl) ?_; intro w6 hw
  replace q4 := put_row hw q4 rfl
  replace E := ext_cells E hw (fun h => by first | exact absurd h (by omega) | simp)
  replace EO := ext_cells EO hw (fun h => by first | exact absurd h (by omega) | simp)
  replace HL := lots_cells hw HL (by omega) (by omega)
  clear hw
  refine sq_val F rfl (by decide) rfl (R_assign rfl (F.at rfl)) ?_; clear F fa; intro fa F
  refine sq_val F rfl (by decide) rfl (R_assign rfl (F.at rfl)) ?_; clear F fa; intro fa F
  refine wpList_nil ?_
  refine hK3 _ _ ?_
  clear hK3
  refine wp_seq_k fun K4 hK4 => ?_
  refine wp_region_lit ?_
  refine sq_val F rfl (by decide) rfl (R_move rfl (F.at rfl)) ?_; clear F fa; intro fa F
  refine sq_val F rfl (by decide) rfl (R_loadBlk rfl (F.at rfl) Try.underlying28 rfl (by kernel_rfl) q4) ?_; clear F fa; intro fa F
  refine sq_call F rfl (by decide) rfl (R_callV rfl rfl Try.call53 (mpS (F.at rfl) (mpS (F.at rfl) mp0))) (readingOf_any w _ b _ _ HL (by omega) t hokT _ _ _ ⟨rfl, rfl, rfl⟩) fun e w7 hR => ?_
  obtain ⟨r, rfl, hfit, HL, e1⟩ := hR
  refine ⟨_, rfl, ?_⟩; clear F fa; intro fa F
  replace q4 := (e1).keep q4 (by simp; omega)
  replace E := E.trans' e1 (fun i hi hl => by simp only [List.mem_cons, List.not_mem_nil, or_false] at hi ⊢; omega)
  replace EO := EO.trans' e1 (fun i hi hl => by simp only [List.mem_cons, List.not_mem_nil, or_false] at hi ⊢; omega)
  refine sq_new F rfl (by decide) rfl (R_alloc rfl Try.zeroValue66) ?_; clear F fa; intro fa w8 F hw
  obtain ⟨n7, hn⟩ : ∃ n, n = w7.heap.size := ⟨_, rfl⟩
  rw [← hn] at F
  have s7 : w7.heap.size ≤ n7 := Nat.le_of_eq hn.symm
  have l7_E : w.heap.size ≤ n7 := by rw [hn]; exact E.size
  have l7_EO : w4.heap.size ≤ n7 := by rw [hn]; exact EO.size
  have m7_4 : n4 < n7 := by rw [hn]; exact blk_lt q4
  replace q4 := keep_alloc hw q4
  replace E := ext_alloc E hw
  replace EO := ext_alloc EO hw
  have q7 := new_row hw hn
  clear hw hn
  refine sq_to rfl rfl (R_storeRow rfl (F.at rfl) (F.at rfl) (by kernel_rfl) (by simp [Value.oneCell']) q7 rfl) ?_; intro w9 hw
  replace q4 := keep_cells hw q4 (by omega)
  replace q7 := put_row hw q7 rfl
  replace E := ext_cells E hw (fun h => by first | exact absurd h (by omega) | simp)
  replace EO := ext_cells EO hw (fun h => by first | exact absurd h (by omega) | simp)
  clear hw
  refine wpList_nil ?_
  obtain ⟨hok2, h82⟩ := addR_fit hokT hfit (by omega)
  refine hK4 _ _ ?_
  clear hK4
  refine wp_seq_k fun K5 hK5 => ?_
  refine wp_region_lit ?_
  refine sq_val F rfl (by decide) rfl (R_loadBlk rfl (F.at rfl) Try.underlying28 rfl (by kernel_rfl) q4) ?_; clear F fa; intro fa F
  obtain ⟨Bx, hBx⟩ : ∃ Bx, Bx = w9.heap.size := ⟨_, rfl⟩
  have hOx2 := Nat.le_trans EO.size (Nat.le_of_eq hBx.symm)
  have hwx := Nat.le_trans E.size (Nat.le_of_eq hBx.symm)
  have hn7 := blk_lt q7
  rw [← hBx] at hn7
  refine sq_call F rfl (by decide) rfl (R_callV rfl rfl Try.call28 (mpS (F.at rfl) mp0)) (copyTapes_any t ga ra la gc rc lc _ (HT.out _ EO) (by omega) (by omega) (by omega)) fun e w10 hR => ?_
  obtain ⟨gx, rx, lx, rfl, ⟨ogx, orx, olx⟩, eX⟩ := hR
  refine ⟨_, rfl, ?_⟩; clear F fa; intro fa F
  replace q4 := (eX).keep0 q4
  replace q7 := (eX).keep0 q7
  replace E := ext_same E (eX)
  replace EO := ext_same EO (eX)
  rw [← hBx] at ogx orx olx
  have hBx1 : Bx ≤ w10.heap.size := by rw [hBx]; exact eX.size
  clear hBx eX
  obtain ⟨gxa, gxc, rfl⟩ := owns_slice ogx
  obtain ⟨rxa, rxc, rfl⟩ := owns_slice orx
  obtain ⟨lxa, lxc, rfl⟩ := owns_slice olx
  refine sq_new F rfl (by decide) rfl (R_alloc rfl Try.zeroValue28) ?_; clear F fa; intro fa w11 F hw
  obtain ⟨n8, hn⟩ : ∃ n, n = w10.heap.size := ⟨_, rfl⟩
  rw [← hn] at F
  have s8 : w10.heap.size ≤ n8 := Nat.le_of_eq hn.symm
  have l8_E : w.heap.size ≤ n8 := by rw [hn]; exact E.size
  have l8_EO : w4.heap.size ≤ n8 := by rw [hn]; exact EO.size
  have m8_4 : n4 < n8 := by rw [hn]; exact blk_lt q4
  have m8_7 : n7 < n8 := by rw [hn]; exact blk_lt q7
  have o8_ogx := Lib.hid (own_ne_new ogx hn)
  have o8_olx := Lib.hid (own_ne_new olx hn)
  have o8_orx := Lib.hid (own_ne_new orx hn)
  replace ogx := owns_alloc hw ogx
  replace olx := owns_alloc hw olx
  replace orx := owns_alloc hw orx
  replace q4 := keep_alloc hw q4
  replace q7 := keep_alloc hw q7
  replace E := ext_alloc E hw
  replace EO := ext_alloc EO hw
  have q8 := new_row hw hn
  clear hw hn
  refine sq_to rfl rfl (R_storeRow rfl (F.at rfl) (F.at rfl) (by kernel_rfl) (by simp [Value.oneCell']) q8 rfl) ?_; intro w12 hw
  replace ogx := owns_cellsX hw ogx (own_ne_type ogx q8 (by decide))
  replace olx := owns_cellsX hw olx (own_ne_type olx q8 (by decide))
  replace orx := owns_cellsX hw orx (own_ne_type orx q8 (by decide))
  replace q4 := keep_cells hw q4 (by omega)
  replace q7 := keep_cells hw q7 (by omega)
  replace q8 := put_row hw q8 rfl
  replace E := ext_cells E hw (fun h => by first | exact absurd h (by omega) | simp)
  replace EO := ext_cells EO hw (fun h => by first | exact absurd h (by omega) | simp)
  clear hw
  refine wpList_nil ?_
  refine hK5 _ _ ?_
  clear hK5
  refine wp_seq_k fun K6 hK6 => ?_
  refine wp_region_lit ?_
  refine sq_val F rfl (by decide) rfl (R_field rfl (F.at rfl) Try.underlying28 rfl (n := 9) (sz := 1) rfl (by kernel_rfl) (by decide)) ?_; clear F fa; intro fa F
  refine sq_val F rfl (by decide) rfl (R_load rfl (F.at rfl) Try.underlying25 rfl ((cells_of_block q8 9).trans (getS (getS (getS (getS (getS (getS (getS (getS (getS (get0)))))))))))) ?_; clear F fa; intro fa F
  refine sq_val F rfl (by decide) rfl (R_loadBlk rfl (F.at rfl) Try.underlying66 rfl (by kernel_rfl) q7) ?_; clear F fa; intro fa F
  refine sq_new F rfl (by decide) rfl (R_buildSliceV rfl (prS (F.at rfl) pr0) Try.underlying25 (size := 4) (by kernel_rfl) (by decide) (by decide) Try.zeroValue66 (cells := #[.int .i64 r.1, .int .i64 r.2.1, .int .i64 r.2.2.1, .int .i64 r.2.2.2]) (by kernel_rfl)) ?_; clear F fa; intro fa w13 F hw
  obtain ⟨n32, hn⟩ : ∃ n, n = w12.heap.size := ⟨_, rfl⟩
  rw [← hn] at F
  have s32 : w12.heap.size ≤ n32 := Nat.le_of_eq hn.symm
  have l32_E : w.heap.size ≤ n32 := by rw [hn]; exact E.size
  have l32_EO : w4.heap.size ≤ n32 := by rw [hn]; exact EO.size
  have m32_4 : n4 < n32 := by rw [hn]; exact blk_lt q4
  have m32_7 : n7 < n32 := by rw [hn]; exact blk_lt q7
  have m32_8 : n8 < n32 := by rw [hn]; exact blk_lt q8
  have o32_ogx := Lib.hid (own_ne_new ogx hn)
  have o32_olx := Lib.hid (own_ne_new olx hn)
  have o32_orx := Lib.hid (own_ne_new orx hn)
  replace ogx := owns_alloc hw ogx
  replace olx := owns_alloc hw olx
  replace orx := owns_alloc hw orx
  replace q4 := keep_alloc hw q4
  replace q7 := keep_alloc hw q7
  replace q8 := keep_alloc hw q8
  replace E := ext_alloc E hw
  replace EO := ext_alloc EO hw
  have q32 := new_block hw hn
  clear hw hn
  have hb8 := blk_lt q8
  refine sq_some F rfl (by decide) rfl (append_run rfl (Bx) (e := 66) (size := 4) (bytes := 32) Try.underlying25 (by kernel_rfl) (by decide) (F.at rfl) orx (F.at rfl) q32 rfl (by simp [Value.oneCell']) (by omega) (by omega) (by omega)) ?_; clear F fa; rintro fa v' w14 F ⟨hown', hg⟩
  obtain ⟨va33, vc33, rfl⟩ := owns_slice hown'
  replace q4 := keep_type orx hg q4 (by decide)
  replace q7 := keep_append orx hg q7 (by omega)
  replace q8 := (hg.block n8 (blk_lt q8) o8_orx.out).trans q8
  replace ogx := owns_other ogx orx hg (by decide)
  replace olx := owns_other olx orx hg (by decide)
  replace E := ext_appendX E orx hg (by omega)
  replace EO := ext_appendX EO orx hg (by omega)
  replace orx := hown'
  clear hg
  refine sq_val F rfl (by decide) rfl (R_field rfl (F.at rfl) Try.underlying28 rfl (n := 9) (sz := 1) rfl (by kernel_rfl) (by decide)) ?_; clear F fa; intro fa F
  refine sq_to rfl rfl (R_store rfl (F.at rfl) (F.at rfl) rfl (by kernel_rfl) ((cells_of_block q8 9).trans (getS (getS (getS (getS (getS (getS (getS (getS (getS (get0))))))))))) (free_of_block q8 9)) ?_; intro w15 hw
  replace ogx := owns_cellX hw ogx (own_ne_type ogx q8 (by decide))
  replace olx := owns_cellX hw olx (own_ne_type olx q8 (by decide))
  replace orx := owns_cellX hw orx (own_ne_type orx q8 (by decide))
  replace q4 := keep_cell hw q4 (by omega)
  replace q7 := keep_cell hw q7 (by omega)
  replace q8 := put_cell hw q8 (by simp only [List.setIfInBounds_toArray, List.set_cons_succ, List.set_cons_zero]; exact rfl)
  replace E := ext_cell E hw (fun h => by first | exact absurd h (by omega) | simp)
  replace EO := ext_cell EO hw (fun h => by first | exact absurd h (by omega) | simp)
  clear hw
  refine wpList_nil ?_
  have HD := Lib.hid (show IsTp w15 (.slice gxa t.gr.length gxc) (.slice va33 (t.rd.length + 1) vc33) (.slice lxa t.lk.length lxc) (addR t r) from ⟨rows_of_owns (row := grRow) ogx (fun _ => rfl), own_addR orx, rows_of_owns (row := lkRow) olx (fun _ => rfl)⟩)
  clear ogx orx olx
  have ED : Ext [] w15 w15 := Ext.refl _ _
  refine hK6 _ _ ?_
  clear hK6
  refine wp_seq_k fun K7 hK7 => ?_
  by_cases hB : bdB (addR t r) 0 = true
  · skip
    refine wp_region_lit ?_
    refine sq_val F rfl (by decide) rfl (R_loadBlk rfl (F.at rfl) Try.underlying28 rfl (by kernel_rfl) q4) ?_; clear F fa; intro fa F
    refine sq_val F rfl (by decide) rfl (R_loadBlk rfl (F.at rfl) Try.underlying66 rfl (by kernel_rfl) q7) ?_; clear F fa; intro fa F
    refine sq_call F rfl (by decide) rfl (R_callV rfl rfl Try.call68 (mpS (F.at rfl) (mpS (F.at rfl) mp0))) (((add_live hLv hfit (by omega) ga ra la gc rc lc hcapR _ (HT.out _ EO)).mono fun e w' h => h.1 hB)) fun e w16 hR => ?_
    obtain ⟨gA, rA, lA, hA, iA, jA, rfl, hTA, eA⟩ := hR
    refine ⟨_, rfl, ?_⟩; clear F fa; intro fa F
    replace q4 := (eA).keep0 q4
    replace q7 := (eA).keep0 q7
    replace q8 := (eA).keep0 q8
    replace E := ext_same E (eA)
    replace EO := ext_same EO (eA)
    replace ED := ext_same ED (eA)
    have HA := Lib.hid hTA
    clear hTA
    have EA : Ext [] w16 w16 := Ext.refl _ _
    refine sq_val F rfl (by decide) rfl (R_move rfl (F.at rfl)) ?_; clear F fa; intro fa F
    refine sq_val F rfl (by decide) rfl (R_extract rfl (F.at rfl) (get0)) ?_; clear F fa; intro fa F
    refine sq_val F rfl (by decide) rfl (R_extract rfl (F.at rfl) (getS (get0))) ?_; clear F fa; intro fa F
    refine sq_new F rfl (by decide) rfl (R_alloc rfl Try.zeroValue28) ?_; clear F fa; intro fa w17 F hw
    obtain ⟨n9, hn⟩ : ∃ n, n = w16.heap.size := ⟨_, rfl⟩
    rw [← hn] at F
    have s9 : w16.heap.size ≤ n9 := Nat.le_of_eq hn.symm
    have l9_E : w.heap.size ≤ n9 := by rw [hn]; exact E.size
    have l9_EO : w4.heap.size ≤ n9 := by rw [hn]; exact EO.size
    have l9_ED : w15.heap.size ≤ n9 := by rw [hn]; exact ED.size
    have l9_EA : w16.heap.size ≤ n9 := by rw [hn]; exact EA.size
    have m9_4 : n4 < n9 := by rw [hn]; exact blk_lt q4
    have m9_7 : n7 < n9 := by rw [hn]; exact blk_lt q7
    have m9_8 : n8 < n9 := by rw [hn]; exact blk_lt q8
    replace q4 := keep_alloc hw q4
    replace q7 := keep_alloc hw q7
    replace q8 := keep_alloc hw q8
    replace E := ext_alloc E hw
    replace EO := ext_alloc EO hw
    replace ED := ext_alloc ED hw
    replace EA := ext_alloc EA hw
    have q9 := new_row hw hn
    clear hw hn
    refine sq_to rfl rfl (R_storeRow rfl (F.at rfl) (F.at rfl) (by kernel_rfl) (by simp [Value.oneCell']) q9 rfl) ?_; intro w18 hw
    replace q4 := keep_cells hw q4 (by omega)
    replace q7 := keep_cells hw q7 (by omega)
    replace q8 := keep_cells hw q8 (by omega)
    replace q9 := put_row hw q9 rfl
    replace E := ext_cells E hw (fun h => by first | exact absurd h (by omega) | simp)
    replace EO := ext_cells EO hw (fun h => by first | exact absurd h (by omega) | simp)
    replace ED := ext_cells ED hw (fun h => by first | exact absurd h (by omega) | simp)
    replace EA := ext_cells EA hw (fun h => by first | exact absurd h (by omega) | simp)
    clear hw
    refine sq_val F rfl (by decide) rfl (R_assign rfl (F.at rfl)) ?_; clear F fa; intro fa F
    refine wpList_nil ?_
    refine hK7 _ _ ?_
    clear hK7
    refine wp_seq_k fun K8 hK8 => ?_
    refine wp_region_lit ?_
    refine sq_val F rfl (by decide) rfl (R_loadBlk rfl (F.at rfl) Try.underlying28 rfl (by kernel_rfl) q8) ?_; clear F fa; intro fa F
    refine sq_call F rfl (by decide) rfl (R_callV rfl rfl Try.call29 (mpS (F.at rfl) mp0)) (can_ok hok2 h82 (HD.out.ext ED (by simp))) fun e w19 hR => ?_
    obtain ⟨rfl, e9⟩ := hR
    refine ⟨_, rfl, ?_⟩; clear F fa; intro fa F
    replace q4 := (e9).keep0 q4
    replace q7 := (e9).keep0 q7
    replace q8 := (e9).keep0 q8
    replace q9 := (e9).keep0 q9
    replace E := ext_same E (e9)
    replace EO := ext_same EO (e9)
    replace ED := ext_same ED (e9)
    replace EA := ext_same EA (e9)
    clear e9
    rw [hB] at F
    refine sq_val F rfl (by decide) rfl (R_move rfl (F.at rfl)) ?_; clear F fa; intro fa F
    refine sq_val F rfl (by decide) rfl (R_extract rfl (F.at rfl) (get0)) ?_; clear F fa; intro fa F
    refine sq_val F rfl (by decide) rfl (R_extract rfl (F.at rfl) (getS (get0))) ?_; clear F fa; intro fa F
    refine sq_val F rfl (by decide) rfl (R_assign rfl (F.at rfl)) ?_; clear F fa; intro fa F
    refine sq_val F rfl (by decide) rfl (R_assign rfl (F.at rfl)) ?_; clear F fa; intro fa F
    refine wpList_nil ?_
    refine hK8 _ _ ?_
    clear hK8
    refine wp_seq_k fun K9 hK9 => ?_
    refine wp_seq_k fun K10 hK10 => ?_
    refine wp_region_lit ?_
    refine sq_val F rfl (by decide) rfl (R_move rfl (F.at rfl)) ?_; clear F fa; intro fa F
    refine sq_val F rfl (by decide) rfl (R_neqB (b := false) rfl (F.at rfl) (ev_c fa _) (by decide)) ?_; clear F fa; intro fa F
    refine wpList_nil ?_
    refine hK10 _ _ ?_
    clear hK10
    refine cd_F F rfl ?_
    refine wp_skip ?_
    refine hK9 _ _ ?_
    clear hK9
    refine wp_seq_k fun K11 hK11 => ?_
    refine wp_seq_k fun K12 hK12 => ?_
    refine wp_region_lit ?_
    refine sq_val F rfl (by decide) rfl (R_move rfl (F.at rfl)) ?_; clear F fa; intro fa F
    refine sq_val F rfl (by decide) rfl (R_not rfl (F.at rfl)) ?_; clear F fa; intro fa F
    refine wpList_nil ?_
    refine hK12 _ _ ?_
    clear hK12
    refine cd_F F rfl ?_
    refine wp_skip ?_
    refine hK11 _ _ ?_
    clear hK11
    refine wp_seq_k fun K13 hK13 => ?_
    refine wp_region_lit ?_
    refine sq_val F rfl (by decide) rfl (R_move rfl (F.at rfl)) ?_; clear F fa; intro fa F
    refine sq_val F rfl (by decide) rfl (R_eqlB (b := true) rfl (F.at rfl) (ev_c fa _) (by decide)) ?_; clear F fa; intro fa F
    refine sq_val F rfl (by decide) rfl (R_move rfl (F.at rfl)) ?_; clear F fa; intro fa F
    refine sq_val F rfl (by decide) (wantT F rfl rfl (by decide) rfl) (R_loadBlk rfl (F.at rfl) Try.underlying28 rfl (by kernel_rfl) q9) ?_; clear F fa; intro fa F
    refine sq_val F rfl (by decide) (wantT F rfl rfl (by decide) rfl) (R_loadBlk rfl (F.at rfl) Try.underlying28 rfl (by kernel_rfl) q8) ?_; clear F fa; intro fa F
    refine sq_call F rfl (by decide) (wantT F rfl rfl (by decide) rfl) (R_callV rfl rfl Try.call37 (mpS (F.at rfl) (mpS (F.at rfl) mp0))) (sameTapes_n (addR t r) (t.rd.length + 1) (by simp [addR]) gA rA lA gxa va33 lxa hA iA jA gxc vc33 lxc _ (HA.out.ext EA (by simp)) (HD.out.ext ED (by simp)) (show t.gr.length ≤ 1000 by omega) (by omega) (show t.lk.length ≤ 1000 by omega)) fun e w20 hR => ?_
    obtain ⟨rfl, e9⟩ := hR
    refine ⟨_, rfl, ?_⟩; clear F fa; intro fa F
    replace q4 := (e9).keep0 q4
    replace q7 := (e9).keep0 q7
    replace q8 := (e9).keep0 q8
    replace q9 := (e9).keep0 q9
    replace E := ext_same E (e9)
    replace EO := ext_same EO (e9)
    replace ED := ext_same ED (e9)
    replace EA := ext_same EA (e9)
    clear e9
    refine sq_val F rfl (by decide) rfl (R_pickT rfl (F.at rfl) (F.at rfl)) ?_; clear F fa; intro fa F
    refine sq_val F rfl (by decide) rfl (R_move rfl (F.at rfl)) ?_; clear F fa; intro fa F
    refine sq_call F rfl (by decide) (wantT F rfl rfl (by decide) rfl) (R_callV rfl rfl Try.call25 mp0) (taken_any _) fun e w21 hR => ?_
    obtain ⟨rfl, e9⟩ := hR
    refine ⟨_, rfl, ?_⟩; clear F fa; intro fa F
    replace q4 := (e9).keep0 q4
    replace q7 := (e9).keep0 q7
    replace q8 := (e9).keep0 q8
    replace q9 := (e9).keep0 q9
    replace E := ext_same E (e9)
    replace EO := ext_same EO (e9)
    replace ED := ext_same ED (e9)
    replace EA := ext_same EA (e9)
    clear e9
    refine sq_val F rfl (by decide) rfl (R_pickT rfl (F.at rfl) (F.at rfl)) ?_; clear F fa; intro fa F
    refine sq_val F rfl (by decide) rfl (R_assign rfl (F.at rfl)) ?_; clear F fa; intro fa F
    refine wpList_nil ?_
    refine hK13 _ _ ?_
    clear hK13
    refine wp_ret ?_
    (try simp only [Exit.inBlock, Exit.then])
    refine rt_v F (rs_1 F rfl rfl) ?_
    exact ⟨rfl, E⟩
  · skip
    refine wp_region_lit ?_
    refine sq_val F rfl (by decide) rfl (R_loadBlk rfl (F.at rfl) Try.underlying28 rfl (by kernel_rfl) q4) ?_; clear F fa; intro fa F
    refine sq_val F rfl (by decide) rfl (R_loadBlk rfl (F.at rfl) Try.underlying66 rfl (by kernel_rfl) q7) ?_; clear F fa; intro fa F
    refine sq_call F rfl (by decide) rfl (R_callV rfl rfl Try.call68 (mpS (F.at rfl) (mpS (F.at rfl) mp0))) (((add_live hLv hfit (by omega) ga ra la gc rc lc hcapR _ (HT.out _ EO)).mono fun e w' h => h.2 (by simpa using hB))) fun e w22 hR => ?_
    obtain ⟨rfl, eA⟩ := hR
    refine ⟨_, rfl, ?_⟩; clear F fa; intro fa F
    replace q4 := (eA).keep0 q4
    replace q7 := (eA).keep0 q7
    replace q8 := (eA).keep0 q8
    replace E := ext_same E (eA)
    replace EO := ext_same EO (eA)
    replace ED := ext_same ED (eA)
    refine sq_val F rfl (by decide) rfl (R_move rfl (F.at rfl)) ?_; clear F fa; intro fa F
    refine sq_val F rfl (by decide) rfl (R_extract rfl (F.at rfl) (get0)) ?_; clear F fa; intro fa F
    refine sq_val F rfl (by decide) rfl (R_extract rfl (F.at rfl) (getS (get0))) ?_; clear F fa; intro fa F
    refine sq_new F rfl (by decide) rfl (R_alloc rfl Try.zeroValue28) ?_; clear F fa; intro fa w23 F hw
    obtain ⟨n9, hn⟩ : ∃ n, n = w22.heap.size := ⟨_, rfl⟩
    rw [← hn] at F
    have s9 : w22.heap.size ≤ n9 := Nat.le_of_eq hn.symm
    have l9_E : w.heap.size ≤ n9 := by rw [hn]; exact E.size
    have l9_EO : w4.heap.size ≤ n9 := by rw [hn]; exact EO.size
    have l9_ED : w15.heap.size ≤ n9 := by rw [hn]; exact ED.size
    have m9_4 : n4 < n9 := by rw [hn]; exact blk_lt q4
    have m9_7 : n7 < n9 := by rw [hn]; exact blk_lt q7
    have m9_8 : n8 < n9 := by rw [hn]; exact blk_lt q8
    replace q4 := keep_alloc hw q4
    replace q7 := keep_alloc hw q7
    replace q8 := keep_alloc hw q8
    replace E := ext_alloc E hw
    replace EO := ext_alloc EO hw
    replace ED := ext_alloc ED hw
    have q9 := new_row hw hn
    clear hw hn
    refine sq_to rfl rfl (R_storeRow rfl (F.at rfl) (F.at rfl) (by kernel_rfl) (by simp [Value.oneCell']) q9 rfl) ?_; intro w24 hw
    replace q4 := keep_cells hw q4 (by omega)
    replace q7 := keep_cells hw q7 (by omega)
    replace q8 := keep_cells hw q8 (by omega)
    replace q9 := put_row hw q9 rfl
    replace E := ext_cells E hw (fun h => by first | exact absurd h (by omega) | simp)
    replace EO := ext_cells EO hw (fun h => by first | exact absurd h (by omega) | simp)
    replace ED := ext_cells ED hw (fun h => by first | exact absurd h (by omega) | simp)
    clear hw
    refine sq_val F rfl (by decide) rfl (R_assign rfl (F.at rfl)) ?_; clear F fa; intro fa F
    refine wpList_nil ?_
    refine hK7 _ _ ?_
    clear hK7
    refine wp_seq_k fun K14 hK14 => ?_
    refine wp_region_lit ?_
    refine sq_val F rfl (by decide) rfl (R_loadBlk rfl (F.at rfl) Try.underlying28 rfl (by kernel_rfl) q8) ?_; clear F fa; intro fa F
    refine sq_call F rfl (by decide) rfl (R_callV rfl rfl Try.call29 (mpS (F.at rfl) mp0)) (can_ok hok2 h82 (HD.out.ext ED (by simp))) fun e w25 hR => ?_
    obtain ⟨rfl, e9⟩ := hR
    refine ⟨_, rfl, ?_⟩; clear F fa; intro fa F
    replace q4 := (e9).keep0 q4
    replace q7 := (e9).keep0 q7
    replace q8 := (e9).keep0 q8
    replace q9 := (e9).keep0 q9
    replace E := ext_same E (e9)
    replace EO := ext_same EO (e9)
    replace ED := ext_same ED (e9)
    clear e9
    rw [show bdB (addR t r) 0 = false by simpa using hB] at F
    refine sq_val F rfl (by decide) rfl (R_move rfl (F.at rfl)) ?_; clear F fa; intro fa F
    refine sq_val F rfl (by decide) rfl (R_extract rfl (F.at rfl) (get0)) ?_; clear F fa; intro fa F
    refine sq_val F rfl (by decide) rfl (R_extract rfl (F.at rfl) (getS (get0))) ?_; clear F fa; intro fa F
    refine sq_val F rfl (by decide) rfl (R_assign rfl (F.at rfl)) ?_; clear F fa; intro fa F
    refine sq_val F rfl (by decide) rfl (R_assign rfl (F.at rfl)) ?_; clear F fa; intro fa F
    refine wpList_nil ?_
    refine hK14 _ _ ?_
    clear hK14
    refine wp_seq_k fun K15 hK15 => ?_
    refine wp_seq_k fun K16 hK16 => ?_
    refine wp_region_lit ?_
    refine sq_val F rfl (by decide) rfl (R_move rfl (F.at rfl)) ?_; clear F fa; intro fa F
    refine sq_val F rfl (by decide) rfl (R_neqB (b := false) rfl (F.at rfl) (ev_c fa _) (by decide)) ?_; clear F fa; intro fa F
    refine wpList_nil ?_
    refine hK16 _ _ ?_
    clear hK16
    refine cd_F F rfl ?_
    refine wp_skip ?_
    refine hK15 _ _ ?_
    clear hK15
    refine wp_seq_k fun K17 hK17 => ?_
    refine wp_seq_k fun K18 hK18 => ?_
    refine wp_region_lit ?_
    refine sq_val F rfl (by decide) rfl (R_move rfl (F.at rfl)) ?_; clear F fa; intro fa F
    refine sq_val F rfl (by decide) rfl (R_not rfl (F.at rfl)) ?_; clear F fa; intro fa F
    refine wpList_nil ?_
    refine hK18 _ _ ?_
    clear hK18
    refine cd_T F rfl ?_
    refine wp_seq_k fun K19 hK19 => ?_
    refine wp_region_lit ?_
    refine sq_val F rfl (by decide) rfl (R_move rfl (F.at rfl)) ?_; clear F fa; intro fa F
    refine sq_val F rfl (by decide) rfl (R_eqlB (b := true) rfl (F.at rfl) (ev_c fa _) (by decide)) ?_; clear F fa; intro fa F
    refine sq_val F rfl (by decide) rfl (R_move rfl (F.at rfl)) ?_; clear F fa; intro fa F
    refine sq_val F rfl (by decide) (wantT F rfl rfl (by decide) rfl) (R_field rfl (F.at rfl) Try.underlying28 rfl (n := 8) (sz := 1) rfl (by kernel_rfl) (by decide)) ?_; clear F fa; intro fa F
    refine sq_val F rfl (by decide) (wantT F rfl rfl (by decide) rfl) (R_load rfl (F.at rfl) Try.underlying24 rfl ((cells_of_block q9 8).trans (getS (getS (getS (getS (getS (getS (getS (getS (get0))))))))))) ?_; clear F fa; intro fa F
    refine sq_val F rfl (by decide) (wantT F rfl rfl (by decide) rfl) (R_len rfl rfl (F.at rfl) Try.underlying24) ?_; clear F fa; intro fa F
    refine sq_val F rfl (by decide) (wantT F rfl rfl (by decide) rfl) (R_eqlB (b := true) rfl (F.at rfl) (ev_c fa _) (by decide)) ?_; clear F fa; intro fa F
    refine sq_val F rfl (by decide) rfl (R_pickT rfl (F.at rfl) (F.at rfl)) ?_; clear F fa; intro fa F
    refine sq_val F rfl (by decide) rfl (R_move rfl (F.at rfl)) ?_; clear F fa; intro fa F
    refine sq_call F rfl (by decide) (wantT F rfl rfl (by decide) rfl) (R_callV rfl rfl Try.call25 mp0) (taken_any _) fun e w26 hR => ?_
    obtain ⟨rfl, e9⟩ := hR
    refine ⟨_, rfl, ?_⟩; clear F fa; intro fa F
    replace q4 := (e9).keep0 q4
    replace q7 := (e9).keep0 q7
    replace q8 := (e9).keep0 q8
    replace q9 := (e9).keep0 q9
    replace E := ext_same E (e9)
    replace EO := ext_same EO (e9)
    replace ED := ext_same ED (e9)
    clear e9
    refine sq_val F rfl (by decide) rfl (R_pickT rfl (F.at rfl) (F.at rfl)) ?_; clear F fa; intro fa F
    refine sq_val F rfl (by decide) rfl (R_assign rfl (F.at rfl)) ?_; clear F fa; intro fa F
    refine wpList_nil ?_
    refine hK19 _ _ ?_
    clear hK19
    refine wp_ret ?_
    (try simp only [Exit.inBlock, Exit.then])
    refine rt_v F (rs_1 F rfl rfl) ?_
    exact ⟨rfl, E⟩
end Go.Proofs.Ytholfdgebdlgjaa
