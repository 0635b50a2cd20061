/- The program's Recipes. Conditions: all arguments are valid. -/
import Derived.Test.YtdjeecgddbjbeaaDfw
namespace Go.Proofs.Ytdjeecgddbjbeaa
open Go.RowKit
set_option linter.unusedVariables false
set_option linter.unusedSimpArgs false
/-- A call that returns lists of its own, and an error. -/
def LisEPost (LL : List (List Int)) (er : Int) (w : World) (e : Ending) (w' : World) : Prop := ∃ (M : List (Value × List Int)) (b : Option Addr) (d : Nat), e = .returned (.tuple #[.slice b M.length d, .int .i64 er]) ∧ M.map (·.2) = LL ∧ w'.ownsRow w.heap.size 25 1 (.slice b M.length d) M.length (M.map (·.1)) ∧ FamT w' w.heap.size M ∧ Ext [] w w'
set_option maxRecDepth 100000 in
set_option maxHeartbeats 2000000 in
theorem xRecipes_ok (x : Vm) (hv : VOk x) (s : List Int) (hs : SmpOk x s) (ls : List Int) (hl : LmpsOk x ls) (hll : ls.length ≤ 1000) (a b : Option Addr) (c d : Nat) (w : World) (h : x.At w) (hr : IsRows w (.slice a s.length c) 1 (s.map intRow)) (hq : IsRows w (.slice b ls.length d) 1 (ls.map intRow)) :
    Calls Try.prog 37 #[.agg #[.int .i64 x.B, .slice x.da x.D.length x.dc, .slice x.la x.L.length x.lc, .int .i64 x.tol], .slice a s.length c, .slice b ls.length d] w (LisEPost (matL x (val s) ls) 0 w) := by
  have E : Ext [] w w := Ext.refl _ _
  have HX := Lib.hid h
  have HV := Lib.hid hv
  have HR := Lib.hid hr
  have HQ := Lib.hid hq
  have HL := Lib.hid hl
  have HS := Lib.hid hs
  have hd4 := hv.d4
  obtain ⟨T, hT⟩ : ∃ T, T = matL x (val s) ls := ⟨_, rfl⟩
  have HM : RowKit.Hid (∀ t ∈ T, t.length = x.D.length ∧ TubS (val t)) := Lib.hid (fun t ht => mat_mem hv (by rw [← hT]; exact ht))
  have htl : T.length ≤ 500 := by rw [hT]; exact mat_len hv
  clear h hv hr hq hl hs
  refine calls_hasM 36 Try.func37 rfl Try.ntmps37 (Nat.le_of_ble_eq_true rfl) ?_
  intro fa F
  refine wp_seq_k fun K1 hK1 => ?_
  refine wp_region_lit ?_
  refine sq_new F rfl (by decide) rfl (R_box rfl (F.at rfl)) ?_; clear F fa; intro fa w1 F hw
  obtain ⟨n3, hn⟩ : ∃ n, n = w.heap.size := ⟨_, rfl⟩
  rw [← hn] at F
  have s3 : w.heap.size ≤ n3 := Nat.le_of_eq hn.symm
  have l3_E : w.heap.size ≤ n3 := by rw [hn]; exact E.size
  replace E := ext_alloc E hw
  have q3 := new_row hw hn
  clear hw hn
  refine F.vl (R_assign rfl (ev_c fa _)) ?_; clear F fa; intro fa F
  refine sq_new F rfl (by decide) rfl (R_alloc rfl Try.zeroValue35) ?_; clear F fa; intro fa w2 F hw
  obtain ⟨n7, hn⟩ : ∃ n, n = w1.heap.size := ⟨_, rfl⟩
  rw [← hn] at F
  have s7 : w1.heap.size ≤ n7 := Nat.le_of_eq hn.symm
  have l7_E : w.heap.size ≤ n7 := by rw [hn]; exact E.size
  have m7_3 : n3 < n7 := by rw [hn]; exact blk_lt q3
  replace q3 := keep_alloc hw q3
  replace E := ext_alloc E hw
  have q7 := new_one hw rfl hn
  clear hw hn
  refine wpList_nil ?_
  refine hK1 _ _ ?_
  clear hK1
  refine wp_seq_k fun K2 hK2 => ?_
  refine wp_region_lit ?_
  refine sq_defer F rfl rfl (R_defer rfl rfl (mpS (F.at rfl) mp0)) ?_; clear F fa; intro fa F
  refine wpList_nil ?_
  refine hK2 _ _ ?_
  clear hK2
  refine wp_seq_k fun K3 hK3 => ?_
  refine wp_region_lit ?_
  refine F.vl (R_loadBlk rfl (F.at rfl) Try.underlying24 rfl (by kernel_rfl) q3) ?_; clear F fa; intro fa F
  refine sq_call F rfl (by decide) rfl (R_callV rfl rfl Try.call54 (mpS (F.at rfl) mp0)) (begin_ok x HV.out _ (HX.out.ext E)) fun e w3 hR => ?_
  obtain ⟨rfl, e9⟩ := hR
  refine ⟨_, rfl, ?_⟩; clear F fa; intro fa F
  replace q3 := (e9).keep0 q3
  replace q7 := (e9).keep0 q7
  replace E := ext_same E (e9)
  clear e9
  refine sq_new F rfl (by decide) rfl (R_alloc rfl Try.zeroValue80) ?_; clear F fa; intro fa w4 F hw
  obtain ⟨n8, hn⟩ : ∃ n, n = w3.heap.size := ⟨_, rfl⟩
  rw [← hn] at F
  have s8 : w3.heap.size ≤ n8 := Nat.le_of_eq hn.symm
  have l8_E : w.heap.size ≤ n8 := by rw [hn]; exact E.size
  have m8_3 : n3 < n8 := by rw [hn]; exact blk_lt q3
  have m8_7 : n7 < n8 := by rw [hn]; exact blk_lt q7
  replace q3 := keep_alloc hw q3
  replace q7 := keep_alloc hw q7
  replace E := ext_alloc E hw
  have q8 := new_row hw hn
  clear hw hn
  refine sq_to rfl rfl (R_storeRow rfl (F.at rfl) (F.at rfl) (by kernel_rfl) (by first | (simp [Value.oneCell']; done) | (simp [Value.oneCell', tubR]; done)) q8 rfl) ?_; intro w5 hw
  replace q3 := keep_cells hw q3 (by omega)
  replace q7 := keep_cells hw q7 (by omega)
  replace q8 := put_row hw q8 rfl
  replace E := ext_cells E hw (fun h => by first | exact absurd h (by omega) | simp)
  clear hw
  refine wpList_nil ?_
  refine hK3 _ _ ?_
  clear hK3
  refine wp_seq_k fun K4 hK4 => ?_
  refine wp_region_lit ?_
  refine F.vl (R_loadBlk rfl (F.at rfl) Try.underlying80 rfl (by kernel_rfl) q8) ?_; clear F fa; intro fa F
  refine F.mv ?_; clear F fa; intro fa F
  refine sq_call F rfl (by decide) rfl (R_callV rfl rfl Try.call56 (mpS (F.at rfl) (mpS (F.at rfl) mp0))) (sample_ok x HV.out s HS.out a c _ (HR.out.ext E (by simp))) fun e w6 hR => ?_
  obtain ⟨rfl, e9⟩ := hR
  refine ⟨_, rfl, ?_⟩; clear F fa; intro fa F
  replace q3 := (e9).keep0 q3
  replace q7 := (e9).keep0 q7
  replace q8 := (e9).keep0 q8
  replace E := ext_same E (e9)
  clear e9
  refine wpList_nil ?_
  refine hK4 _ _ ?_
  clear hK4
  refine wp_seq_k fun K5 hK5 => ?_
  refine wp_region_lit ?_
  refine F.vl (R_loadBlk rfl (F.at rfl) Try.underlying80 rfl (by kernel_rfl) q8) ?_; clear F fa; intro fa F
  refine F.mv ?_; clear F fa; intro fa F
  refine sq_call F rfl (by decide) rfl (R_callV rfl rfl Try.call57 (mpS (F.at rfl) (mpS (F.at rfl) mp0))) (lamps_ok x HV.out ls HL.out hll b d _ (HX.out.ext E) (HQ.out.ext E (by simp))) fun e w7 hR => ?_
  obtain ⟨rfl, e9⟩ := hR
  refine ⟨_, rfl, ?_⟩; clear F fa; intro fa F
  replace q3 := (e9).keep0 q3
  replace q7 := (e9).keep0 q7
  replace q8 := (e9).keep0 q8
  replace E := ext_same E (e9)
  clear e9
  refine wpList_nil ?_
  refine hK5 _ _ ?_
  clear hK5
  refine wp_seq_k fun K6 hK6 => ?_
  refine wp_seq_k fun K7 hK7 => ?_
  refine wp_region_lit ?_
  refine F.vl (R_loadBlk rfl (F.at rfl) Try.underlying80 rfl (by kernel_rfl) q8) ?_; clear F fa; intro fa F
  refine F.mv ?_; clear F fa; intro fa F
  refine F.mv ?_; clear F fa; intro fa F
  refine sq_call F rfl (by decide) rfl (R_callV rfl rfl Try.call94 (mpS (F.at rfl) (mpS (F.at rfl) (mpS (F.at rfl) mp0)))) (matching_ok x HV.out s HS.out ls HL.out.2.1 hll a b c d _ (HX.out.ext E) (HR.out.ext E (by simp)) (HQ.out.ext E (by simp))) fun e w8 hR => ?_
  obtain ⟨ma, mc, rfl, om, e9⟩ := hR
  refine ⟨_, rfl, ?_⟩; clear F fa; intro fa F
  replace q3 := (e9).keep0 q3
  replace q7 := (e9).keep0 q7
  replace q8 := (e9).keep0 q8
  replace E := ext_same E (e9)
  clear e9
  rw [← hT] at F om
  have HT := Lib.hid (slAt_of_tubs om rfl [] (by simp))
  clear om
  have E9 : Ext [] w8 w8 := Ext.refl _ _
  obtain ⟨wR, hwR⟩ : ∃ wR, wR = w8 := ⟨_, rfl⟩
  have ER : Ext [] wR w8 := by rw [hwR]; exact Ext.refl _ _
  have h9R : w8.heap.size ≤ wR.heap.size := by rw [hwR]; exact Nat.le_refl _
  have hwR0 : w.heap.size ≤ wR.heap.size := by rw [hwR]; exact E.size
  refine F.vl (R_len rfl rfl (F.at rfl) Try.underlying102) ?_; clear F fa; intro fa F
  refine F.vl (R_move rfl (ev_c fa _)) ?_; clear F fa; intro fa F
  refine wpList_nil ?_
  have oo : w8.ownsRow wR.heap.size 25 1 (.slice none 0 0) 0 (([] : List (Value × List Int)).map (·.1)) := World.ownsRow_nil _ _ _ _
  have fam : FamT w8 wR.heap.size [] := fam_nil _ _
  refine hK7 _ _ ?_
  clear hK7
  refine wp_block ?_
  have F0 := F.sub (.c 7 rfl (.c 8 rfl (.c 22 rfl (.c 23 rfl .n))))
  refine lp_for F0 (T.length) (fun i Lv W => ∃ va : Option Addr, ∃ vc : Nat, ∃ O : List (Value × List Int), Lv = [(6, .slice va O.length vc), (24, .int .i64 ((i : Nat) : Int))] ∧ Ext [] w W ∧ Ext [] w8 W ∧ Ext [] wR W ∧ W.heap[n3]? = some (.cells #[.int .i64 x.B, .slice x.da x.D.length x.dc, .slice x.la x.L.length x.lc, .int .i64 x.tol] 24 (0, 0)) ∧ W.heap[n7]? = some (.cells #[.int .i64 0] 35 (0, 0)) ∧ W.heap[n8]? = some (.cells #[.int .i64 x.B, .slice x.da x.D.length x.dc, .slice x.la x.L.length x.lc, .int .i64 x.tol] 80 (0, 0)) ∧ W.ownsRow wR.heap.size 25 1 (.slice va O.length vc) O.length (O.map (·.1)) ∧ FamT W wR.heap.size O ∧ O.map (·.2) = T.take i) ⟨_, ⟨none, 0, [], rfl, E, E9, ER, q3, q7, q8, oo, fam, rfl⟩, F.sub (.c 6 rfl (.c 24 rfl (.c 7 rfl (.c 8 rfl (.c 22 rfl (.c 23 rfl .n))))))⟩ ?_
  clear F F0
  clear E E9 ER q3 q7 q8
  clear oo
  clear fam
  rintro i _ fa w9 hi1 ⟨va, vc, O, rfl, E, E9, ER, q3, q7, q8, oo, fam, hO⟩ F
  have hOl : O.length = i := by have := congrArg List.length hO; simp only [List.length_map, List.length_take] at this; omega
  refine wp_seq_k fun K8 hK8 => ?_
  refine wp_region_lit ?_
  refine F.vl (R_lss rfl (F.at rfl) (F.at rfl)) ?_; clear F fa; intro fa F
  refine wpList_nil ?_
  refine hK8 _ _ ?_
  clear hK8
  refine wp_seq_k fun K9 hK9 => ?_
  refine cd_if F rfl (fun hc25 => ?_) (fun hc25 => ?_)
  · skip
    refine wp_skip ?_
    refine hK9 _ _ ?_
    clear hK9
    refine wp_seq_k fun K10 hK10 => ?_
    refine wp_block ?_
    refine wp_seq_k fun K11 hK11 => ?_
    refine wp_region_lit ?_
    obtain ⟨xb12, xo12, xa12, xr12⟩ := HT.out i (by omega)
    refine F.vl (R_ixSlice (sz := 4) rfl ((F.at rfl).trans (xa12 _ _)) (F.at rfl) Try.underlying102 (by kernel_rfl) (by omega) (by omega)) ?_; clear F fa; intro fa F
    refine F.vl (R_loadRow rfl (F.at rfl) Try.underlying83 rfl (by kernel_rfl) (xr12 _ E9)) ?_; clear F fa; intro fa F
    refine sq_new F rfl (by decide) rfl (R_alloc rfl Try.zeroValue83) ?_; clear F fa; intro fa w10 F hw
    obtain ⟨n10, hn⟩ : ∃ n, n = w9.heap.size := ⟨_, rfl⟩
    rw [← hn] at F
    have s10 : w9.heap.size ≤ n10 := Nat.le_of_eq hn.symm
    have l10_E : w.heap.size ≤ n10 := by rw [hn]; exact E.size
    have l10_E9 : w8.heap.size ≤ n10 := by rw [hn]; exact E9.size
    have l10_ER : wR.heap.size ≤ n10 := by rw [hn]; exact ER.size
    have m10_3 : n3 < n10 := by rw [hn]; exact blk_lt q3
    have m10_7 : n7 < n10 := by rw [hn]; exact blk_lt q7
    have m10_8 : n8 < n10 := by rw [hn]; exact blk_lt q8
    have o10_oo := Lib.hid (own_ne_new oo hn)
    replace oo := owns_alloc hw oo
    replace fam := fam_lift fam fun _ _ _ h => owns_alloc hw h
    replace q3 := keep_alloc hw q3
    replace q7 := keep_alloc hw q7
    replace q8 := keep_alloc hw q8
    replace E := ext_alloc E hw
    replace E9 := ext_alloc E9 hw
    replace ER := ext_alloc ER hw
    have q10 := new_row hw hn
    clear hw hn
    refine sq_to rfl rfl (R_storeRow rfl (F.at rfl) (F.at rfl) (by kernel_rfl) (by first | (simp [Value.oneCell']; done) | (simp [Value.oneCell', tubR]; done)) q10 rfl) ?_; intro w11 hw
    replace oo := owns_cellsX hw oo (own_ne_type oo q10 (by decide))
    replace fam := fam_lift fam fun _ _ _ h => owns_cellsX hw h (own_ne_type h q10 (by decide))
    replace q3 := keep_cells hw q3 (by omega)
    replace q7 := keep_cells hw q7 (by omega)
    replace q8 := keep_cells hw q8 (by omega)
    replace q10 := put_row hw q10 rfl
    replace E := ext_cells E hw (fun h => by first | exact absurd h (by omega) | simp)
    replace E9 := ext_cells E9 hw (fun h => by first | exact absurd h (by omega) | simp)
    replace ER := ext_cells ER hw (fun h => by first | exact absurd h (by omega) | simp)
    clear hw
    refine wpList_nil ?_
    have hts := HM.out (T.getD i []) (getD_memL [] (by omega))
    replace q10 : w11.heap[n10]? = some (.cells (tubC (val (T.getD i []))) 83 (0, 0)) := q10
    refine hK11 _ _ ?_
    clear hK11
    refine wp_region_lit ?_
    refine F.mv ?_; clear F fa; intro fa F
    refine F.vl (R_loadBlk rfl (F.at rfl) Try.underlying80 rfl (by kernel_rfl) q8) ?_; clear F fa; intro fa F
    refine F.vl (R_loadBlk rfl (F.at rfl) Try.underlying83 rfl (by kernel_rfl) q10) ?_; clear F fa; intro fa F
    have hflt := Lib.hid (fam_lt fam)
    obtain ⟨B1, hB1⟩ : ∃ B1, B1 = w11.heap.size := ⟨_, rfl⟩
    rw [← hB1] at hflt
    have hB1w : wR.heap.size ≤ B1 := by rw [hB1]; exact ER.size
    refine sq_call F rfl (by decide) rfl (R_callV rfl rfl Try.call62 (mpS (F.at rfl) (mpS (F.at rfl) mp0))) (cut_ok x HV.out (val (T.getD i [])) _) fun e w12 hR => ?_
    obtain ⟨ra, rc, rfl, ro, e9⟩ := hR
    refine ⟨_, rfl, ?_⟩; clear F fa; intro fa F
    replace oo := owns_ext oo (e9) (by simp)
    replace fam := fam_lift fam fun _ _ _ h => owns_ext h (e9) (by simp)
    replace q3 := (e9).keep0 q3
    replace q7 := (e9).keep0 q7
    replace q8 := (e9).keep0 q8
    replace q10 := (e9).keep0 q10
    replace E := ext_same E (e9)
    replace E9 := ext_same E9 (e9)
    replace ER := ext_same ER (e9)
    clear e9
    rw [← hB1, cutL_val hts.1] at ro
    have fam2 := fam_perm (fam_join (b1 := B1) (L := [(Value.slice ra x.D.length rc, T.getD i [])]) ⟨fun p hp => (by obtain rfl : p = (Value.slice ra x.D.length rc, T.getD i []) := (by simpa using hp); rw [show ((Value.slice ra x.D.length rc, T.getD i []) : Value × List Int).2.length = x.D.length from hts.1]; exact ro), List.pairwise_singleton _ _⟩ fam hflt.out hB1w) (M := O ++ [(Value.slice ra x.D.length rc, T.getD i [])]) List.perm_append_comm
    clear fam ro
    have fam := fam2
    clear fam2
    obtain ⟨P, hP⟩ : ∃ P, P = O ++ [(Value.slice ra x.D.length rc, T.getD i [])] := ⟨_, rfl⟩
    have hPl : O.length + 1 = P.length := by rw [hP, List.length_append]; rfl
    have hO3 : P.map (·.2) = T.take (i + 1) := by rw [hP, List.map_append, hO, take_getD T [] (by omega)]; rfl
    rw [← hP] at fam
    refine sq_new F rfl (by decide) rfl (R_buildSliceV rfl (prS (F.at rfl) pr0) Try.underlying22 (size := 1) (by kernel_rfl) (by decide) (by decide) Try.zeroValue25 (cells := #[.slice ra x.D.length rc]) (by kernel_rfl)) ?_; clear F fa; intro fa w13 F hw
    obtain ⟨n32, hn⟩ : ∃ n, n = w12.heap.size := ⟨_, rfl⟩
    rw [← hn] at F
    have s32 : w12.heap.size ≤ n32 := Nat.le_of_eq hn.symm
    have l32_E : w.heap.size ≤ n32 := by rw [hn]; exact E.size
    have l32_E9 : w8.heap.size ≤ n32 := by rw [hn]; exact E9.size
    have l32_ER : wR.heap.size ≤ n32 := by rw [hn]; exact ER.size
    have m32_3 : n3 < n32 := by rw [hn]; exact blk_lt q3
    have m32_7 : n7 < n32 := by rw [hn]; exact blk_lt q7
    have m32_8 : n8 < n32 := by rw [hn]; exact blk_lt q8
    have m32_10 : n10 < n32 := by rw [hn]; exact blk_lt q10
    have o32_oo := Lib.hid (own_ne_new oo hn)
    replace oo := owns_alloc hw oo
    replace fam := fam_lift fam fun _ _ _ h => owns_alloc hw h
    replace q3 := keep_alloc hw q3
    replace q7 := keep_alloc hw q7
    replace q8 := keep_alloc hw q8
    replace q10 := keep_alloc hw q10
    replace E := ext_alloc E hw
    replace E9 := ext_alloc E9 hw
    replace ER := ext_alloc ER hw
    have q32 := new_block hw hn
    clear hw hn
    have hEs := ER.size
    refine sq_some F rfl (by decide) rfl (append_run rfl (wR.heap.size) (e := 25) (size := 1) (bytes := 24) Try.underlying22 (by kernel_rfl) (by decide) (F.at rfl) oo (F.at rfl) q32 rfl (by simp [Value.oneCell']) (by omega) (by omega) (by omega)) ?_; clear F fa; rintro fa v' w14 F ⟨hown', hg⟩
    obtain ⟨va33, vc33, rfl⟩ := owns_slice hown'
    replace q3 := keep_type oo hg q3 (by decide)
    replace q7 := keep_type oo hg q7 (by decide)
    replace q8 := keep_type oo hg q8 (by decide)
    replace q10 := (hg.block n10 (blk_lt q10) o10_oo.out).trans q10
    replace fam := fam_lift fam fun _ _ _ h => owns_other h oo hg (by decide)
    replace E := ext_appendX E oo hg (by omega)
    replace E9 := ext_appendX E9 oo hg (by omega)
    replace ER := ext_appendX ER oo hg (by omega)
    replace oo := hown'
    clear hg
    rw [show O.map (·.1) ++ [Value.slice ra x.D.length rc] = P.map (·.1) by rw [hP, List.map_append]; rfl, hPl] at oo
    rw [hPl] at F
    refine F.as ?_; clear F fa; intro fa F
    refine wpList_nil ?_
    refine hK10 _ _ ?_
    clear hK10
    refine wp_region_lit ?_
    refine F.vl (R_add rfl (F.at rfl) (ev_c fa _) (by omega) (by omega)) ?_; clear F fa; intro fa F
    refine F.mv ?_; clear F fa; intro fa F
    refine wpList_nil ?_
    show _ ∧ _
    exact ⟨by omega, _, ⟨_, _, _, rfl, E, E9, ER, q3, q7, q8, oo, fam, hO3⟩, F.sub (.c 6 rfl (.c 24 rfl (.c 7 rfl (.c 8 rfl (.c 22 rfl (.c 23 rfl .n))))))⟩
  · skip
    refine wp_exit ?_
    rw [List.take_of_length_le (show T.length ≤ i by omega)] at hO
    refine hK6 _ _ ?_
    clear hK6
    refine wp_seq_k fun K13 hK13 => ?_
    refine wp_region_lit ?_
    refine F.mv ?_; clear F fa; intro fa F
    refine F.as ?_; clear F fa; intro fa F
    refine sq_to rfl rfl (R_store rfl (F.at rfl) (ev_c fa _) rfl (by kernel_rfl) ((cells_of_block q7 0).trans (get0)) (free_of_block q7 0)) ?_; intro w15 hw
    replace oo := owns_cellX hw oo (own_ne_type oo q7 (by decide))
    replace fam := fam_lift fam fun _ _ _ h => owns_cellX hw h (own_ne_type h q7 (by decide))
    replace q3 := keep_cell hw q3 (by omega)
    replace q7 := put_cell hw q7 (by simp only [List.setIfInBounds_toArray, List.set_cons_succ, List.set_cons_zero]; exact rfl)
    replace q8 := keep_cell hw q8 (by omega)
    replace E := ext_cell E hw (fun h => by first | exact absurd h (by omega) | simp)
    clear hw
    refine wpList_nil ?_
    refine hK13 _ _ ?_
    clear hK13
    refine wp_ret ?_
    (try simp only [Exit.inBlock, Exit.then, reduceIte])
    refine rtM_v F ?_
    refine lv_caught ?_
    refine lv_nil (rs_tc F rfl rfl rfl Try.underlying35 rfl q7) ?_
    exact ⟨O, va, vc, rfl, hO.trans hT, owns_lower oo hwR0, fam_lower fam hwR0, E⟩
end Go.Proofs.Ytdjeecgddbjbeaa
