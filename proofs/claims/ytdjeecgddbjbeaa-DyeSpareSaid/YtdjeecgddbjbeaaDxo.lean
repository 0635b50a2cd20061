/- The program's Off. Conditions: all arguments are valid. -/
import Derived.Test.YtdjeecgddbjbeaaDrj
namespace Go.Proofs.Ytdjeecgddbjbeaa
open Go.RowKit
set_option linter.unusedVariables false
set_option linter.unusedSimpArgs false
set_option maxRecDepth 100000 in
set_option maxHeartbeats 1000000 in
theorem xOff_ok (x : Vm) (hv : VOk x) (k : Nat) (hk : k < x.L.length) (l : List Int) (hl : RcpOk x l) (s : List Int) (hs : SmpOk x s) (a b : Option Addr) (c d : Nat) (w : World) (h : x.At w) (hr : IsRows w (.slice a l.length c) 1 (l.map intRow)) (hq : IsRows w (.slice b s.length d) 1 (s.map intRow)) :
    Calls Try.prog 46 #[.agg #[.int .i64 x.B, .slice x.da x.D.length x.dc, .slice x.la x.L.length x.lc, .int .i64 x.tol], .int .i64 ((k : Nat) : Int), .slice a l.length c, .slice b s.length d] w fun e w' => e = .returned (.tuple #[.int .i64 (offE x k (val l) (val s)), .int .i64 0]) ∧ Ext [] w w' := by
  have E : Ext [] w w := Ext.refl _ _
  have HX := Lib.hid h
  have HV := Lib.hid hv
  have HR := Lib.hid hr
  have HQ := Lib.hid hq
  have HL := Lib.hid hl
  have HS := Lib.hid hs
  clear h hv hr hq hl hs
  refine calls_hasM 28 Try.func46 rfl Try.ntmps46 (Nat.le_of_ble_eq_true rfl) ?_
  intro fa F
  refine wp_seq_k fun K1 hK1 => ?_
  refine wp_region_lit ?_
  refine sq_new F rfl (by decide) rfl (R_box rfl (F.at rfl)) ?_; clear F fa; intro fa w1 F hw
  obtain ⟨n4, hn⟩ : ∃ n, n = w.heap.size := ⟨_, rfl⟩
  rw [← hn] at F
  have s4 : w.heap.size ≤ n4 := Nat.le_of_eq hn.symm
  have l4_E : w.heap.size ≤ n4 := by rw [hn]; exact E.size
  replace E := ext_alloc E hw
  have q4 := new_row hw hn
  clear hw hn
  refine F.vl (R_assign rfl (ev_c fa _)) ?_; clear F fa; intro fa F
  refine sq_new F rfl (by decide) rfl (R_alloc rfl Try.zeroValue35) ?_; clear F fa; intro fa w2 F hw
  obtain ⟨n9, hn⟩ : ∃ n, n = w1.heap.size := ⟨_, rfl⟩
  rw [← hn] at F
  have s9 : w1.heap.size ≤ n9 := Nat.le_of_eq hn.symm
  have l9_E : w.heap.size ≤ n9 := by rw [hn]; exact E.size
  have m9_4 : n4 < n9 := by rw [hn]; exact blk_lt q4
  replace q4 := keep_alloc hw q4
  replace E := ext_alloc E hw
  have q9 := new_one hw rfl hn
  clear hw hn
  refine wpList_nil ?_
  refine hK1 _ _ ?_
  clear hK1
  refine wp_seq_k fun K2 hK2 => ?_
  refine wp_region_lit ?_
  refine sq_defer F rfl rfl (R_defer rfl rfl (mpS (F.at rfl) mp0)) ?_; clear F fa; intro fa F
  refine wpList_nil ?_
  refine hK2 _ _ ?_
  clear hK2
  refine wp_seq_k fun K3 hK3 => ?_
  refine wp_region_lit ?_
  refine F.vl (R_loadBlk rfl (F.at rfl) Try.underlying24 rfl (by kernel_rfl) q4) ?_; clear F fa; intro fa F
  refine sq_call F rfl (by decide) rfl (R_callV rfl rfl Try.call54 (mpS (F.at rfl) mp0)) (begin_ok x HV.out _ (HX.out.ext E)) fun e w3 hR => ?_
  obtain ⟨rfl, e9⟩ := hR
  refine ⟨_, rfl, ?_⟩; clear F fa; intro fa F
  replace q4 := (e9).keep0 q4
  replace q9 := (e9).keep0 q9
  replace E := ext_same E (e9)
  clear e9
  refine sq_new F rfl (by decide) rfl (R_alloc rfl Try.zeroValue80) ?_; clear F fa; intro fa w4 F hw
  obtain ⟨n10, hn⟩ : ∃ n, n = w3.heap.size := ⟨_, rfl⟩
  rw [← hn] at F
  have s10 : w3.heap.size ≤ n10 := Nat.le_of_eq hn.symm
  have l10_E : w.heap.size ≤ n10 := by rw [hn]; exact E.size
  have m10_4 : n4 < n10 := by rw [hn]; exact blk_lt q4
  have m10_9 : n9 < n10 := by rw [hn]; exact blk_lt q9
  replace q4 := keep_alloc hw q4
  replace q9 := keep_alloc hw q9
  replace E := ext_alloc E hw
  have q10 := new_row hw hn
  clear hw hn
  refine sq_to rfl rfl (R_storeRow rfl (F.at rfl) (F.at rfl) (by kernel_rfl) (by first | (simp [Value.oneCell']; done) | (simp [Value.oneCell', id]; done)) q10 rfl) ?_; intro w5 hw
  replace q4 := keep_cells hw q4 (by omega)
  replace q9 := keep_cells hw q9 (by omega)
  replace q10 := put_row hw q10 rfl
  replace E := ext_cells E hw (fun h => by first | exact absurd h (by omega) | simp)
  clear hw
  refine wpList_nil ?_
  refine hK3 _ _ ?_
  clear hK3
  refine wp_seq_k fun K4 hK4 => ?_
  refine wp_region_lit ?_
  refine F.vl (R_loadBlk rfl (F.at rfl) Try.underlying80 rfl (by kernel_rfl) q10) ?_; clear F fa; intro fa F
  refine F.mv ?_; clear F fa; intro fa F
  refine sq_call F rfl (by decide) rfl (R_callV rfl rfl Try.call82 (mpS (F.at rfl) (mpS (F.at rfl) mp0))) (lamp_ok x HV.out ((k : Nat) : Int) (by omega) (by omega) _) fun e w6 hR => ?_
  obtain ⟨rfl, e9⟩ := hR
  refine ⟨_, rfl, ?_⟩; clear F fa; intro fa F
  replace q4 := (e9).keep0 q4
  replace q9 := (e9).keep0 q9
  replace q10 := (e9).keep0 q10
  replace E := ext_same E (e9)
  clear e9
  refine wpList_nil ?_
  refine hK4 _ _ ?_
  clear hK4
  refine wp_seq_k fun K5 hK5 => ?_
  refine wp_region_lit ?_
  refine F.vl (R_loadBlk rfl (F.at rfl) Try.underlying80 rfl (by kernel_rfl) q10) ?_; clear F fa; intro fa F
  refine F.mv ?_; clear F fa; intro fa F
  refine sq_call F rfl (by decide) rfl (R_callV rfl rfl Try.call55 (mpS (F.at rfl) (mpS (F.at rfl) mp0))) (recipe_ok x HV.out l HL.out a c _ (HR.out.ext E (by simp))) fun e w7 hR => ?_
  obtain ⟨rfl, e9⟩ := hR
  refine ⟨_, rfl, ?_⟩; clear F fa; intro fa F
  replace q4 := (e9).keep0 q4
  replace q9 := (e9).keep0 q9
  replace q10 := (e9).keep0 q10
  replace E := ext_same E (e9)
  clear e9
  refine sq_new F rfl (by decide) rfl (R_alloc rfl Try.zeroValue83) ?_; clear F fa; intro fa w8 F hw
  obtain ⟨n11, hn⟩ : ∃ n, n = w7.heap.size := ⟨_, rfl⟩
  rw [← hn] at F
  have s11 : w7.heap.size ≤ n11 := Nat.le_of_eq hn.symm
  have l11_E : w.heap.size ≤ n11 := by rw [hn]; exact E.size
  have m11_4 : n4 < n11 := by rw [hn]; exact blk_lt q4
  have m11_9 : n9 < n11 := by rw [hn]; exact blk_lt q9
  have m11_10 : n10 < n11 := by rw [hn]; exact blk_lt q10
  replace q4 := keep_alloc hw q4
  replace q9 := keep_alloc hw q9
  replace q10 := keep_alloc hw q10
  replace E := ext_alloc E hw
  have q11 := new_row hw hn
  clear hw hn
  refine sq_to rfl rfl (R_storeRow rfl (F.at rfl) (F.at rfl) (by kernel_rfl) (by simp [tubC, Value.oneCell']) q11 rfl) ?_; intro w9 hw
  replace q4 := keep_cells hw q4 (by omega)
  replace q9 := keep_cells hw q9 (by omega)
  replace q10 := keep_cells hw q10 (by omega)
  replace q11 := put_row hw q11 rfl
  replace E := ext_cells E hw (fun h => by first | exact absurd h (by omega) | simp)
  clear hw
  refine wpList_nil ?_
  refine hK5 _ _ ?_
  clear hK5
  refine wp_seq_k fun K6 hK6 => ?_
  refine wp_region_lit ?_
  refine F.vl (R_loadBlk rfl (F.at rfl) Try.underlying80 rfl (by kernel_rfl) q10) ?_; clear F fa; intro fa F
  refine F.mv ?_; clear F fa; intro fa F
  refine sq_call F rfl (by decide) rfl (R_callV rfl rfl Try.call56 (mpS (F.at rfl) (mpS (F.at rfl) mp0))) (sample_ok x HV.out s HS.out b d _ (HQ.out.ext E (by simp))) fun e w10 hR => ?_
  obtain ⟨rfl, e9⟩ := hR
  refine ⟨_, rfl, ?_⟩; clear F fa; intro fa F
  replace q4 := (e9).keep0 q4
  replace q9 := (e9).keep0 q9
  replace q10 := (e9).keep0 q10
  replace q11 := (e9).keep0 q11
  replace E := ext_same E (e9)
  clear e9
  refine wpList_nil ?_
  refine hK6 _ _ ?_
  clear hK6
  refine wp_seq_k fun K7 hK7 => ?_
  refine wp_region_lit ?_
  refine F.vl (R_loadBlk rfl (F.at rfl) Try.underlying80 rfl (by kernel_rfl) q10) ?_; clear F fa; intro fa F
  refine F.mv ?_; clear F fa; intro fa F
  refine F.vl (R_loadBlk rfl (F.at rfl) Try.underlying83 rfl (by kernel_rfl) q11) ?_; clear F fa; intro fa F
  refine F.mv ?_; clear F fa; intro fa F
  refine sq_call F rfl (by decide) rfl (R_callV rfl rfl Try.call95 (mpS (F.at rfl) (mpS (F.at rfl) (mpS (F.at rfl) (mpS (F.at rfl) mp0))))) (off_ok x HV.out k hk (val l) HL.out.tub s HS.out b d _ (HX.out.ext E) (HQ.out.ext E (by simp))) fun e w11 hR => ?_
  obtain ⟨rfl, e9⟩ := hR
  refine ⟨_, rfl, ?_⟩; clear F fa; intro fa F
  replace q4 := (e9).keep0 q4
  replace q9 := (e9).keep0 q9
  replace q10 := (e9).keep0 q10
  replace q11 := (e9).keep0 q11
  replace E := ext_same E (e9)
  clear e9
  refine F.as ?_; clear F fa; intro fa F
  refine sq_to rfl rfl (R_store rfl (F.at rfl) (ev_c fa _) rfl (by kernel_rfl) ((cells_of_block q9 0).trans (get0)) (free_of_block q9 0)) ?_; intro w12 hw
  replace q4 := keep_cell hw q4 (by omega)
  replace q9 := put_cell hw q9 (by simp only [List.setIfInBounds_toArray, List.set_cons_succ, List.set_cons_zero]; exact rfl)
  replace q10 := keep_cell hw q10 (by omega)
  replace q11 := keep_cell hw q11 (by omega)
  replace E := ext_cell E hw (fun h => by first | exact absurd h (by omega) | simp)
  clear hw
  refine wpList_nil ?_
  refine hK7 _ _ ?_
  clear hK7
  refine wp_ret ?_
  (try simp only [Exit.inBlock, Exit.then, reduceIte])
  refine rtM_v F ?_
  refine lv_caught ?_
  refine lv_nil (rs_tc F rfl rfl rfl Try.underlying35 rfl q9) ?_
  exact ⟨rfl, E⟩
end Go.Proofs.Ytdjeecgddbjbeaa
