/- SameVats of vats that are the same. Conditions: lists of at most 1000. -/
import Derived.Test.YtdjeecgddbjbeaaDck2
namespace Go.Proofs.Ytdjeecgddbjbeaa
open Go.RowKit
set_option linter.unusedVariables false
set_option linter.unusedSimpArgs false
set_option maxRecDepth 100000 in
theorem sameVats_yes (x y : Vm) (w : World) (hx : x.At w) (hy : y.At w) (sd : SmallL y.D) (sl : SmallL y.L) (hB : x.B = y.B) (hT : x.tol = y.tol) (hD : x.D.map (·.2) = y.D.map (·.2)) (hL : x.L.map (·.2) = y.L.map (·.2)) :
    Calls Try.prog 23 #[.agg #[.int .i64 x.B, .slice x.da x.D.length x.dc, .slice x.la x.L.length x.lc, .int .i64 x.tol], .agg #[.int .i64 y.B, .slice y.da y.D.length y.dc, .slice y.la y.L.length y.lc, .int .i64 y.tol]] w fun e w' => e = .returned (.bool true) ∧ Ext [] w w' := by
  have E : Ext [] w w := Ext.refl _ _
  have HX := Lib.hid hx
  have HY := Lib.hid hy
  have SD := Lib.hid sd
  have SL := Lib.hid sl
  have HD := Lib.hid hD
  have HL := Lib.hid hL
  clear hx hy sd sl hD hL
  refine calls_has 31 Try.func23 rfl Try.ntmps23 (Nat.le_of_ble_eq_true rfl) ?_
  intro fa F
  refine wp_seq_k fun K1 hK1 => ?_
  refine wp_region_lit ?_
  refine sq_new F rfl (by decide) rfl (R_box rfl (F.at rfl)) ?_; clear F fa; intro fa w1 F hw
  obtain ⟨n2, hn⟩ : ∃ n, n = w.heap.size := ⟨_, rfl⟩
  rw [← hn] at F
  have s2 : w.heap.size ≤ n2 := Nat.le_of_eq hn.symm
  have l2_E : w.heap.size ≤ n2 := by rw [hn]; exact E.size
  replace E := ext_alloc E hw
  have q2 := new_row hw hn
  clear hw hn
  refine sq_new F rfl (by decide) rfl (R_box rfl (F.at rfl)) ?_; clear F fa; intro fa w2 F hw
  obtain ⟨n3, hn⟩ : ∃ n, n = w1.heap.size := ⟨_, rfl⟩
  rw [← hn] at F
  have s3 : w1.heap.size ≤ n3 := Nat.le_of_eq hn.symm
  have l3_E : w.heap.size ≤ n3 := by rw [hn]; exact E.size
  have m3_2 : n2 < n3 := by rw [hn]; exact blk_lt q2
  replace q2 := keep_alloc hw q2
  replace E := ext_alloc E hw
  have q3 := new_row hw hn
  clear hw hn
  refine F.vl (R_assign rfl (ev_c fa _)) ?_; clear F fa; intro fa F
  refine wpList_nil ?_
  refine hK1 _ _ ?_
  clear hK1
  refine wp_seq_k fun K2 hK2 => ?_
  refine wp_region_lit ?_
  refine F.vl (R_field rfl (F.at rfl) Try.underlying24 rfl (n := 0) (sz := 1) rfl (by kernel_rfl) (by decide)) ?_; clear F fa; intro fa F
  refine F.vl (R_load rfl (F.at rfl) Try.underlying3 rfl ((cells_of_block q2 0).trans (get0))) ?_; clear F fa; intro fa F
  refine F.vl (R_field rfl (F.at rfl) Try.underlying24 rfl (n := 0) (sz := 1) rfl (by kernel_rfl) (by decide)) ?_; clear F fa; intro fa F
  refine F.vl (R_load rfl (F.at rfl) Try.underlying3 rfl ((cells_of_block q3 0).trans (get0))) ?_; clear F fa; intro fa F
  refine F.vl (R_eqlB (b := true) rfl (F.at rfl) (F.at rfl) (decide_eq_true ((by omega)))) ?_; clear F fa; intro fa F
  refine F.mv ?_; clear F fa; intro fa F
  refine F.vl (R_field rfl (F.at rfl) Try.underlying24 rfl (n := 3) (sz := 1) rfl (by kernel_rfl) (by decide)) ?_ (hw := (wantT F rfl rfl (by decide) rfl)); clear F fa; intro fa F
  refine F.vl (R_load rfl (F.at rfl) Try.underlying3 rfl ((cells_of_block q2 3).trans (getS (getS (getS (get0)))))) ?_ (hw := (wantT F rfl rfl (by decide) rfl)); clear F fa; intro fa F
  refine F.vl (R_field rfl (F.at rfl) Try.underlying24 rfl (n := 3) (sz := 1) rfl (by kernel_rfl) (by decide)) ?_ (hw := (wantT F rfl rfl (by decide) rfl)); clear F fa; intro fa F
  refine F.vl (R_load rfl (F.at rfl) Try.underlying3 rfl ((cells_of_block q3 3).trans (getS (getS (getS (get0)))))) ?_ (hw := (wantT F rfl rfl (by decide) rfl)); clear F fa; intro fa F
  refine F.vl (R_eqlB (b := true) rfl (F.at rfl) (F.at rfl) (decide_eq_true ((by omega)))) ?_ (hw := (wantT F rfl rfl (by decide) rfl)); clear F fa; intro fa F
  refine F.vl (R_pickT rfl (F.at rfl) (F.at rfl)) ?_; clear F fa; intro fa F
  refine F.mv ?_; clear F fa; intro fa F
  refine F.vl (R_field rfl (F.at rfl) Try.underlying24 rfl (n := 1) (sz := 1) rfl (by kernel_rfl) (by decide)) ?_ (hw := (wantT F rfl rfl (by decide) rfl)); clear F fa; intro fa F
  refine F.vl (R_load rfl (F.at rfl) Try.underlying22 rfl ((cells_of_block q2 1).trans (getS (get0)))) ?_ (hw := (wantT F rfl rfl (by decide) rfl)); clear F fa; intro fa F
  refine F.vl (R_field rfl (F.at rfl) Try.underlying24 rfl (n := 1) (sz := 1) rfl (by kernel_rfl) (by decide)) ?_ (hw := (wantT F rfl rfl (by decide) rfl)); clear F fa; intro fa F
  refine F.vl (R_load rfl (F.at rfl) Try.underlying22 rfl ((cells_of_block q3 1).trans (getS (get0)))) ?_ (hw := (wantT F rfl rfl (by decide) rfl)); clear F fa; intro fa F
  refine sq_call F rfl (by decide) (wantT F rfl rfl (by decide) rfl) (R_callV rfl rfl Try.call32 (mpS (F.at rfl) (mpS (F.at rfl) mp0))) (sameLists_yes x.D y.D HD.out SD.out.2 SD.out.1 _ _ _ _ _ (HX.out.d.ext E) (HY.out.d.ext E)) fun e w3 hR => ?_
  obtain ⟨rfl, e9⟩ := hR
  refine ⟨_, rfl, ?_⟩; clear F fa; intro fa F
  replace q2 := (e9).keep0 q2
  replace q3 := (e9).keep0 q3
  replace E := ext_same E (e9)
  clear e9
  refine F.vl (R_pickT rfl (F.at rfl) (F.at rfl)) ?_; clear F fa; intro fa F
  refine F.mv ?_; clear F fa; intro fa F
  refine F.vl (R_field rfl (F.at rfl) Try.underlying24 rfl (n := 2) (sz := 1) rfl (by kernel_rfl) (by decide)) ?_ (hw := (wantT F rfl rfl (by decide) rfl)); clear F fa; intro fa F
  refine F.vl (R_load rfl (F.at rfl) Try.underlying22 rfl ((cells_of_block q2 2).trans (getS (getS (get0))))) ?_ (hw := (wantT F rfl rfl (by decide) rfl)); clear F fa; intro fa F
  refine F.vl (R_field rfl (F.at rfl) Try.underlying24 rfl (n := 2) (sz := 1) rfl (by kernel_rfl) (by decide)) ?_ (hw := (wantT F rfl rfl (by decide) rfl)); clear F fa; intro fa F
  refine F.vl (R_load rfl (F.at rfl) Try.underlying22 rfl ((cells_of_block q3 2).trans (getS (getS (get0))))) ?_ (hw := (wantT F rfl rfl (by decide) rfl)); clear F fa; intro fa F
  refine sq_call F rfl (by decide) (wantT F rfl rfl (by decide) rfl) (R_callV rfl rfl Try.call32 (mpS (F.at rfl) (mpS (F.at rfl) mp0))) (sameLists_yes x.L y.L HL.out SL.out.2 SL.out.1 _ _ _ _ _ (HX.out.l.ext E) (HY.out.l.ext E)) fun e w4 hR => ?_
  obtain ⟨rfl, e9⟩ := hR
  refine ⟨_, rfl, ?_⟩; clear F fa; intro fa F
  replace q2 := (e9).keep0 q2
  replace q3 := (e9).keep0 q3
  replace E := ext_same E (e9)
  clear e9
  refine F.vl (R_pickT rfl (F.at rfl) (F.at rfl)) ?_; clear F fa; intro fa F
  refine F.as ?_; clear F fa; intro fa F
  refine wpList_nil ?_
  refine hK2 _ _ ?_
  clear hK2
  refine wp_ret ?_
  (try simp only [Exit.inBlock, Exit.then, reduceIte])
  refine rt_v F (rs_1 F rfl rfl) ?_
  exact ⟨rfl, E⟩
theorem lol_of_own {w : World} {b b2 : Nat} {a : Option Addr} {c : Nat} {M : List (Value × List Int)} (oo : w.ownsRow b 25 1 (.slice a M.length c) M.length (M.map (·.1))) (fam : FamT w b2 M) : LolAt w a M := ⟨slAt_of_outer oo rfl, fun p hp => fam_row fam hp⟩
theorem fam_lower {w : World} {b b' : Nat} {M : List (Value × List Int)} (h : FamT w b M) (hb : b' ≤ b) : FamT w b' M := ⟨fun p hp => owns_lower (h.1 p hp) hb, h.2⟩
/-- A copy of a vat. -/
def CopyVPost (x : Vm) (w : World) (e : Ending) (w' : World) : Prop := ∃ y : Vm, e = .returned (.agg #[.int .i64 y.B, .slice y.da y.D.length y.dc, .slice y.la y.L.length y.lc, .int .i64 y.tol]) ∧ y.B = x.B ∧ y.tol = x.tol ∧ y.D.map (·.2) = x.D.map (·.2) ∧ y.L.map (·.2) = x.L.map (·.2) ∧ y.At w' ∧ Ext [] w w'
set_option maxRecDepth 100000 in
set_option maxHeartbeats 1000000 in
theorem copyVat_any (x : Vm) (w : World) (hx : x.At w) (sd : SmallL x.D) (sl : SmallL x.L) :
    Calls Try.prog 18 #[.agg #[.int .i64 x.B, .slice x.da x.D.length x.dc, .slice x.la x.L.length x.lc, .int .i64 x.tol]] w (CopyVPost x w) := by
  have E : Ext [] w w := Ext.refl _ _
  have HX := Lib.hid hx
  have SD := Lib.hid sd
  have SL := Lib.hid sl
  clear hx sd sl
  refine calls_has 12 Try.func18 rfl Try.ntmps18 (Nat.le_of_ble_eq_true rfl) ?_
  intro fa F
  refine wp_seq_k fun K1 hK1 => ?_
  refine wp_region_lit ?_
  refine sq_new F rfl (by decide) rfl (R_box rfl (F.at rfl)) ?_; clear F fa; intro fa w1 F hw
  obtain ⟨n1, hn⟩ : ∃ n, n = w.heap.size := ⟨_, rfl⟩
  rw [← hn] at F
  have s1 : w.heap.size ≤ n1 := Nat.le_of_eq hn.symm
  have l1_E : w.heap.size ≤ n1 := by rw [hn]; exact E.size
  replace E := ext_alloc E hw
  have q1 := new_row hw hn
  clear hw hn
  refine sq_new F rfl (by decide) rfl (R_alloc rfl Try.zeroValue24) ?_; clear F fa; intro fa w2 F hw
  obtain ⟨n2, hn⟩ : ∃ n, n = w1.heap.size := ⟨_, rfl⟩
  rw [← hn] at F
  have s2 : w1.heap.size ≤ n2 := Nat.le_of_eq hn.symm
  have l2_E : w.heap.size ≤ n2 := by rw [hn]; exact E.size
  have m2_1 : n1 < n2 := by rw [hn]; exact blk_lt q1
  replace q1 := keep_alloc hw q1
  replace E := ext_alloc E hw
  have q2 := new_row hw hn
  clear hw hn
  refine wpList_nil ?_
  refine hK1 _ _ ?_
  clear hK1
  refine wp_seq_k fun K2 hK2 => ?_
  refine region_x (Ext [] w2) (some 7) follows fun w3 hh eh => ?_
  have q1_ := q1
  replace q1 := keep_same hh q1
  have q2_ := q2
  replace q2 := keep_same hh q2
  have E_ := E
  have zEw3 := E.size
  replace E := ext_same E eh
  have eT := eh
  clear hh eh
  refine F.x (i := 0) rfl (fun w' => R_field rfl (F.at rfl) Try.underlying24 rfl (n := 1) (sz := 1) rfl (by kernel_rfl) (by decide)) (fun _ => eT) ?_; clear F fa; intro fa F
  refine F.xr (i := 1) rfl (fun w' hS => R_load rfl (F.at rfl) Try.underlying22 rfl ((cells_of_block (hS.keep q1_ (by simp)) 1).trans (getS (get0)))) (fun _ => eT) ?_; clear F fa; intro fa F
  refine F.x (i := 3) rfl (fun w' => R_field rfl (F.at rfl) Try.underlying24 rfl (n := 2) (sz := 1) rfl (by kernel_rfl) (by decide)) (fun _ => eT) ?_; clear F fa; intro fa F
  refine F.xr (i := 4) rfl (fun w' hS => R_load rfl (F.at rfl) Try.underlying22 rfl ((cells_of_block (hS.keep q1_ (by simp)) 2).trans (getS (getS (get0))))) (fun _ => eT) ?_; clear F fa; intro fa F
  have hle := E.size
  refine ax_only (i := 2) (by kernel_rfl) (op_call F rfl rfl (by decide) rfl (R_callV rfl rfl Try.call27 (mpS (F.at rfl) mp0)) (copyLists_any x.D SD.out.1 SD.out.2 _ _ _ (HX.out.d.ext E)) fun e w4 hR => ?_)
  obtain ⟨M, ma, mc, rfl, hM, oo1, fam1, eM⟩ := hR
  refine ⟨_, rfl, ?_⟩; clear F fa; intro fa F
  replace q1 := (eM).keep0 q1
  replace q2 := (eM).keep0 q2
  replace E := ext_same E (eM)
  replace eT := ext_same eT (eM)
  refine ⟨fun _ => eT, ?_⟩
  replace oo1 := owns_lower (base' := w.heap.size) oo1 hle
  replace fam1 := fam_lower fam1 hle
  refine F.x (i := 6) rfl (fun w' => R_field rfl (F.at rfl) Try.underlying24 rfl (n := 1) (sz := 1) rfl (by kernel_rfl) (by decide)) (fun _ => eT) ?_; clear F fa; intro fa F
  have hle2 := E.size
  refine ax_only (i := 5) (by kernel_rfl) (op_call F rfl rfl (by decide) rfl (R_callV rfl rfl Try.call27 (mpS (F.at rfl) mp0)) (copyLists_any x.L SL.out.1 SL.out.2 _ _ _ (HX.out.l.ext E)) fun e w5 hR => ?_)
  obtain ⟨K, ka, kc, rfl, hK, oo2, fam2, eK⟩ := hR
  refine ⟨_, rfl, ?_⟩; clear F fa; intro fa F
  replace oo1 := owns_ext oo1 (eK) (by simp)
  replace fam1 := fam_lift fam1 fun _ _ _ h => owns_ext h (eK) (by simp)
  replace q1 := (eK).keep0 q1
  replace q2 := (eK).keep0 q2
  replace E := ext_same E (eK)
  replace eT := ext_same eT (eK)
  refine ⟨fun _ => eT, ?_⟩
  replace oo2 := owns_lower (base' := w.heap.size) oo2 hle2
  replace fam2 := fam_lower fam2 hle2
  refine ax_only (i := 7) (by kernel_rfl) (op_to rfl rfl rfl (R_store rfl (F.at rfl) (F.at rfl) rfl (by kernel_rfl) ((cells_of_block q1 1).trans (getS (get0))) (free_of_block q1 1)) ?_); intro w6 hw
  replace oo1 := owns_cellX hw oo1 (own_ne_type oo1 q1 (by decide))
  replace fam1 := fam_lift fam1 fun _ _ _ h => owns_cellX hw h (own_ne_type h q1 (by decide))
  replace oo2 := owns_cellX hw oo2 (own_ne_type oo2 q1 (by decide))
  replace fam2 := fam_lift fam2 fun _ _ _ h => owns_cellX hw h (own_ne_type h q1 (by decide))
  replace q1 := put_cell hw q1 (by simp only [List.setIfInBounds_toArray, List.set_cons_succ, List.set_cons_zero]; exact rfl)
  replace q2 := keep_cell hw q2 (by omega)
  replace E := ext_cell E hw (fun h => by first | exact absurd h (by omega) | simp)
  clear hw
  refine ⟨gone (by kernel_rfl), ?_⟩
  refine F.x (i := 8) rfl (fun w' => R_field rfl (F.at rfl) Try.underlying24 rfl (n := 2) (sz := 1) rfl (by kernel_rfl) (by decide)) (gone (by kernel_rfl)) ?_; clear F fa; intro fa F
  refine ax_only (i := 9) (by kernel_rfl) (op_to rfl rfl rfl (R_store rfl (F.at rfl) (F.at rfl) rfl (by kernel_rfl) ((cells_of_block q1 2).trans (getS (getS (get0)))) (free_of_block q1 2)) ?_); intro w7 hw
  replace oo1 := owns_cellX hw oo1 (own_ne_type oo1 q1 (by decide))
  replace fam1 := fam_lift fam1 fun _ _ _ h => owns_cellX hw h (own_ne_type h q1 (by decide))
  replace oo2 := owns_cellX hw oo2 (own_ne_type oo2 q1 (by decide))
  replace fam2 := fam_lift fam2 fun _ _ _ h => owns_cellX hw h (own_ne_type h q1 (by decide))
  replace q1 := put_cell hw q1 (by simp only [List.setIfInBounds_toArray, List.set_cons_succ, List.set_cons_zero]; exact rfl)
  replace q2 := keep_cell hw q2 (by omega)
  replace E := ext_cell E hw (fun h => by first | exact absurd h (by omega) | simp)
  clear hw
  refine ⟨gone (by kernel_rfl), ?_⟩
  refine ax_done (by kernel_rfl) ?_ _
  clear eT q1_ q2_ E_
  refine hK2 _ _ ?_
  clear hK2
  refine wp_seq_k fun K3 hK3 => ?_
  refine wp_region_lit ?_
  refine F.vl (R_loadBlk rfl (F.at rfl) Try.underlying24 rfl (by kernel_rfl) q1) ?_; clear F fa; intro fa F
  refine sq_to rfl rfl (R_storeRow rfl (F.at rfl) (F.at rfl) (by kernel_rfl) (by first | (simp [Value.oneCell']; done) | (simp [Value.oneCell', id]; done)) q2 rfl) ?_; intro w8 hw
  replace oo1 := owns_cellsX hw oo1 (own_ne_type oo1 q2 (by decide))
  replace fam1 := fam_lift fam1 fun _ _ _ h => owns_cellsX hw h (own_ne_type h q2 (by decide))
  replace oo2 := owns_cellsX hw oo2 (own_ne_type oo2 q2 (by decide))
  replace fam2 := fam_lift fam2 fun _ _ _ h => owns_cellsX hw h (own_ne_type h q2 (by decide))
  replace q1 := keep_cells hw q1 (by omega)
  replace q2 := put_row hw q2 rfl
  replace E := ext_cells E hw (fun h => by first | exact absurd h (by omega) | simp)
  clear hw
  refine wpList_nil ?_
  refine hK3 _ _ ?_
  clear hK3
  refine wp_ret ?_
  (try simp only [Exit.inBlock, Exit.then, reduceIte])
  refine rt_v F (rs_c F rfl rfl Try.underlying24 rfl (by kernel_rfl) q2) ?_
  exact ⟨⟨x.B, M, ma, mc, K, ka, kc, x.tol⟩, rfl, rfl, rfl, hM, hK, ⟨lol_of_own oo1 fam1, lol_of_own oo2 fam2⟩, E⟩
end Go.Proofs.Ytdjeecgddbjbeaa
