/- The reference's small checks of numbers. No conditions. -/
import Derived.Test.YtdjeecgddbjbeaaDvt
namespace Go.Proofs.Ytdjeecgddbjbeaa
open Go.RowKit
set_option linter.unusedVariables false
set_option linter.unusedSimpArgs false
set_option maxRecDepth 100000 in
theorem dInside_any (n lo hi : Int) (w : World) : Calls Try.prog 88 #[.int .i64 n, .int .i64 lo, .int .i64 hi] w fun e w' => e = .returned (.bool (!outB n lo hi)) ∧ Ext [] w w' := by
  have E : Ext [] w w := Ext.refl _ _
  have hl : outB n lo hi = (decide (n < lo) || decide (hi < n)) := rfl
  refine calls_has 15 Try.func88 rfl Try.ntmps88 (Nat.le_of_ble_eq_true rfl) ?_
  intro fa F
  refine wp_seq_k fun K1 hK1 => ?_
  refine wp_region_lit ?_
  refine F.vl (R_assign rfl (ev_c fa _)) ?_; clear F fa; intro fa F
  refine wpList_nil ?_
  refine hK1 _ _ ?_
  clear hK1
  refine wp_seq_k fun K2 hK2 => ?_
  by_cases c1 : n < lo
  · skip
    refine wp_region_lit ?_
    refine F.mv ?_; clear F fa; intro fa F
    refine F.mv ?_; clear F fa; intro fa F
    refine F.vl (R_geqB (b := false) rfl (F.at rfl) (F.at rfl) (decide_eq_false ((by omega)))) ?_; clear F fa; intro fa F
    refine F.mv ?_; clear F fa; intro fa F
    refine sq_no F rfl (by decide) (wantF F rfl rfl (by decide) rfl (by decide)) ?_; clear F fa; intro fa F
    refine sq_no F rfl (by decide) (wantF F rfl rfl (by decide) rfl (by decide)) ?_; clear F fa; intro fa F
    refine sq_no F rfl (by decide) (wantF F rfl rfl (by decide) rfl (by decide)) ?_; clear F fa; intro fa F
    refine F.vl (R_pickF rfl (F.at rfl) (ev_c fa _)) ?_; clear F fa; intro fa F
    refine F.as ?_; clear F fa; intro fa F
    refine wpList_nil ?_
    rw [decide_eq_true c1, Bool.true_or] at hl
    refine hK2 _ _ ?_
    clear hK2
    refine wp_ret ?_
    (try simp only [Exit.inBlock, Exit.then, reduceIte])
    refine rt_v F (rs_1 F rfl rfl) ?_
    exact ⟨congrArg (fun x => Ending.returned (Value.bool (!x))) hl.symm, E⟩
  · skip
    by_cases c2 : hi < n
    · skip
      refine wp_region_lit ?_
      refine F.mv ?_; clear F fa; intro fa F
      refine F.mv ?_; clear F fa; intro fa F
      refine F.vl (R_geqB (b := true) rfl (F.at rfl) (F.at rfl) (decide_eq_true ((by omega)))) ?_; clear F fa; intro fa F
      refine F.mv ?_; clear F fa; intro fa F
      refine F.mv ?_ (hw := (wantT F rfl rfl (by decide) rfl)); clear F fa; intro fa F
      refine F.mv ?_ (hw := (wantT F rfl rfl (by decide) rfl)); clear F fa; intro fa F
      refine F.vl (R_leqB (b := false) rfl (F.at rfl) (F.at rfl) (decide_eq_false ((by omega)))) ?_ (hw := (wantT F rfl rfl (by decide) rfl)); clear F fa; intro fa F
      refine F.vl (R_pickT rfl (F.at rfl) (F.at rfl)) ?_; clear F fa; intro fa F
      refine F.as ?_; clear F fa; intro fa F
      refine wpList_nil ?_
      rw [decide_eq_true c2, Bool.or_true] at hl
      refine hK2 _ _ ?_
      clear hK2
      refine wp_ret ?_
      (try simp only [Exit.inBlock, Exit.then, reduceIte])
      refine rt_v F (rs_1 F rfl rfl) ?_
      exact ⟨congrArg (fun x => Ending.returned (Value.bool (!x))) hl.symm, E⟩
    · skip
      refine wp_region_lit ?_
      refine F.mv ?_; clear F fa; intro fa F
      refine F.mv ?_; clear F fa; intro fa F
      refine F.vl (R_geqB (b := true) rfl (F.at rfl) (F.at rfl) (decide_eq_true ((by omega)))) ?_; clear F fa; intro fa F
      refine F.mv ?_; clear F fa; intro fa F
      refine F.mv ?_ (hw := (wantT F rfl rfl (by decide) rfl)); clear F fa; intro fa F
      refine F.mv ?_ (hw := (wantT F rfl rfl (by decide) rfl)); clear F fa; intro fa F
      refine F.vl (R_leqB (b := true) rfl (F.at rfl) (F.at rfl) (decide_eq_true ((by omega)))) ?_ (hw := (wantT F rfl rfl (by decide) rfl)); clear F fa; intro fa F
      refine F.vl (R_pickT rfl (F.at rfl) (F.at rfl)) ?_; clear F fa; intro fa F
      refine F.as ?_; clear F fa; intro fa F
      refine wpList_nil ?_
      rw [decide_eq_false c1, decide_eq_false c2] at hl
      refine hK2 _ _ ?_
      clear hK2
      refine wp_ret ?_
      (try simp only [Exit.inBlock, Exit.then, reduceIte])
      refine rt_v F (rs_1 F rfl rfl) ?_
      exact ⟨congrArg (fun x => Ending.returned (Value.bool (!x))) hl.symm, E⟩
theorem dSized_any (n m : Int) (w : World) : Calls Try.prog 105 #[.int .i64 n, .int .i64 m] w fun e w' => e = .returned (.int .i64 (sizE n m)) ∧ Ext [] w w' := by
  have E : Ext [] w w := Ext.refl _ _
  refine calls_has 10 Try.func105 rfl Try.ntmps105 (Nat.le_of_ble_eq_true rfl) ?_
  intro fa F
  refine wp_seq_k fun K1 hK1 => ?_
  refine wp_region_lit ?_
  refine F.vl (R_assign rfl (ev_c fa _)) ?_; clear F fa; intro fa F
  refine wpList_nil ?_
  refine hK1 _ _ ?_
  clear hK1
  refine wp_seq_k fun K2 hK2 => ?_
  refine wp_seq_k fun K3 hK3 => ?_
  refine wp_region_lit ?_
  refine F.mv ?_; clear F fa; intro fa F
  refine F.vl (R_eqlD rfl (F.at rfl) (ev_c fa _)) ?_; clear F fa; intro fa F
  refine wpList_nil ?_
  refine hK3 _ _ ?_
  clear hK3
  refine cd_if F rfl (fun hc6 => ?_) (fun hc6 => ?_)
  · skip
    refine wp_seq_k fun K4 hK4 => ?_
    refine wp_region_lit ?_
    refine F.vl (R_assign rfl (ev_c fa _)) ?_; clear F fa; intro fa F
    refine wpList_nil ?_
    refine hK4 _ _ ?_
    clear hK4
    refine wp_ret ?_
    (try simp only [Exit.inBlock, Exit.then, reduceIte])
    refine rt_v F (rs_1 F rfl rfl) ?_
    first | exact ⟨ret_int (by rw [sizE, if_pos (by omega)]), E⟩ | exact ⟨ret_int (by rw [sizE, if_neg (by omega), if_pos (by omega)]), E⟩ | exact ⟨ret_int (by rw [sizE, if_neg (by omega), if_neg (by omega)]), E⟩
  · skip
    refine wp_skip ?_
    refine hK2 _ _ ?_
    clear hK2
    refine wp_seq_k fun K5 hK5 => ?_
    refine wp_seq_k fun K6 hK6 => ?_
    refine wp_region_lit ?_
    refine F.mv ?_; clear F fa; intro fa F
    refine F.mv ?_; clear F fa; intro fa F
    refine F.vl (R_gtr rfl (F.at rfl) (F.at rfl)) ?_; clear F fa; intro fa F
    refine wpList_nil ?_
    refine hK6 _ _ ?_
    clear hK6
    refine cd_if F rfl (fun hc9 => ?_) (fun hc9 => ?_)
    · skip
      refine wp_seq_k fun K7 hK7 => ?_
      refine wp_region_lit ?_
      refine F.vl (R_assign rfl (ev_c fa _)) ?_; clear F fa; intro fa F
      refine wpList_nil ?_
      refine hK7 _ _ ?_
      clear hK7
      refine wp_ret ?_
      (try simp only [Exit.inBlock, Exit.then, reduceIte])
      refine rt_v F (rs_1 F rfl rfl) ?_
      first | exact ⟨ret_int (by rw [sizE, if_pos (by omega)]), E⟩ | exact ⟨ret_int (by rw [sizE, if_neg (by omega), if_pos (by omega)]), E⟩ | exact ⟨ret_int (by rw [sizE, if_neg (by omega), if_neg (by omega)]), E⟩
    · skip
      refine wp_skip ?_
      refine hK5 _ _ ?_
      clear hK5
      refine wp_seq_k fun K8 hK8 => ?_
      refine wp_region_lit ?_
      refine F.vl (R_assign rfl (ev_c fa _)) ?_; clear F fa; intro fa F
      refine wpList_nil ?_
      refine hK8 _ _ ?_
      clear hK8
      refine wp_ret ?_
      (try simp only [Exit.inBlock, Exit.then, reduceIte])
      refine rt_v F (rs_1 F rfl rfl) ?_
      first | exact ⟨ret_int (by rw [sizE, if_pos (by omega)]), E⟩ | exact ⟨ret_int (by rw [sizE, if_neg (by omega), if_pos (by omega)]), E⟩ | exact ⟨ret_int (by rw [sizE, if_neg (by omega), if_neg (by omega)]), E⟩
set_option maxRecDepth 100000 in
theorem dSame_any (xs ys : List Int) (a b : Option Addr) (ca cb : Nat) (w : World) (hx : IsRows w (.slice a xs.length ca) 1 (xs.map intRow)) (hy : IsRows w (.slice b ys.length cb) 1 (ys.map intRow)) (he : xs.length = ys.length) (h1 : xs.length ≤ 1000000) :
    Calls Try.prog 107 #[.slice a xs.length ca, .slice b ys.length cb] w fun e w' => e = .returned (.bool (decide (xs = ys))) ∧ Ext [] w w' := by
  have HS := Lib.hid (slAt_of_rows hx 0)
  have HU := Lib.hid (slAt_of_rows hy 0)
  have E : Ext [] w w := Ext.refl _ _
  clear hx hy
  refine calls_has 21 Try.func107 rfl Try.ntmps107 (Nat.le_of_ble_eq_true rfl) ?_
  intro fa F
  refine wp_seq_k fun K1 hK1 => ?_
  refine wp_region_lit ?_
  refine F.vl (R_assign rfl (ev_c fa _)) ?_; clear F fa; intro fa F
  refine wpList_nil ?_
  refine hK1 _ _ ?_
  clear hK1
  refine wp_seq_k fun K2 hK2 => ?_
  refine wp_seq_k fun K3 hK3 => ?_
  refine wp_region_lit ?_
  refine F.vl (R_assign rfl (ev_c fa _)) ?_; clear F fa; intro fa F
  refine wpList_nil ?_
  refine hK3 _ _ ?_
  clear hK3
  refine wp_block ?_
  have F0 := F.sub (.c 0 rfl (.c 1 rfl .n))
  refine lp_for F0 (xs.length) (fun i Lv W => Lv = [(5, .int .i64 ((i : Nat) : Int))] ∧ Ext [] w W ∧ ∀ j, j < i → xs.getD j 0 = ys.getD j 0) ⟨_, ⟨rfl, Ext.refl _ _, fun j hj => absurd hj (by omega)⟩, F.sub (.c 5 rfl (.c 0 rfl (.c 1 rfl .n)))⟩ ?_
  clear F F0
  rintro i _ fa w1 hi1 ⟨rfl, EL1, hb⟩ F
  have E := E.nil EL1
  refine wp_seq_k fun K4 hK4 => ?_
  refine wp_seq_k fun K5 hK5 => ?_
  refine wp_region_lit ?_
  refine F.mv ?_; clear F fa; intro fa F
  refine F.mv ?_; clear F fa; intro fa F
  refine F.vl (R_len rfl rfl (F.at rfl) Try.underlying25) ?_; clear F fa; intro fa F
  refine F.vl (R_lss rfl (F.at rfl) (F.at rfl)) ?_; clear F fa; intro fa F
  refine wpList_nil ?_
  refine hK5 _ _ ?_
  clear hK5
  refine cd_if F rfl (fun hc9 => ?_) (fun hc9 => ?_)
  · skip
    refine wp_skip ?_
    refine hK4 _ _ ?_
    clear hK4
    refine wp_seq_k fun K6 hK6 => ?_
    refine wp_block ?_
    refine wp_seq_k fun K7 hK7 => ?_
    refine wp_region_st 8 follows (by kernel_rfl) fun w2 hh eh => ?_
    replace E := ext_same E eh
    replace EL1 := ext_same EL1 eh
    clear hh eh
    refine F.smv ?_; clear F fa; intro fa F
    refine F.smv ?_; clear F fa; intro fa F
    obtain ⟨xb8, xo8, xa8, xr8⟩ := HS.out i (by omega)
    refine F.sv (R_ixSlice (sz := 1) rfl ((F.at rfl).trans (xa8 _ _)) (F.at rfl) Try.underlying25 (by kernel_rfl) (by omega) (by omega)) ?_; clear F fa; intro fa F
    refine F.sv (R_load rfl (F.at rfl) Try.underlying3 rfl (xr8 _ E 0 _ rfl)) ?_; clear F fa; intro fa F
    refine F.smv ?_; clear F fa; intro fa F
    refine F.smv ?_; clear F fa; intro fa F
    obtain ⟨xb9, xo9, xa9, xr9⟩ := HU.out i (by omega)
    refine F.sv (R_ixSlice (sz := 1) rfl ((F.at rfl).trans (xa9 _ _)) (F.at rfl) Try.underlying25 (by kernel_rfl) (by omega) (by omega)) ?_; clear F fa; intro fa F
    refine F.sv (R_load rfl (F.at rfl) Try.underlying3 rfl (xr9 _ E 0 _ rfl)) ?_; clear F fa; intro fa F
    refine wpStill_nil ?_
    refine F.vl (R_neqD rfl (F.at rfl) (F.at rfl)) ?_; clear F fa; intro fa F
    refine wpList_nil ?_
    refine hK7 _ _ ?_
    clear hK7
    refine cd_if F rfl (fun hc20 => ?_) (fun hc20 => ?_)
    · skip
      refine wp_seq_k fun K10 hK10 => ?_
      refine wp_region_lit ?_
      refine F.vl (R_assign rfl (ev_c fa _)) ?_; clear F fa; intro fa F
      refine wpList_nil ?_
      refine hK10 _ _ ?_
      clear hK10
      refine wp_ret ?_
      (try simp only [Exit.inBlock, Exit.then, reduceIte])
      refine rt_v F (rs_1 F rfl rfl) ?_
      exact ⟨ret_bool (decide_eq_false fun h => hc20 (by rw [h])).symm, E⟩
    · skip
      refine wp_skip ?_
      refine hK6 _ _ ?_
      clear hK6
      refine wp_region_lit ?_
      refine F.mv ?_; clear F fa; intro fa F
      refine F.vl (R_add rfl (F.at rfl) (ev_c fa _) (by omega) (by omega)) ?_; clear F fa; intro fa F
      refine F.as ?_; clear F fa; intro fa F
      refine wpList_nil ?_
      show _ ∧ _
      exact ⟨by omega, _, ⟨rfl, EL1, fun j hj => if e : j = i then e ▸ (by simpa using hc20) else hb j (by omega)⟩, F.sub (.c 5 rfl (.c 0 rfl (.c 1 rfl .n)))⟩
  · skip
    refine wp_exit ?_
    refine hK2 _ _ ?_
    clear hK2
    refine wp_seq_k fun K11 hK11 => ?_
    refine wp_region_lit ?_
    refine F.vl (R_assign rfl (ev_c fa _)) ?_; clear F fa; intro fa F
    refine wpList_nil ?_
    refine hK11 _ _ ?_
    clear hK11
    refine wp_ret ?_
    (try simp only [Exit.inBlock, Exit.then, reduceIte])
    refine rt_v F (rs_1 F rfl rfl) ?_
    exact ⟨ret_bool (decide_eq_true (List.ext_getElem (by omega) fun j h1 h2 => by have := hb j (by omega); simpa [h1, h2] using this)).symm, E⟩
set_option maxRecDepth 100000 in
theorem dBanded_any (B tol : Int) (dv lv : Value) (l : List Int) (hi : Int) (a : Option Addr) (c : Nat) (w : World) (h : IsRows w (.slice a l.length c) 1 (l.map intRow)) (hl : l.length ≤ 1000) :
    Calls Try.prog 106 #[.agg #[.int .i64 B, dv, lv, .int .i64 tol], .slice a l.length c, .int .i64 hi] w fun e w' => e = .returned (.int .i64 (numE l B hi)) ∧ Ext [] w w' := by
  have HS := Lib.hid (slAt_of_rows h 0)
  have E : Ext [] w w := Ext.refl _ _
  clear h
  refine calls_has 26 Try.func106 rfl Try.ntmps106 (Nat.le_of_ble_eq_true rfl) ?_
  intro fa F
  refine wp_seq_k fun K1 hK1 => ?_
  refine wp_region_lit ?_
  refine sq_new F rfl (by decide) rfl (R_box rfl (F.at rfl)) ?_; clear F fa; intro fa w1 F hw
  obtain ⟨n3, hn⟩ : ∃ n, n = w.heap.size := ⟨_, rfl⟩
  rw [← hn] at F
  have s3 : w.heap.size ≤ n3 := Nat.le_of_eq hn.symm
  have l3_E : w.heap.size ≤ n3 := by rw [hn]; exact E.size
  replace E := ext_alloc E hw
  have q3 := new_row hw hn
  clear hw hn
  refine F.vl (R_assign rfl (ev_c fa _)) ?_; clear F fa; intro fa F
  refine wpList_nil ?_
  refine hK1 _ _ ?_
  clear hK1
  refine wp_seq_k fun K2 hK2 => ?_
  refine wp_seq_k fun K3 hK3 => ?_
  refine wp_region_lit ?_
  refine F.mv ?_; clear F fa; intro fa F
  refine F.vl (R_len rfl rfl (F.at rfl) Try.underlying25) ?_; clear F fa; intro fa F
  refine F.vl (R_field rfl (F.at rfl) Try.underlying24 rfl (n := 0) (sz := 1) rfl (by kernel_rfl) (by decide)) ?_; clear F fa; intro fa F
  refine F.vl (R_load rfl (F.at rfl) Try.underlying3 rfl ((cells_of_block q3 0).trans (get0))) ?_; clear F fa; intro fa F
  refine F.vl (R_neqD rfl (F.at rfl) (F.at rfl)) ?_; clear F fa; intro fa F
  refine wpList_nil ?_
  refine hK3 _ _ ?_
  clear hK3
  refine cd_if F rfl (fun hc12 => ?_) (fun hc12 => ?_)
  · skip
    refine wp_seq_k fun K4 hK4 => ?_
    refine wp_region_lit ?_
    refine F.vl (R_assign rfl (ev_c fa _)) ?_; clear F fa; intro fa F
    refine wpList_nil ?_
    refine hK4 _ _ ?_
    clear hK4
    refine wp_ret ?_
    (try simp only [Exit.inBlock, Exit.then, reduceIte])
    refine rt_v F (rs_1 F rfl rfl) ?_
    have e : numE l B hi = 9 := (by rw [numE, if_pos (by omega)])
    exact ⟨by rw [e], E⟩
  · skip
    refine wp_skip ?_
    refine hK2 _ _ ?_
    clear hK2
    refine wp_seq_k fun K5 hK5 => ?_
    refine wp_seq_k fun K6 hK6 => ?_
    refine wp_region_lit ?_
    refine F.vl (R_assign rfl (ev_c fa _)) ?_; clear F fa; intro fa F
    refine wpList_nil ?_
    refine hK6 _ _ ?_
    clear hK6
    refine wp_block ?_
    have F0 := F.sub (.c 1 rfl (.c 2 rfl .n))
    refine lp_for F0 (l.length) (fun i Lv W => Lv = [(7, .int .i64 ((i : Nat) : Int))] ∧ Ext [] w1 W ∧ (∀ j, j < i → outB (l.getD j 0) 0 hi = false)) ⟨_, ⟨rfl, Ext.refl _ _, (fun j hj => absurd hj (by omega))⟩, F.sub (.c 7 rfl (.c 1 rfl (.c 2 rfl .n)))⟩ ?_
    clear F F0
    rintro i _ fa w2 hi1 ⟨rfl, EL1, hb⟩ F
    have q3 := EL1.keep0 q3
    have E := E.nil EL1
    refine wp_seq_k fun K7 hK7 => ?_
    refine wp_seq_k fun K8 hK8 => ?_
    refine wp_region_lit ?_
    refine F.mv ?_; clear F fa; intro fa F
    refine F.mv ?_; clear F fa; intro fa F
    refine F.vl (R_len rfl rfl (F.at rfl) Try.underlying25) ?_; clear F fa; intro fa F
    refine F.vl (R_lss rfl (F.at rfl) (F.at rfl)) ?_; clear F fa; intro fa F
    refine wpList_nil ?_
    refine hK8 _ _ ?_
    clear hK8
    refine cd_if F rfl (fun hc16 => ?_) (fun hc16 => ?_)
    · skip
      refine wp_skip ?_
      refine hK7 _ _ ?_
      clear hK7
      refine wp_seq_k fun K9 hK9 => ?_
      refine wp_block ?_
      refine wp_seq_k fun K10 hK10 => ?_
      refine wp_region_lit ?_
      refine F.mv ?_; clear F fa; intro fa F
      refine F.mv ?_; clear F fa; intro fa F
      obtain ⟨xb11, xo11, xa11, xr11⟩ := HS.out i (by omega)
      refine F.vl (R_ixSlice (sz := 1) rfl ((F.at rfl).trans (xa11 _ _)) (F.at rfl) Try.underlying25 (by kernel_rfl) (by omega) (by omega)) ?_; clear F fa; intro fa F
      refine F.vl (R_load rfl (F.at rfl) Try.underlying3 rfl (xr11 _ E 0 _ rfl)) ?_; clear F fa; intro fa F
      refine F.mv ?_; clear F fa; intro fa F
      refine sq_call F rfl (by decide) rfl (R_callV rfl rfl Try.call88 (mpS (F.at rfl) (mpS (ev_c fa _) (mpS (F.at rfl) mp0)))) (dInside_any (l.getD i 0) 0 hi _) fun e w3 hR => ?_
      obtain ⟨rfl, e9⟩ := hR
      refine ⟨_, rfl, ?_⟩; clear F fa; intro fa F
      replace q3 := (e9).keep0 q3
      replace E := ext_same E (e9)
      replace EL1 := ext_same EL1 (e9)
      clear e9
      refine F.vl (R_not rfl (F.at rfl)) ?_; clear F fa; intro fa F
      refine wpList_nil ?_
      refine hK10 _ _ ?_
      clear hK10
      refine cd_b F rfl (fun hc25 => ?_) (fun hc25 => ?_)
      · skip
        have hyes : outB (l.getD i 0) 0 hi = true := by simpa using hc25
        refine wp_seq_k fun K12 hK12 => ?_
        refine wp_region_lit ?_
        refine F.vl (R_assign rfl (ev_c fa _)) ?_; clear F fa; intro fa F
        refine wpList_nil ?_
        refine hK12 _ _ ?_
        clear hK12
        refine wp_ret ?_
        (try simp only [Exit.inBlock, Exit.then, reduceIte])
        refine rt_v F (rs_1 F rfl rfl) ?_
        have e : numE l B hi = 1 := (by rw [numE, if_neg (by omega), all_bad (by omega) hyes]; rfl)
        exact ⟨by rw [e], E⟩
      · skip
        have hno : outB (l.getD i 0) 0 hi = false := by simpa using hc25
        refine wp_skip ?_
        refine hK9 _ _ ?_
        clear hK9
        refine wp_region_lit ?_
        refine F.mv ?_; clear F fa; intro fa F
        refine F.vl (R_add rfl (F.at rfl) (ev_c fa _) (by omega) (by omega)) ?_; clear F fa; intro fa F
        refine F.as ?_; clear F fa; intro fa F
        refine wpList_nil ?_
        show _ ∧ _
        exact ⟨by omega, _, ⟨rfl, EL1, (fun j hj => if e : j = i then e ▸ hno else hb j (by omega))⟩, F.sub (.c 7 rfl (.c 1 rfl (.c 2 rfl .n)))⟩
    · skip
      refine wp_exit ?_
      refine hK5 _ _ ?_
      clear hK5
      refine wp_seq_k fun K13 hK13 => ?_
      refine wp_region_lit ?_
      refine F.vl (R_assign rfl (ev_c fa _)) ?_; clear F fa; intro fa F
      refine wpList_nil ?_
      refine hK13 _ _ ?_
      clear hK13
      refine wp_ret ?_
      (try simp only [Exit.inBlock, Exit.then, reduceIte])
      refine rt_v F (rs_1 F rfl rfl) ?_
      have e : numE l B hi = 0 := (by rw [numE, if_neg (by omega), all_take hb (by omega)]; rfl)
      exact ⟨by rw [e], E⟩
/-- The error of a list that has to have so many numbers. -/
def cntE (l : List Int) (many hi : Int) : Int := if (l.length : Int) < many then 7 else if many < l.length then 6 else if l.all (fun n => !outB n 0 hi) then 0 else 1
set_option maxRecDepth 100000 in
theorem dCounted_any (l : List Int) (many hi : Int) (a : Option Addr) (c : Nat) (w : World) (h : IsRows w (.slice a l.length c) 1 (l.map intRow)) (hl : l.length ≤ 1000) :
    Calls Try.prog 108 #[.slice a l.length c, .int .i64 many, .int .i64 hi] w fun e w' => e = .returned (.int .i64 (cntE l many hi)) ∧ Ext [] w w' := by
  have HS := Lib.hid (slAt_of_rows h 0)
  have E : Ext [] w w := Ext.refl _ _
  clear h
  refine calls_has 29 Try.func108 rfl Try.ntmps108 (Nat.le_of_ble_eq_true rfl) ?_
  intro fa F
  refine wp_seq_k fun K1 hK1 => ?_
  refine wp_region_lit ?_
  refine F.vl (R_assign rfl (ev_c fa _)) ?_; clear F fa; intro fa F
  refine wpList_nil ?_
  refine hK1 _ _ ?_
  clear hK1
  refine wp_seq_k fun K2 hK2 => ?_
  refine wp_seq_k fun K3 hK3 => ?_
  refine wp_region_lit ?_
  refine F.mv ?_; clear F fa; intro fa F
  refine F.vl (R_len rfl rfl (F.at rfl) Try.underlying25) ?_; clear F fa; intro fa F
  refine F.mv ?_; clear F fa; intro fa F
  refine F.vl (R_lss rfl (F.at rfl) (F.at rfl)) ?_; clear F fa; intro fa F
  refine wpList_nil ?_
  refine hK3 _ _ ?_
  clear hK3
  refine cd_if F rfl (fun hc11 => ?_) (fun hc11 => ?_)
  · skip
    refine wp_seq_k fun K4 hK4 => ?_
    refine wp_region_lit ?_
    refine F.vl (R_assign rfl (ev_c fa _)) ?_; clear F fa; intro fa F
    refine wpList_nil ?_
    refine hK4 _ _ ?_
    clear hK4
    refine wp_ret ?_
    (try simp only [Exit.inBlock, Exit.then, reduceIte])
    refine rt_v F (rs_1 F rfl rfl) ?_
    have e : cntE l many hi = 7 := (by rw [cntE, if_pos (by omega)])
    exact ⟨by rw [e], E⟩
  · skip
    refine wp_skip ?_
    refine hK2 _ _ ?_
    clear hK2
    refine wp_seq_k fun K5 hK5 => ?_
    refine wp_seq_k fun K6 hK6 => ?_
    refine wp_region_lit ?_
    refine F.mv ?_; clear F fa; intro fa F
    refine F.vl (R_len rfl rfl (F.at rfl) Try.underlying25) ?_; clear F fa; intro fa F
    refine F.mv ?_; clear F fa; intro fa F
    refine F.vl (R_gtr rfl (F.at rfl) (F.at rfl)) ?_; clear F fa; intro fa F
    refine wpList_nil ?_
    refine hK6 _ _ ?_
    clear hK6
    refine cd_if F rfl (fun hc15 => ?_) (fun hc15 => ?_)
    · skip
      refine wp_seq_k fun K7 hK7 => ?_
      refine wp_region_lit ?_
      refine F.vl (R_assign rfl (ev_c fa _)) ?_; clear F fa; intro fa F
      refine wpList_nil ?_
      refine hK7 _ _ ?_
      clear hK7
      refine wp_ret ?_
      (try simp only [Exit.inBlock, Exit.then, reduceIte])
      refine rt_v F (rs_1 F rfl rfl) ?_
      have e : cntE l many hi = 6 := (by rw [cntE, if_neg (by omega), if_pos (by omega)])
      exact ⟨by rw [e], E⟩
    · skip
      refine wp_skip ?_
      refine hK5 _ _ ?_
      clear hK5
      refine wp_seq_k fun K8 hK8 => ?_
      refine wp_seq_k fun K9 hK9 => ?_
      refine wp_region_lit ?_
      refine F.vl (R_assign rfl (ev_c fa _)) ?_; clear F fa; intro fa F
      refine wpList_nil ?_
      refine hK9 _ _ ?_
      clear hK9
      refine wp_block ?_
      have F0 := F.sub (.c 0 rfl (.c 2 rfl .n))
      refine lp_for F0 (l.length) (fun i Lv W => Lv = [(7, .int .i64 ((i : Nat) : Int))] ∧ Ext [] w W ∧ (∀ j, j < i → outB (l.getD j 0) 0 hi = false)) ⟨_, ⟨rfl, Ext.refl _ _, (fun j hj => absurd hj (by omega))⟩, F.sub (.c 7 rfl (.c 0 rfl (.c 2 rfl .n)))⟩ ?_
      clear F F0
      rintro i _ fa w1 hi1 ⟨rfl, EL1, hb⟩ F
      have E := E.nil EL1
      refine wp_seq_k fun K10 hK10 => ?_
      refine wp_seq_k fun K11 hK11 => ?_
      refine wp_region_lit ?_
      refine F.mv ?_; clear F fa; intro fa F
      refine F.mv ?_; clear F fa; intro fa F
      refine F.vl (R_len rfl rfl (F.at rfl) Try.underlying25) ?_; clear F fa; intro fa F
      refine F.vl (R_lss rfl (F.at rfl) (F.at rfl)) ?_; clear F fa; intro fa F
      refine wpList_nil ?_
      refine hK11 _ _ ?_
      clear hK11
      refine cd_if F rfl (fun hc19 => ?_) (fun hc19 => ?_)
      · skip
        refine wp_skip ?_
        refine hK10 _ _ ?_
        clear hK10
        refine wp_seq_k fun K12 hK12 => ?_
        refine wp_block ?_
        refine wp_seq_k fun K13 hK13 => ?_
        refine wp_region_lit ?_
        refine F.mv ?_; clear F fa; intro fa F
        refine F.mv ?_; clear F fa; intro fa F
        obtain ⟨xb14, xo14, xa14, xr14⟩ := HS.out i (by omega)
        refine F.vl (R_ixSlice (sz := 1) rfl ((F.at rfl).trans (xa14 _ _)) (F.at rfl) Try.underlying25 (by kernel_rfl) (by omega) (by omega)) ?_; clear F fa; intro fa F
        refine F.vl (R_load rfl (F.at rfl) Try.underlying3 rfl (xr14 _ E 0 _ rfl)) ?_; clear F fa; intro fa F
        refine F.mv ?_; clear F fa; intro fa F
        refine sq_call F rfl (by decide) rfl (R_callV rfl rfl Try.call88 (mpS (F.at rfl) (mpS (ev_c fa _) (mpS (F.at rfl) mp0)))) (dInside_any (l.getD i 0) 0 hi _) fun e w2 hR => ?_
        obtain ⟨rfl, e9⟩ := hR
        refine ⟨_, rfl, ?_⟩; clear F fa; intro fa F
        replace E := ext_same E (e9)
        replace EL1 := ext_same EL1 (e9)
        clear e9
        refine F.vl (R_not rfl (F.at rfl)) ?_; clear F fa; intro fa F
        refine wpList_nil ?_
        refine hK13 _ _ ?_
        clear hK13
        refine cd_b F rfl (fun hc28 => ?_) (fun hc28 => ?_)
        · skip
          have hyes : outB (l.getD i 0) 0 hi = true := by simpa using hc28
          refine wp_seq_k fun K15 hK15 => ?_
          refine wp_region_lit ?_
          refine F.vl (R_assign rfl (ev_c fa _)) ?_; clear F fa; intro fa F
          refine wpList_nil ?_
          refine hK15 _ _ ?_
          clear hK15
          refine wp_ret ?_
          (try simp only [Exit.inBlock, Exit.then, reduceIte])
          refine rt_v F (rs_1 F rfl rfl) ?_
          have e : cntE l many hi = 1 := (by rw [cntE, if_neg (by omega), if_neg (by omega), all_bad (by omega) hyes]; rfl)
          exact ⟨by rw [e], E⟩
        · skip
          have hno : outB (l.getD i 0) 0 hi = false := by simpa using hc28
          refine wp_skip ?_
          refine hK12 _ _ ?_
          clear hK12
          refine wp_region_lit ?_
          refine F.mv ?_; clear F fa; intro fa F
          refine F.vl (R_add rfl (F.at rfl) (ev_c fa _) (by omega) (by omega)) ?_; clear F fa; intro fa F
          refine F.as ?_; clear F fa; intro fa F
          refine wpList_nil ?_
          show _ ∧ _
          exact ⟨by omega, _, ⟨rfl, EL1, (fun j hj => if e : j = i then e ▸ hno else hb j (by omega))⟩, F.sub (.c 7 rfl (.c 0 rfl (.c 2 rfl .n)))⟩
      · skip
        refine wp_exit ?_
        refine hK8 _ _ ?_
        clear hK8
        refine wp_seq_k fun K16 hK16 => ?_
        refine wp_region_lit ?_
        refine F.vl (R_assign rfl (ev_c fa _)) ?_; clear F fa; intro fa F
        refine wpList_nil ?_
        refine hK16 _ _ ?_
        clear hK16
        refine wp_ret ?_
        (try simp only [Exit.inBlock, Exit.then, reduceIte])
        refine rt_v F (rs_1 F rfl rfl) ?_
        have e : cntE l many hi = 0 := (by rw [cntE, if_neg (by omega), if_neg (by omega), all_take hb (by omega)]; rfl)
        exact ⟨by rw [e], E⟩
set_option maxRecDepth 100000 in
theorem dTotal_any (l : List Int) (a : Option Addr) (c : Nat) (w : World) (h : IsRows w (.slice a l.length c) 1 (l.map intRow)) (hl : l.length ≤ 1000) (hn : ∀ n ∈ l, 0 ≤ n ∧ n ≤ 1000) :
    Calls Try.prog 67 #[.slice a l.length c] w fun e w' => e = .returned (.int .i64 l.sum) ∧ Ext [] w w' := by
  have HS := Lib.hid (slAt_of_rows h 0)
  have HN := Lib.hid hn
  have E : Ext [] w w := Ext.refl _ _
  clear h hn
  refine calls_has 18 Try.func67 rfl Try.ntmps67 (Nat.le_of_ble_eq_true rfl) ?_
  intro fa F
  refine wp_seq_k fun K1 hK1 => ?_
  refine wp_region_lit ?_
  refine F.vl (R_assign rfl (ev_c fa _)) ?_; clear F fa; intro fa F
  refine wpList_nil ?_
  refine hK1 _ _ ?_
  clear hK1
  refine wp_seq_k fun K2 hK2 => ?_
  refine wp_region_lit ?_
  refine F.vl (R_assign rfl (ev_c fa _)) ?_; clear F fa; intro fa F
  rw [show (0 : Int) = (l.take 0).sum from rfl] at F
  refine wpList_nil ?_
  refine hK2 _ _ ?_
  clear hK2
  refine wp_seq_k fun K3 hK3 => ?_
  refine wp_seq_k fun K4 hK4 => ?_
  refine wp_region_lit ?_
  refine F.vl (R_assign rfl (ev_c fa _)) ?_; clear F fa; intro fa F
  refine wpList_nil ?_
  refine hK4 _ _ ?_
  clear hK4
  refine wp_block ?_
  have F0 := F.sub (.c 0 rfl .n)
  refine lp_for F0 (l.length) (fun i Lv W => Lv = [(3, .int .i64 ((l.take i).sum)), (4, .int .i64 ((i : Nat) : Int))] ∧ Ext [] w W ∧ 0 ≤ (l.take i).sum ∧ (l.take i).sum ≤ 1000 * (i : Int)) ⟨_, ⟨rfl, Ext.refl _ _, (by simp), (by simp)⟩, F.sub (.c 3 rfl (.c 4 rfl (.c 0 rfl .n)))⟩ ?_
  clear F F0
  rintro i _ fa w1 hi1 ⟨rfl, EL1, hs0, hs1⟩ F
  have E := E.nil EL1
  refine wp_seq_k fun K5 hK5 => ?_
  refine wp_seq_k fun K6 hK6 => ?_
  refine wp_region_lit ?_
  refine F.mv ?_; clear F fa; intro fa F
  refine F.mv ?_; clear F fa; intro fa F
  refine F.vl (R_len rfl rfl (F.at rfl) Try.underlying25) ?_; clear F fa; intro fa F
  refine F.vl (R_lss rfl (F.at rfl) (F.at rfl)) ?_; clear F fa; intro fa F
  refine wpList_nil ?_
  refine hK6 _ _ ?_
  clear hK6
  refine cd_if F rfl (fun hc8 => ?_) (fun hc8 => ?_)
  · skip
    refine wp_skip ?_
    refine hK5 _ _ ?_
    clear hK5
    refine wp_seq_k fun K7 hK7 => ?_
    refine wp_block ?_
    obtain ⟨hn1, hn2⟩ := HN.out _ (getD_mem 0 (show i < l.length by omega))
    refine wp_region_lit ?_
    refine F.mv ?_; clear F fa; intro fa F
    refine F.mv ?_; clear F fa; intro fa F
    refine F.mv ?_; clear F fa; intro fa F
    obtain ⟨xb8, xo8, xa8, xr8⟩ := HS.out i (by omega)
    refine F.vl (R_ixSlice (sz := 1) rfl ((F.at rfl).trans (xa8 _ _)) (F.at rfl) Try.underlying25 (by kernel_rfl) (by omega) (by omega)) ?_; clear F fa; intro fa F
    refine F.vl (R_load rfl (F.at rfl) Try.underlying3 rfl (xr8 _ E 0 _ rfl)) ?_; clear F fa; intro fa F
    refine F.vl (R_add rfl (F.at rfl) (F.at rfl) (by omega) (by omega)) ?_; clear F fa; intro fa F
    rw [← sum_take l (show i < l.length by omega)] at F
    refine F.as ?_; clear F fa; intro fa F
    refine wpList_nil ?_
    refine hK7 _ _ ?_
    clear hK7
    refine wp_region_lit ?_
    refine F.mv ?_; clear F fa; intro fa F
    refine F.vl (R_add rfl (F.at rfl) (ev_c fa _) (by omega) (by omega)) ?_; clear F fa; intro fa F
    refine F.as ?_; clear F fa; intro fa F
    refine wpList_nil ?_
    show _ ∧ _
    exact ⟨by omega, _, ⟨rfl, EL1, (by rw [sum_take l (by omega)]; omega), (by rw [sum_take l (by omega)]; omega)⟩, F.sub (.c 3 rfl (.c 4 rfl (.c 0 rfl .n)))⟩
  · skip
    refine wp_exit ?_
    refine hK3 _ _ ?_
    clear hK3
    refine wp_seq_k fun K9 hK9 => ?_
    refine wp_region_lit ?_
    refine F.mv ?_; clear F fa; intro fa F
    refine F.as ?_; clear F fa; intro fa F
    refine wpList_nil ?_
    refine hK9 _ _ ?_
    clear hK9
    refine wp_ret ?_
    (try simp only [Exit.inBlock, Exit.then, reduceIte])
    refine rt_v F (rs_1 F rfl rfl) ?_
    exact ⟨ret_int (by rw [List.take_of_length_le (by omega)]), E⟩
end Go.Proofs.Ytdjeecgddbjbeaa
