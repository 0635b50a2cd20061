/- The walks of small functions of the kit: Rare, At; of the laws: inside, negative. Conditions: lists of at most a million. -/
import Derived.Test.YtholfdgebdlgjaaVa
namespace Go.Proofs.Ytholfdgebdlgjaa
open Go.RowKit
set_option linter.unusedVariables false
set_option linter.unusedSimpArgs false
theorem inside_any (a b c d : Int) (w : World) :
    Calls Try.prog 115 #[.agg #[.int .i64 a, .int .i64 b], .agg #[.int .i64 c, .int .i64 d]] w fun e w' => e = .returned (.bool (decide (c ≤ a ∧ b ≤ d))) ∧ Ext [] w w' := by
  have E : Ext [] w w := Ext.refl _ _
  refine calls_has 17 Try.func115 rfl Try.ntmps115 (Nat.le_of_ble_eq_true rfl) ?_
  intro fa F
  refine wp_seq_k fun K1 hK1 => ?_
  refine wp_region_lit ?_
  refine sq_new F rfl (by decide) rfl (R_box rfl (F.at rfl)) ?_; clear F fa; intro fa w1 F hw
  obtain ⟨n2, hn⟩ : ∃ n, n = w.heap.size := ⟨_, rfl⟩
  rw [← hn] at F
  have l2_E : w.heap.size ≤ n2 := by rw [hn]; exact E.size
  replace E := ext_alloc E hw
  have q2 := new_row hw hn
  clear hw hn
  refine sq_new F rfl (by decide) rfl (R_box rfl (F.at rfl)) ?_; clear F fa; intro fa w2 F hw
  obtain ⟨n3, hn⟩ : ∃ n, n = w1.heap.size := ⟨_, rfl⟩
  rw [← hn] at F
  have l3_E : w.heap.size ≤ n3 := by rw [hn]; exact E.size
  have m3_2 : n2 < n3 := by rw [hn]; exact blk_lt q2
  replace q2 := keep_alloc hw q2
  replace E := ext_alloc E hw
  have q3 := new_row hw hn
  clear hw hn
  refine sq_val F rfl (by decide) rfl (R_assign rfl (ev_c fa _)) ?_; clear F fa; intro fa F
  refine wpList_nil ?_
  refine hK1 _ _ ?_
  clear hK1
  refine wp_seq_k fun K2 hK2 => ?_
  refine wp_region_lit ?_
  refine sq_val F rfl (by decide) rfl (R_field rfl (F.at rfl) Try.underlying23 rfl (n := 0) (sz := 1) rfl (by kernel_rfl) (by decide)) ?_; clear F fa; intro fa F
  refine sq_val F rfl (by decide) rfl (R_load rfl (F.at rfl) Try.underlying3 rfl ((cells_of_block q2 0).trans (get0))) ?_; clear F fa; intro fa F
  refine sq_val F rfl (by decide) rfl (R_field rfl (F.at rfl) Try.underlying23 rfl (n := 0) (sz := 1) rfl (by kernel_rfl) (by decide)) ?_; clear F fa; intro fa F
  refine sq_val F rfl (by decide) rfl (R_load rfl (F.at rfl) Try.underlying3 rfl ((cells_of_block q3 0).trans (get0))) ?_; clear F fa; intro fa F
  refine sq_val F rfl (by decide) rfl (R_geq rfl (F.at rfl) (F.at rfl)) ?_; clear F fa; intro fa F
  refine sq_val F rfl (by decide) rfl (R_move rfl (F.at rfl)) ?_; clear F fa; intro fa F
  by_cases hg1 : (c ≤ a)
  · skip
    replace F := F.re (k := 10) rfl (congrArg Value.bool (decide_eq_true hg1))
    refine sq_val F rfl (by decide) (wantT F rfl rfl (by decide) rfl) (R_field rfl (F.at rfl) Try.underlying23 rfl (n := 1) (sz := 1) rfl (by kernel_rfl) (by decide)) ?_; clear F fa; intro fa F
    refine sq_val F rfl (by decide) (wantT F rfl rfl (by decide) rfl) (R_load rfl (F.at rfl) Try.underlying3 rfl ((cells_of_block q2 1).trans (getS (get0)))) ?_; clear F fa; intro fa F
    refine sq_val F rfl (by decide) (wantT F rfl rfl (by decide) rfl) (R_field rfl (F.at rfl) Try.underlying23 rfl (n := 1) (sz := 1) rfl (by kernel_rfl) (by decide)) ?_; clear F fa; intro fa F
    refine sq_val F rfl (by decide) (wantT F rfl rfl (by decide) rfl) (R_load rfl (F.at rfl) Try.underlying3 rfl ((cells_of_block q3 1).trans (getS (get0)))) ?_; clear F fa; intro fa F
    refine sq_val F rfl (by decide) (wantT F rfl rfl (by decide) rfl) (R_leq rfl (F.at rfl) (F.at rfl)) ?_; clear F fa; intro fa F
    refine sq_val F rfl (by decide) rfl (R_pickT rfl (F.at rfl) (F.at rfl)) ?_; clear F fa; intro fa F
    refine sq_val F rfl (by decide) rfl (R_assign rfl (F.at rfl)) ?_; clear F fa; intro fa F
    refine wpList_nil ?_
    refine hK2 _ _ ?_
    clear hK2
    refine wp_ret ?_
    (try simp only [Exit.inBlock, Exit.then])
    refine rt_v F (rs_1 F rfl rfl) ?_
    exact ⟨ret_bool (by simp [hg1]), E⟩
  · skip
    replace F := F.re (k := 10) rfl (congrArg Value.bool (decide_eq_false hg1))
    refine sq_no F rfl (by decide) (wantF F rfl rfl (by decide) rfl (by decide)) ?_; clear F fa; intro fa F
    refine sq_no F rfl (by decide) (wantF F rfl rfl (by decide) rfl (by decide)) ?_; clear F fa; intro fa F
    refine sq_no F rfl (by decide) (wantF F rfl rfl (by decide) rfl (by decide)) ?_; clear F fa; intro fa F
    refine sq_no F rfl (by decide) (wantF F rfl rfl (by decide) rfl (by decide)) ?_; clear F fa; intro fa F
    refine sq_no F rfl (by decide) (wantF F rfl rfl (by decide) rfl (by decide)) ?_; clear F fa; intro fa F
    refine sq_val F rfl (by decide) rfl (R_pickF rfl (F.at rfl) (ev_c fa _)) ?_; clear F fa; intro fa F
    refine sq_val F rfl (by decide) rfl (R_assign rfl (F.at rfl)) ?_; clear F fa; intro fa F
    refine wpList_nil ?_
    refine hK2 _ _ ?_
    clear hK2
    refine wp_ret ?_
    (try simp only [Exit.inBlock, Exit.then])
    refine rt_v F (rs_1 F rfl rfl) ?_
    exact ⟨ret_bool (by simp [hg1]), E⟩
theorem rare_any (w0 w : World) (b k : Nat) (nv : Value) (n : Int) (h : LotsOk w0 w b k nv) (hk : k ≤ 1000000) (h0 : 1 ≤ n) (hn : n ≤ 1000000) :
    Calls Try.prog 69 #[.pointer (some ⟨b, 0, none⟩), .int .i64 n] w fun e w' => ∃ r, e = .returned (.bool r) ∧ LotsOk w0 w' b (k + 1) nv ∧ Ext [b] w w' := by
  have E : Ext [b] w w := Ext.refl _ _
  refine calls_has 10 Try.func69 rfl Try.ntmps69 (Nat.le_of_ble_eq_true rfl) ?_
  intro fa F
  refine wp_seq_k fun K1 hK1 => ?_
  refine wp_region_lit ?_
  refine sq_val F rfl (by decide) rfl (R_assign rfl (ev_c fa _)) ?_; clear F fa; intro fa F
  refine wpList_nil ?_
  refine hK1 _ _ ?_
  clear hK1
  refine wp_seq_k fun K2 hK2 => ?_
  refine wp_region_lit ?_
  refine sq_val F rfl (by decide) rfl (R_move rfl (F.at rfl)) ?_; clear F fa; intro fa F
  refine sq_val F rfl (by decide) rfl (R_move rfl (F.at rfl)) ?_; clear F fa; intro fa F
  refine sq_val F rfl (by decide) rfl (R_sub rfl (F.at rfl) (ev_c fa _) (by omega) (by omega)) ?_; clear F fa; intro fa F
  refine sq_call F rfl (by decide) rfl (R_callV rfl rfl Try.call51 (mpS (F.at rfl) (mpS (F.at rfl) mp0))) (upto_any w0 _ b k nv (n - 1) h hk (by omega) (by omega)) fun e w1 hR => ?_
  obtain ⟨v, rfl, hv0, hv1, HL, e1⟩ := hR
  refine ⟨_, rfl, ?_⟩; clear F fa; intro fa F
  replace E := E.trans' e1 (fun i hi hl => by simp only [List.mem_cons, List.not_mem_nil, or_false] at hi ⊢; omega)
  refine sq_val F rfl (by decide) rfl (R_eqlD rfl (F.at rfl) (ev_c fa _)) ?_; clear F fa; intro fa F
  refine sq_val F rfl (by decide) rfl (R_assign rfl (F.at rfl)) ?_; clear F fa; intro fa F
  refine wpList_nil ?_
  refine hK2 _ _ ?_
  clear hK2
  refine wp_ret ?_
  (try simp only [Exit.inBlock, Exit.then])
  refine rt_v F (rs_1 F rfl rfl) ?_
  exact ⟨_, rfl, HL, E⟩
/-- Where a number first stands in a list; -1 if it does not. -/
def atI (xs : List Int) (n : Int) : Int := match xs.findIdx? (· == n) with | some i => i | none => -1
theorem atI_some {xs : List Int} {n : Int} {i : Nat} (hi : i < xs.length) (h : xs.getD i 0 = n) (hb : ∀ j, j < i → xs.getD j 0 ≠ n) : atI xs n = i := by
  have : xs.findIdx? (· == n) = some i := by
    rw [List.findIdx?_eq_some_iff_getElem]
    refine ⟨hi, ?_, fun j hj => ?_⟩
    · simpa [hi] using h
    · have := hb j hj
      simpa [show j < xs.length by omega] using this
  rw [atI, this]
theorem atI_none {xs : List Int} {n : Int} (hb : ∀ j, j < xs.length → xs.getD j 0 ≠ n) : atI xs n = -1 := by
  have : xs.findIdx? (· == n) = none := by
    rw [List.findIdx?_eq_none_iff]
    intro x hx
    obtain ⟨j, hj, rfl⟩ := List.getElem_of_mem hx
    have := hb j hj
    simpa [hj] using this
  rw [atI, this]
set_option maxRecDepth 10000 in
theorem at_any (xs : List Int) (n : Int) (a : Option Addr) (c : Nat) (w : World) (h : IsRows w (.slice a xs.length c) 1 (xs.map intRow)) (hl : xs.length ≤ 1000000) :
    Calls Try.prog 60 #[.slice a xs.length c, .int .i64 n] w fun e w' => e = .returned (.int .i64 (atI xs n)) ∧ Ext [] w w' := by
  have HS := Lib.hid (slAt_of_rows h 0)
  have E : Ext [] w w := Ext.refl _ _
  refine calls_has 19 Try.func60 rfl Try.ntmps60 (Nat.le_of_ble_eq_true rfl) ?_
  intro fa F
  refine wp_seq_k fun K1 hK1 => ?_
  refine wp_region_lit ?_
  refine sq_val F rfl (by decide) rfl (R_assign rfl (ev_c fa _)) ?_; clear F fa; intro fa F
  refine wpList_nil ?_
  refine hK1 _ _ ?_
  clear hK1
  refine wp_seq_k fun K2 hK2 => ?_
  refine wp_seq_k fun K3 hK3 => ?_
  refine wp_region_lit ?_
  refine sq_val F rfl (by decide) rfl (R_assign rfl (ev_c fa _)) ?_; clear F fa; intro fa F
  refine wpList_nil ?_
  refine hK3 _ _ ?_
  clear hK3
  refine wp_block ?_
  have F0 := F.sub (.c 0 rfl (.c 1 rfl .n))
  refine lp_for F0 (xs.length) (fun i Lv W => Lv = [(5, .int .i64 ((i : Nat) : Int))] ∧ Ext [] w W ∧ ∀ j, j < i → xs.getD j 0 ≠ n) ⟨_, ⟨rfl, Ext.refl _ _, fun j hj => absurd hj (by omega)⟩, F.sub (.c 5 rfl (.c 0 rfl (.c 1 rfl .n)))⟩ ?_
  clear F F0
  rintro i _ fa w1 hi1 ⟨rfl, EL1, hb⟩ F
  have E := E.nil EL1
  refine wp_seq_k fun K4 hK4 => ?_
  refine wp_seq_k fun K5 hK5 => ?_
  refine wp_region_lit ?_
  refine sq_val F rfl (by decide) rfl (R_move rfl (F.at rfl)) ?_; clear F fa; intro fa F
  refine sq_val F rfl (by decide) rfl (R_move rfl (F.at rfl)) ?_; clear F fa; intro fa F
  refine sq_val F rfl (by decide) rfl (R_len rfl rfl (F.at rfl) Try.underlying29) ?_; clear F fa; intro fa F
  refine sq_val F rfl (by decide) rfl (R_lss rfl (F.at rfl) (F.at rfl)) ?_; clear F fa; intro fa F
  refine wpList_nil ?_
  refine hK5 _ _ ?_
  clear hK5
  refine cd_if F rfl (fun hc9 => ?_) (fun hc9 => ?_)
  · skip
    refine wp_skip ?_
    refine hK4 _ _ ?_
    clear hK4
    refine wp_seq_k fun K6 hK6 => ?_
    refine wp_block ?_
    refine wp_seq_k fun K7 hK7 => ?_
    refine wp_region_lit ?_
    refine sq_val F rfl (by decide) rfl (R_move rfl (F.at rfl)) ?_; clear F fa; intro fa F
    refine sq_val F rfl (by decide) rfl (R_move rfl (F.at rfl)) ?_; clear F fa; intro fa F
    obtain ⟨xb8, xo8, xa8, xr8⟩ := HS.out i (by omega)
    refine sq_val F rfl (by decide) rfl (R_ixSlice (sz := 1) rfl ((F.at rfl).trans (xa8 _ _)) (F.at rfl) Try.underlying29 (by kernel_rfl) (by omega) (by omega)) ?_; clear F fa; intro fa F
    refine sq_val F rfl (by decide) rfl (R_load rfl (F.at rfl) Try.underlying3 rfl (xr8 _ E 0 _ rfl)) ?_; clear F fa; intro fa F
    refine sq_val F rfl (by decide) rfl (R_move rfl (F.at rfl)) ?_; clear F fa; intro fa F
    refine sq_val F rfl (by decide) rfl (R_eqlD rfl (F.at rfl) (F.at rfl)) ?_; clear F fa; intro fa F
    refine wpList_nil ?_
    refine hK7 _ _ ?_
    clear hK7
    refine cd_if F rfl (fun hc17 => ?_) (fun hc17 => ?_)
    · skip
      refine wp_seq_k fun K9 hK9 => ?_
      refine wp_region_lit ?_
      refine sq_val F rfl (by decide) rfl (R_move rfl (F.at rfl)) ?_; clear F fa; intro fa F
      refine sq_val F rfl (by decide) rfl (R_assign rfl (F.at rfl)) ?_; clear F fa; intro fa F
      refine wpList_nil ?_
      refine hK9 _ _ ?_
      clear hK9
      refine wp_ret ?_
      (try simp only [Exit.inBlock, Exit.then])
      refine rt_v F (rs_1 F rfl rfl) ?_
      exact ⟨ret_int (atI_some (by omega) hc17 hb).symm, E⟩
    · skip
      refine wp_skip ?_
      refine hK6 _ _ ?_
      clear hK6
      refine wp_region_lit ?_
      refine sq_val F rfl (by decide) rfl (R_move rfl (F.at rfl)) ?_; clear F fa; intro fa F
      refine sq_val F rfl (by decide) rfl (R_add rfl (F.at rfl) (ev_c fa _) (by omega) (by omega)) ?_; clear F fa; intro fa F
      refine sq_val F rfl (by decide) rfl (R_assign rfl (F.at rfl)) ?_; clear F fa; intro fa F
      refine wpList_nil ?_
      show _ ∧ _
      exact ⟨by omega, _, ⟨rfl, EL1, fun j hj => if e : j = i then e ▸ hc17 else hb j (by omega)⟩, F.sub (.c 5 rfl (.c 0 rfl (.c 1 rfl .n)))⟩
  · skip
    refine wp_exit ?_
    refine hK2 _ _ ?_
    clear hK2
    refine wp_seq_k fun K10 hK10 => ?_
    refine wp_region_lit ?_
    refine sq_val F rfl (by decide) rfl (R_assign rfl (ev_c fa _)) ?_; clear F fa; intro fa F
    refine wpList_nil ?_
    refine hK10 _ _ ?_
    clear hK10
    refine wp_ret ?_
    (try simp only [Exit.inBlock, Exit.then])
    refine rt_v F (rs_1 F rfl rfl) ?_
    exact ⟨ret_int (atI_none fun j hj => hb j (by omega)).symm, E⟩
theorem negative_any (a b : Int) (w : World) (h1 : -1000000 ≤ a) (h2 : a ≤ 1000000) (h3 : -1000000 ≤ b) (h4 : b ≤ 1000000) :
    Calls Try.prog 56 #[.agg #[.int .i64 a, .int .i64 b]] w fun e w' => e = .returned (.agg #[.int .i64 (-b), .int .i64 (-a)]) ∧ Ext [] w w' := by
  have E : Ext [] w w := Ext.refl _ _
  refine calls_has 10 Try.func56 rfl Try.ntmps56 (Nat.le_of_ble_eq_true rfl) ?_
  intro fa F
  refine wp_seq_k fun K1 hK1 => ?_
  refine wp_region_lit ?_
  refine sq_new F rfl (by decide) rfl (R_box rfl (F.at rfl)) ?_; clear F fa; intro fa w1 F hw
  obtain ⟨n1, hn⟩ : ∃ n, n = w.heap.size := ⟨_, rfl⟩
  rw [← hn] at F
  have l1_E : w.heap.size ≤ n1 := by rw [hn]; exact E.size
  replace E := ext_alloc E hw
  have q1 := new_row hw hn
  clear hw hn
  refine sq_new F rfl (by decide) rfl (R_alloc rfl Try.zeroValue23) ?_; clear F fa; intro fa w2 F hw
  obtain ⟨n2, hn⟩ : ∃ n, n = w1.heap.size := ⟨_, rfl⟩
  rw [← hn] at F
  have l2_E : w.heap.size ≤ n2 := by rw [hn]; exact E.size
  have m2_1 : n1 < n2 := by rw [hn]; exact blk_lt q1
  replace q1 := keep_alloc hw q1
  replace E := ext_alloc E hw
  have q2 := new_row hw hn
  clear hw hn
  refine wpList_nil ?_
  refine hK1 _ _ ?_
  clear hK1
  refine wp_seq_k fun K2 hK2 => ?_
  refine wp_region_lit ?_
  refine sq_val F rfl (by decide) rfl (R_field rfl (F.at rfl) Try.underlying23 rfl (n := 1) (sz := 1) rfl (by kernel_rfl) (by decide)) ?_; clear F fa; intro fa F
  refine sq_val F rfl (by decide) rfl (R_load rfl (F.at rfl) Try.underlying3 rfl ((cells_of_block q1 1).trans (getS (get0)))) ?_; clear F fa; intro fa F
  refine sq_val F rfl (by decide) rfl (R_neg rfl (F.at rfl) (by omega) (by omega)) ?_; clear F fa; intro fa F
  refine sq_val F rfl (by decide) rfl (R_field rfl (F.at rfl) Try.underlying23 rfl (n := 0) (sz := 1) rfl (by kernel_rfl) (by decide)) ?_; clear F fa; intro fa F
  refine sq_val F rfl (by decide) rfl (R_load rfl (F.at rfl) Try.underlying3 rfl ((cells_of_block q1 0).trans (get0))) ?_; clear F fa; intro fa F
  refine sq_val F rfl (by decide) rfl (R_neg rfl (F.at rfl) (by omega) (by omega)) ?_; clear F fa; intro fa F
  refine sq_val F rfl (by decide) rfl (R_buildV rfl (prS (F.at rfl) (prS (F.at rfl) pr0)) (cells := #[.int .i64 (-b), .int .i64 (-a)]) (by kernel_rfl)) ?_; clear F fa; intro fa F
  refine sq_to rfl rfl (R_storeRow rfl (F.at rfl) (F.at rfl) (by kernel_rfl) (by simp [Value.oneCell']) q2 rfl) ?_; intro w3 hw
  replace q1 := keep_cells hw q1 (by omega)
  replace q2 := put_row hw q2 rfl
  replace E := ext_cells E hw (fun h => by first | exact absurd h (by omega) | simp)
  clear hw
  refine wpList_nil ?_
  refine hK2 _ _ ?_
  clear hK2
  refine wp_ret ?_
  (try simp only [Exit.inBlock, Exit.then])
  refine rt_v F (rs_c F rfl rfl Try.underlying23 rfl (by kernel_rfl) q2) ?_
  exact ⟨rfl, E⟩
end Go.Proofs.Ytholfdgebdlgjaa
