/- Copies, comparisons and places of lists of numbers, whatever the seat. No conditions. -/
import Derived.Test.YtdjeecgddbjbeaaDlt
namespace Go.Proofs.Ytdjeecgddbjbeaa
open Go.RowKit
set_option linter.unusedVariables false
set_option linter.unusedSimpArgs false
theorem intRow_one (x : Int) : ∀ u ∈ intRow x, u.oneCell' = true := by simp [intRow, Value.oneCell']
set_option maxRecDepth 100000 in
theorem copyInts_any {xs : List Int} {v : Value} {w : World} (h : RowOf w v xs) (hl : xs.length ≤ 1000) :
    Calls Try.prog 19 #[v] w fun e w' => ∃ a c, e = .returned (.slice a xs.length c) ∧ w'.ownsRow w.heap.size 3 1 (.slice a xs.length c) xs.length (ivs xs) ∧ Ext [] w w' := by
  obtain ⟨xa, xc, rfl, hx⟩ := h
  have E : Ext [] w w := Ext.refl _ _
  have HX := Lib.hid hx
  clear hx
  refine calls_has 6 Try.func19 rfl Try.ntmps19 (Nat.le_of_ble_eq_true rfl) ?_
  intro fa F
  refine wp_seq_k fun K1 hK1 => ?_
  refine wp_region_lit ?_
  refine F.vl (R_assign rfl (ev_c fa _)) ?_; clear F fa; intro fa F
  refine wpList_nil ?_
  refine hK1 _ _ ?_
  clear hK1
  refine wp_seq_k fun K2 hK2 => ?_
  refine wp_region_lit ?_
  refine sq_new F rfl (by decide) rfl (R_buildSlice0 rfl Try.underlying25 (size := 1) (by kernel_rfl)) ?_; clear F fa; intro fa w1 F hw
  obtain ⟨n3, hn⟩ : ∃ n, n = w.heap.size := ⟨_, rfl⟩
  rw [← hn] at F
  have s3 : w.heap.size ≤ n3 := Nat.le_of_eq hn.symm
  have l3_E : w.heap.size ≤ n3 := by rw [hn]; exact E.size
  replace E := ext_alloc E hw
  have q3 := new_block hw hn
  clear hw hn
  refine F.mv ?_; clear F fa; intro fa F
  have ho := owns_empty (base := w.heap.size) (size := 1) q3 (by omega)
  have hbl := blk_lt q3
  clear q3
  refine sq_some F rfl (by decide) rfl (appends_run rfl (w.heap.size) (e := 3) (size := 1) (bytes := 8) Try.underlying25 (by kernel_rfl) (by decide) (F.at rfl) ho (F.at rfl) (srcAt_of_rows (HX.out.ext E (by simp)) (by decide) (fun _ => rfl) intRow_one) (by omega) (by omega) (by omega)) ?_; clear F fa; rintro fa v' w2 F ⟨hown', hg⟩
  rw [Nat.zero_add, List.nil_append] at hown'
  clear hbl
  obtain ⟨va5, vc5, rfl⟩ := owns_slice hown'
  replace E := ext_appendX E ho hg (by omega)
  replace ho := hown'
  clear hg
  rw [← ivs_flat] at ho
  refine F.as ?_; clear F fa; intro fa F
  refine wpList_nil ?_
  refine hK2 _ _ ?_
  clear hK2
  refine wp_ret ?_
  (try simp only [Exit.inBlock, Exit.then, reduceIte])
  refine rt_v F (rs_1 F rfl rfl) ?_
  exact ⟨va5, vc5, rfl, ho, E⟩
theorem atI_some {xs : List Int} {n : Int} {i : Nat} (hi : i < xs.length) (h : xs.getD i 0 = n) (hb : ∀ j, j < i → xs.getD j 0 ≠ n) : atI xs n = i := by
  have : xs.findIdx? (· == n) = some i := by
    rw [List.findIdx?_eq_some_iff_getElem]
    refine ⟨hi, ?_, fun j hj => ?_⟩
    · simpa [hi] using h
    · have := hb j hj
      simpa [show j < xs.length by omega] using this
  rw [atI, this]
theorem atI_none {xs : List Int} {n : Int} (hb : ∀ j, j < xs.length → xs.getD j 0 ≠ n) : atI xs n = -1 := by
  have : xs.findIdx? (· == n) = none := by
    rw [List.findIdx?_eq_none_iff]
    intro x hx
    obtain ⟨j, hj, rfl⟩ := List.getElem_of_mem hx
    have := hb j hj
    simpa [hj] using this
  rw [atI, this]
set_option maxRecDepth 10000 in
theorem at_any (xs : List Int) (n : Int) (a : Option Addr) (c : Nat) (w : World) (h : IsRows w (.slice a xs.length c) 1 (xs.map intRow)) (hl : xs.length ≤ 1000000) :
    Calls Try.prog 43 #[.slice a xs.length c, .int .i64 n] w fun e w' => e = .returned (.int .i64 (atI xs n)) ∧ Ext [] w w' := by
  have HS := Lib.hid (slAt_of_rows h 0)
  have E : Ext [] w w := Ext.refl _ _
  refine calls_has 19 Try.func43 rfl Try.ntmps43 (Nat.le_of_ble_eq_true rfl) ?_
  intro fa F
  refine wp_seq_k fun K1 hK1 => ?_
  refine wp_region_lit ?_
  refine F.vl (R_assign rfl (ev_c fa _)) ?_; clear F fa; intro fa F
  refine wpList_nil ?_
  refine hK1 _ _ ?_
  clear hK1
  refine wp_seq_k fun K2 hK2 => ?_
  refine wp_seq_k fun K3 hK3 => ?_
  refine wp_region_lit ?_
  refine F.vl (R_assign rfl (ev_c fa _)) ?_; clear F fa; intro fa F
  refine wpList_nil ?_
  refine hK3 _ _ ?_
  clear hK3
  refine wp_block ?_
  have F0 := F.sub (.c 0 rfl (.c 1 rfl .n))
  refine lp_for F0 (xs.length) (fun i Lv W => Lv = [(5, .int .i64 ((i : Nat) : Int))] ∧ Ext [] w W ∧ ∀ j, j < i → xs.getD j 0 ≠ n) ⟨_, ⟨rfl, Ext.refl _ _, fun j hj => absurd hj (by omega)⟩, F.sub (.c 5 rfl (.c 0 rfl (.c 1 rfl .n)))⟩ ?_
  clear F F0
  rintro i _ fa w1 hi1 ⟨rfl, EL1, hb⟩ F
  have E := E.nil EL1
  refine wp_seq_k fun K4 hK4 => ?_
  refine wp_seq_k fun K5 hK5 => ?_
  refine wp_region_lit ?_
  refine F.mv ?_; clear F fa; intro fa F
  refine F.mv ?_; clear F fa; intro fa F
  refine F.vl (R_len rfl rfl (F.at rfl) Try.underlying25) ?_; clear F fa; intro fa F
  refine F.vl (R_lss rfl (F.at rfl) (F.at rfl)) ?_; clear F fa; intro fa F
  refine wpList_nil ?_
  refine hK5 _ _ ?_
  clear hK5
  refine cd_if F rfl (fun hc9 => ?_) (fun hc9 => ?_)
  · skip
    refine wp_skip ?_
    refine hK4 _ _ ?_
    clear hK4
    refine wp_seq_k fun K6 hK6 => ?_
    refine wp_block ?_
    refine wp_seq_k fun K7 hK7 => ?_
    refine wp_region_lit ?_
    refine F.mv ?_; clear F fa; intro fa F
    refine F.mv ?_; clear F fa; intro fa F
    obtain ⟨xb8, xo8, xa8, xr8⟩ := HS.out i (by omega)
    refine F.vl (R_ixSlice (sz := 1) rfl ((F.at rfl).trans (xa8 _ _)) (F.at rfl) Try.underlying25 (by kernel_rfl) (by omega) (by omega)) ?_; clear F fa; intro fa F
    refine F.vl (R_load rfl (F.at rfl) Try.underlying3 rfl (xr8 _ E 0 _ rfl)) ?_; clear F fa; intro fa F
    refine F.mv ?_; clear F fa; intro fa F
    refine F.vl (R_eqlD rfl (F.at rfl) (F.at rfl)) ?_; clear F fa; intro fa F
    refine wpList_nil ?_
    refine hK7 _ _ ?_
    clear hK7
    refine cd_if F rfl (fun hc17 => ?_) (fun hc17 => ?_)
    · skip
      refine wp_seq_k fun K9 hK9 => ?_
      refine wp_region_lit ?_
      refine F.mv ?_; clear F fa; intro fa F
      refine F.as ?_; clear F fa; intro fa F
      refine wpList_nil ?_
      refine hK9 _ _ ?_
      clear hK9
      refine wp_ret ?_
      (try simp only [Exit.inBlock, Exit.then, reduceIte])
      refine rt_v F (rs_1 F rfl rfl) ?_
      exact ⟨ret_int (atI_some (by omega) hc17 hb).symm, E⟩
    · skip
      refine wp_skip ?_
      refine hK6 _ _ ?_
      clear hK6
      refine wp_region_lit ?_
      refine F.mv ?_; clear F fa; intro fa F
      refine F.vl (R_add rfl (F.at rfl) (ev_c fa _) (by omega) (by omega)) ?_; clear F fa; intro fa F
      refine F.as ?_; clear F fa; intro fa F
      refine wpList_nil ?_
      show _ ∧ _
      exact ⟨by omega, _, ⟨rfl, EL1, fun j hj => if e : j = i then e ▸ hc17 else hb j (by omega)⟩, F.sub (.c 5 rfl (.c 0 rfl (.c 1 rfl .n)))⟩
  · skip
    refine wp_exit ?_
    refine hK2 _ _ ?_
    clear hK2
    refine wp_seq_k fun K10 hK10 => ?_
    refine wp_region_lit ?_
    refine F.vl (R_assign rfl (ev_c fa _)) ?_; clear F fa; intro fa F
    refine wpList_nil ?_
    refine hK10 _ _ ?_
    clear hK10
    refine wp_ret ?_
    (try simp only [Exit.inBlock, Exit.then, reduceIte])
    refine rt_v F (rs_1 F rfl rfl) ?_
    exact ⟨ret_int (atI_none fun j hj => hb j (by omega)).symm, E⟩
theorem slAt_ext {w w' : World} {a : Option Addr} {sz n : Nat} {row : Nat → List Value} (h : SlAt [] w a sz n row) (e : Ext [] w w') : SlAt [] w' a sz n row := fun i hi => by
  obtain ⟨xb, xo, h1, h2⟩ := h i hi
  exact ⟨xb, xo, h1, fun W hW => h2 W (e.nil hW)⟩
/-- A slice of lists of numbers. -/
def LolAt (w : World) (a : Option Addr) (L : List (Value × List Int)) : Prop := SlAt [] w a 1 L.length (fun i => [(L.getD i (.bool true, [])).1]) ∧ ∀ p ∈ L, RowOf w p.1 p.2
theorem LolAt.ext {w W : World} {a : Option Addr} {L : List (Value × List Int)} (h : LolAt w a L) (e : Ext [] w W) : LolAt W a L := ⟨slAt_ext h.1 e, fun p hp => (h.2 p hp).ext e⟩
set_option maxRecDepth 100000 in
theorem sameInts_any (xs ys : List Int) (a b : Option Addr) (ca cb : Nat) (w : World) (hx : IsRows w (.slice a xs.length ca) 1 (xs.map intRow)) (hy : IsRows w (.slice b ys.length cb) 1 (ys.map intRow)) (h1 : xs.length ≤ 1000000) (h2 : ys.length ≤ 1000000) :
    Calls Try.prog 22 #[.slice a xs.length ca, .slice b ys.length cb] w fun e w' => e = .returned (.bool (decide (xs = ys))) ∧ Ext [] w w' := by
  have HS := Lib.hid (slAt_of_rows hx 0)
  have HU := Lib.hid (slAt_of_rows hy 0)
  have E : Ext [] w w := Ext.refl _ _
  clear hx hy
  refine calls_has 26 Try.func22 rfl Try.ntmps22 (Nat.le_of_ble_eq_true rfl) ?_
  intro fa F
  refine wp_seq_k fun K1 hK1 => ?_
  refine wp_region_lit ?_
  refine F.vl (R_assign rfl (ev_c fa _)) ?_; clear F fa; intro fa F
  refine wpList_nil ?_
  refine hK1 _ _ ?_
  clear hK1
  refine wp_seq_k fun K2 hK2 => ?_
  refine wp_seq_k fun K3 hK3 => ?_
  refine wp_region_lit ?_
  refine F.mv ?_; clear F fa; intro fa F
  refine F.vl (R_len rfl rfl (F.at rfl) Try.underlying25) ?_; clear F fa; intro fa F
  refine F.mv ?_; clear F fa; intro fa F
  refine F.vl (R_len rfl rfl (F.at rfl) Try.underlying25) ?_; clear F fa; intro fa F
  refine F.vl (R_neqD rfl (F.at rfl) (F.at rfl)) ?_; clear F fa; intro fa F
  refine wpList_nil ?_
  refine hK3 _ _ ?_
  clear hK3
  refine cd_if F rfl (fun hc10 => ?_) (fun hc10 => ?_)
  · skip
    refine wp_seq_k fun K4 hK4 => ?_
    refine wp_region_lit ?_
    refine F.vl (R_assign rfl (ev_c fa _)) ?_; clear F fa; intro fa F
    refine wpList_nil ?_
    refine hK4 _ _ ?_
    clear hK4
    refine wp_ret ?_
    (try simp only [Exit.inBlock, Exit.then, reduceIte])
    refine rt_v F (rs_1 F rfl rfl) ?_
    exact ⟨ret_bool (decide_eq_false fun h => by rw [h] at hc10; omega).symm, E⟩
  · skip
    refine wp_skip ?_
    refine hK2 _ _ ?_
    clear hK2
    refine wp_seq_k fun K5 hK5 => ?_
    refine wp_seq_k fun K6 hK6 => ?_
    refine wp_region_lit ?_
    refine F.vl (R_assign rfl (ev_c fa _)) ?_; clear F fa; intro fa F
    refine wpList_nil ?_
    refine hK6 _ _ ?_
    clear hK6
    refine wp_block ?_
    have F0 := F.sub (.c 0 rfl (.c 1 rfl .n))
    refine lp_for F0 (xs.length) (fun i Lv W => Lv = [(5, .int .i64 ((i : Nat) : Int))] ∧ Ext [] w W ∧ ∀ j, j < i → xs.getD j 0 = ys.getD j 0) ⟨_, ⟨rfl, Ext.refl _ _, fun j hj => absurd hj (by omega)⟩, F.sub (.c 5 rfl (.c 0 rfl (.c 1 rfl .n)))⟩ ?_
    clear F F0
    rintro i _ fa w1 hi1 ⟨rfl, EL1, hb⟩ F
    have E := E.nil EL1
    refine wp_seq_k fun K7 hK7 => ?_
    refine wp_seq_k fun K8 hK8 => ?_
    refine wp_region_lit ?_
    refine F.mv ?_; clear F fa; intro fa F
    refine F.mv ?_; clear F fa; intro fa F
    refine F.vl (R_len rfl rfl (F.at rfl) Try.underlying25) ?_; clear F fa; intro fa F
    refine F.vl (R_lss rfl (F.at rfl) (F.at rfl)) ?_; clear F fa; intro fa F
    refine wpList_nil ?_
    refine hK8 _ _ ?_
    clear hK8
    refine cd_if F rfl (fun hc14 => ?_) (fun hc14 => ?_)
    · skip
      refine wp_skip ?_
      refine hK7 _ _ ?_
      clear hK7
      refine wp_seq_k fun K9 hK9 => ?_
      refine wp_block ?_
      refine wp_seq_k fun K10 hK10 => ?_
      refine wp_region_st 8 follows (by kernel_rfl) fun w2 hh eh => ?_
      replace E := ext_same E eh
      replace EL1 := ext_same EL1 eh
      clear hh eh
      refine F.smv ?_; clear F fa; intro fa F
      refine F.smv ?_; clear F fa; intro fa F
      obtain ⟨xb11, xo11, xa11, xr11⟩ := HS.out i (by omega)
      refine F.sv (R_ixSlice (sz := 1) rfl ((F.at rfl).trans (xa11 _ _)) (F.at rfl) Try.underlying25 (by kernel_rfl) (by omega) (by omega)) ?_; clear F fa; intro fa F
      refine F.sv (R_load rfl (F.at rfl) Try.underlying3 rfl (xr11 _ E 0 _ rfl)) ?_; clear F fa; intro fa F
      refine F.smv ?_; clear F fa; intro fa F
      refine F.smv ?_; clear F fa; intro fa F
      obtain ⟨xb12, xo12, xa12, xr12⟩ := HU.out i (by omega)
      refine F.sv (R_ixSlice (sz := 1) rfl ((F.at rfl).trans (xa12 _ _)) (F.at rfl) Try.underlying25 (by kernel_rfl) (by omega) (by omega)) ?_; clear F fa; intro fa F
      refine F.sv (R_load rfl (F.at rfl) Try.underlying3 rfl (xr12 _ E 0 _ rfl)) ?_; clear F fa; intro fa F
      refine wpStill_nil ?_
      refine F.vl (R_neqD rfl (F.at rfl) (F.at rfl)) ?_; clear F fa; intro fa F
      refine wpList_nil ?_
      refine hK10 _ _ ?_
      clear hK10
      refine cd_if F rfl (fun hc25 => ?_) (fun hc25 => ?_)
      · skip
        refine wp_seq_k fun K13 hK13 => ?_
        refine wp_region_lit ?_
        refine F.vl (R_assign rfl (ev_c fa _)) ?_; clear F fa; intro fa F
        refine wpList_nil ?_
        refine hK13 _ _ ?_
        clear hK13
        refine wp_ret ?_
        (try simp only [Exit.inBlock, Exit.then, reduceIte])
        refine rt_v F (rs_1 F rfl rfl) ?_
        exact ⟨ret_bool (decide_eq_false fun h => hc25 (by rw [h])).symm, E⟩
      · skip
        refine wp_skip ?_
        refine hK9 _ _ ?_
        clear hK9
        refine wp_region_lit ?_
        refine F.mv ?_; clear F fa; intro fa F
        refine F.vl (R_add rfl (F.at rfl) (ev_c fa _) (by omega) (by omega)) ?_; clear F fa; intro fa F
        refine F.as ?_; clear F fa; intro fa F
        refine wpList_nil ?_
        show _ ∧ _
        exact ⟨by omega, _, ⟨rfl, EL1, fun j hj => if e : j = i then e ▸ (by simpa using hc25) else hb j (by omega)⟩, F.sub (.c 5 rfl (.c 0 rfl (.c 1 rfl .n)))⟩
    · skip
      refine wp_exit ?_
      refine hK5 _ _ ?_
      clear hK5
      refine wp_seq_k fun K14 hK14 => ?_
      refine wp_region_lit ?_
      refine F.vl (R_assign rfl (ev_c fa _)) ?_; clear F fa; intro fa F
      refine wpList_nil ?_
      refine hK14 _ _ ?_
      clear hK14
      refine wp_ret ?_
      (try simp only [Exit.inBlock, Exit.then, reduceIte])
      refine rt_v F (rs_1 F rfl rfl) ?_
      exact ⟨ret_bool (decide_eq_true (List.ext_getElem (by omega) fun j h1 h2 => by have := hb j (by omega); simpa [h1, h2] using this)).symm, E⟩
set_option maxRecDepth 100000 in
theorem sameLists_yes (L M : List (Value × List Int)) (he : L.map (·.2) = M.map (·.2)) (hs : ∀ p ∈ M, p.2.length ≤ 1000) (hm : M.length ≤ 1000) (a b : Option Addr) (ca cb : Nat) (w : World) (h : LolAt w a L) (k : LolAt w b M) :
    Calls Try.prog 32 #[.slice a L.length ca, .slice b M.length cb] w fun e w' => e = .returned (.bool true) ∧ Ext [] w w' := by
  have E : Ext [] w w := Ext.refl _ _
  have hl : L.length = M.length := by have := congrArg List.length he; simpa using this
  have HL := Lib.hid h
  have HM := Lib.hid k
  have HS := Lib.hid h.1
  have HU := Lib.hid k.1
  have HE := Lib.hid he
  clear h k he
  refine calls_has 27 Try.func32 rfl Try.ntmps32 (Nat.le_of_ble_eq_true rfl) ?_
  intro fa F
  refine wp_seq_k fun K1 hK1 => ?_
  refine wp_region_lit ?_
  refine F.vl (R_assign rfl (ev_c fa _)) ?_; clear F fa; intro fa F
  refine wpList_nil ?_
  refine hK1 _ _ ?_
  clear hK1
  refine wp_seq_k fun K2 hK2 => ?_
  refine wp_seq_k fun K3 hK3 => ?_
  refine wp_region_lit ?_
  refine F.mv ?_; clear F fa; intro fa F
  refine F.vl (R_len rfl rfl (F.at rfl) Try.underlying22) ?_; clear F fa; intro fa F
  refine F.mv ?_; clear F fa; intro fa F
  refine F.vl (R_len rfl rfl (F.at rfl) Try.underlying22) ?_; clear F fa; intro fa F
  refine F.vl (R_neqB (b := false) rfl (F.at rfl) (F.at rfl) (decide_eq_true ((by omega)))) ?_; clear F fa; intro fa F
  refine wpList_nil ?_
  refine hK3 _ _ ?_
  clear hK3
  refine cd_F F rfl ?_
  refine wp_skip ?_
  refine hK2 _ _ ?_
  clear hK2
  refine wp_seq_k fun K4 hK4 => ?_
  refine wp_seq_k fun K5 hK5 => ?_
  refine wp_region_lit ?_
  refine F.vl (R_assign rfl (ev_c fa _)) ?_; clear F fa; intro fa F
  refine wpList_nil ?_
  refine hK5 _ _ ?_
  clear hK5
  refine wp_block ?_
  have F0 := F.sub (.c 0 rfl (.c 1 rfl .n))
  refine lp_for F0 (L.length) (fun i Lv W => Lv = [(5, .int .i64 ((i : Nat) : Int))] ∧ Ext [] w W) ⟨_, ⟨rfl, Ext.refl _ _⟩, F.sub (.c 5 rfl (.c 0 rfl (.c 1 rfl .n)))⟩ ?_
  clear F F0
  rintro i _ fa w1 hi1 ⟨rfl, EL1⟩ F
  have E := E.nil EL1
  refine wp_seq_k fun K6 hK6 => ?_
  refine wp_seq_k fun K7 hK7 => ?_
  refine wp_region_lit ?_
  refine F.mv ?_; clear F fa; intro fa F
  refine F.mv ?_; clear F fa; intro fa F
  refine F.vl (R_len rfl rfl (F.at rfl) Try.underlying22) ?_; clear F fa; intro fa F
  refine F.vl (R_lss rfl (F.at rfl) (F.at rfl)) ?_; clear F fa; intro fa F
  refine wpList_nil ?_
  refine hK7 _ _ ?_
  clear hK7
  refine cd_if F rfl (fun hc14 => ?_) (fun hc14 => ?_)
  · skip
    refine wp_skip ?_
    refine hK6 _ _ ?_
    clear hK6
    refine wp_seq_k fun K8 hK8 => ?_
    refine wp_block ?_
    refine wp_seq_k fun K9 hK9 => ?_
    obtain ⟨la, lca, hla, hlr⟩ := HL.out.2 _ (getD_mem (.bool true, []) (show i < L.length by omega))
    obtain ⟨ma, mca, hma, hmr⟩ := HM.out.2 _ (getD_mem (.bool true, []) (show i < M.length by omega))
    have hsame : (L.getD i (.bool true, [])).2 = (M.getD i (.bool true, [])).2 := by rw [← getD_key (fun p : Value × List Int => p.2) (.bool true, []) L (show i < L.length by omega), ← getD_key (fun p : Value × List Int => p.2) (.bool true, []) M (show i < M.length by omega), HE.out]
    have hsz := hs _ (getD_mem (.bool true, []) (show i < M.length by omega))
    refine wp_region_st 8 follows (by kernel_rfl) fun w2 hh eh => ?_
    replace E := ext_same E eh
    replace EL1 := ext_same EL1 eh
    clear hh eh
    refine F.smv ?_; clear F fa; intro fa F
    refine F.smv ?_; clear F fa; intro fa F
    obtain ⟨xb10, xo10, xa10, xr10⟩ := HS.out i (by omega)
    refine F.sv (R_ixSlice (sz := 1) rfl ((F.at rfl).trans (xa10 _ _)) (F.at rfl) Try.underlying22 (by kernel_rfl) (by omega) (by omega)) ?_; clear F fa; intro fa F
    refine F.sv (R_load rfl (F.at rfl) Try.underlying25 rfl (xr10 _ E 0 _ rfl)) ?_; clear F fa; intro fa F
    rw [hla] at F
    refine F.smv ?_; clear F fa; intro fa F
    refine F.smv ?_; clear F fa; intro fa F
    obtain ⟨xb11, xo11, xa11, xr11⟩ := HU.out i (by omega)
    refine F.sv (R_ixSlice (sz := 1) rfl ((F.at rfl).trans (xa11 _ _)) (F.at rfl) Try.underlying22 (by kernel_rfl) (by omega) (by omega)) ?_; clear F fa; intro fa F
    refine F.sv (R_load rfl (F.at rfl) Try.underlying25 rfl (xr11 _ E 0 _ rfl)) ?_; clear F fa; intro fa F
    rw [hma] at F
    refine wpStill_nil ?_
    refine sq_call F rfl (by decide) rfl (R_callV rfl rfl Try.call22 (mpS (F.at rfl) (mpS (F.at rfl) mp0))) (sameInts_any _ _ _ _ _ _ _ (hlr.ext E (by simp)) (hmr.ext E (by simp)) (by rw [hsame]; omega) (by omega)) fun e w3 hR => ?_
    obtain ⟨rfl, e9⟩ := hR
    refine ⟨_, rfl, ?_⟩; clear F fa; intro fa F
    replace E := ext_same E (e9)
    replace EL1 := ext_same EL1 (e9)
    clear e9
    rw [decide_eq_true hsame] at F
    refine F.vl (R_not rfl (F.at rfl)) ?_; clear F fa; intro fa F
    refine wpList_nil ?_
    refine hK9 _ _ ?_
    clear hK9
    refine cd_F F rfl ?_
    refine wp_skip ?_
    refine hK8 _ _ ?_
    clear hK8
    refine wp_region_lit ?_
    refine F.mv ?_; clear F fa; intro fa F
    refine F.vl (R_add rfl (F.at rfl) (ev_c fa _) (by omega) (by omega)) ?_; clear F fa; intro fa F
    refine F.as ?_; clear F fa; intro fa F
    refine wpList_nil ?_
    show _ ∧ _
    exact ⟨by omega, _, ⟨rfl, EL1⟩, F.sub (.c 5 rfl (.c 0 rfl (.c 1 rfl .n)))⟩
  · skip
    refine wp_exit ?_
    refine hK4 _ _ ?_
    clear hK4
    refine wp_seq_k fun K12 hK12 => ?_
    refine wp_region_lit ?_
    refine F.vl (R_assign rfl (ev_c fa _)) ?_; clear F fa; intro fa F
    refine wpList_nil ?_
    refine hK12 _ _ ?_
    clear hK12
    refine wp_ret ?_
    (try simp only [Exit.inBlock, Exit.then, reduceIte])
    refine rt_v F (rs_1 F rfl rfl) ?_
    exact ⟨rfl, E⟩
/-- A copy of lists: rows of one's own. -/
def LisPost (LL : List (List Int)) (w : World) (e : Ending) (w' : World) : Prop := ∃ (M : List (Value × List Int)) (b : Option Addr) (d : Nat), e = .returned (.slice b M.length d) ∧ M.map (·.2) = LL ∧ w'.ownsRow w.heap.size 25 1 (.slice b M.length d) M.length (M.map (·.1)) ∧ FamT w' w.heap.size M ∧ Ext [] w w'
set_option maxRecDepth 100000 in
set_option maxHeartbeats 1000000 in
theorem copyLists_any (L : List (Value × List Int)) (hl : L.length ≤ 1000) (hs : ∀ p ∈ L, p.2.length ≤ 1000) (a : Option Addr) (c : Nat) (w : World) (h : LolAt w a L) :
    Calls Try.prog 27 #[.slice a L.length c] w (LisPost (L.map (·.2)) w) := by
  have E : Ext [] w w := Ext.refl _ _
  have HL := Lib.hid h
  have HS := Lib.hid h.1
  have Hs := Lib.hid hs
  clear h hs
  have oo : w.ownsRow w.heap.size 25 1 (.slice none 0 0) 0 (([] : List (Value × List Int)).map (·.1)) := World.ownsRow_nil _ _ _ _
  have fam : FamT w w.heap.size [] := fam_nil _ _
  refine calls_has 20 Try.func27 rfl Try.ntmps27 (Nat.le_of_ble_eq_true rfl) ?_
  intro fa F
  refine wp_seq_k fun K1 hK1 => ?_
  refine wp_region_lit ?_
  refine F.vl (R_assign rfl (ev_c fa _)) ?_; clear F fa; intro fa F
  refine wpList_nil ?_
  refine hK1 _ _ ?_
  clear hK1
  refine wp_seq_k fun K2 hK2 => ?_
  refine wp_region_lit ?_
  refine F.vl (R_assign rfl (ev_c fa _)) ?_; clear F fa; intro fa F
  refine wpList_nil ?_
  refine hK2 _ _ ?_
  clear hK2
  refine wp_seq_k fun K3 hK3 => ?_
  refine wp_seq_k fun K4 hK4 => ?_
  refine wp_region_lit ?_
  refine F.vl (R_assign rfl (ev_c fa _)) ?_; clear F fa; intro fa F
  refine wpList_nil ?_
  refine hK4 _ _ ?_
  clear hK4
  refine wp_block ?_
  have F0 := F.sub (.c 0 rfl .n)
  refine lp_for F0 (L.length) (fun i Lv W => ∃ va : Option Addr, ∃ vc : Nat, ∃ O : List (Value × List Int), Lv = [(3, .slice va O.length vc), (4, .int .i64 ((i : Nat) : Int))] ∧ Ext [] w W ∧ W.ownsRow w.heap.size 25 1 (.slice va O.length vc) O.length (O.map (·.1)) ∧ FamT W w.heap.size O ∧ O.map (·.2) = (L.map (·.2)).take i) ⟨_, ⟨none, 0, [], rfl, E, oo, fam, rfl⟩, F.sub (.c 3 rfl (.c 4 rfl (.c 0 rfl .n)))⟩ ?_
  clear F F0
  clear E
  clear oo
  clear fam
  rintro i _ fa w1 hi1 ⟨va, vc, O, rfl, E, oo, fam, hO⟩ F
  have hOl : O.length = i := by have := congrArg List.length hO; simp only [List.length_map, List.length_take] at this; omega
  refine wp_seq_k fun K5 hK5 => ?_
  refine wp_seq_k fun K6 hK6 => ?_
  refine wp_region_lit ?_
  refine F.mv ?_; clear F fa; intro fa F
  refine F.mv ?_; clear F fa; intro fa F
  refine F.vl (R_len rfl rfl (F.at rfl) Try.underlying22) ?_; clear F fa; intro fa F
  refine F.vl (R_lss rfl (F.at rfl) (F.at rfl)) ?_; clear F fa; intro fa F
  refine wpList_nil ?_
  refine hK6 _ _ ?_
  clear hK6
  refine cd_if F rfl (fun hc8 => ?_) (fun hc8 => ?_)
  · skip
    refine wp_skip ?_
    refine hK5 _ _ ?_
    clear hK5
    refine wp_seq_k fun K7 hK7 => ?_
    refine wp_block ?_
    obtain ⟨la, lca, hla, hlr⟩ := HL.out.2 _ (getD_mem (.bool true, []) (show i < L.length by omega))
    have hsz := Hs.out _ (getD_mem (.bool true, []) (show i < L.length by omega))
    refine wp_region_lit ?_
    refine F.mv ?_; clear F fa; intro fa F
    refine F.mv ?_; clear F fa; intro fa F
    refine F.mv ?_; clear F fa; intro fa F
    obtain ⟨xb8, xo8, xa8, xr8⟩ := HS.out i (by omega)
    refine F.vl (R_ixSlice (sz := 1) rfl ((F.at rfl).trans (xa8 _ _)) (F.at rfl) Try.underlying22 (by kernel_rfl) (by omega) (by omega)) ?_; clear F fa; intro fa F
    refine F.vl (R_load rfl (F.at rfl) Try.underlying25 rfl (xr8 _ E 0 _ rfl)) ?_; clear F fa; intro fa F
    rw [hla] at F
    have hflt := Lib.hid (fam_lt fam)
    obtain ⟨B1, hB1⟩ : ∃ B1, B1 = w1.heap.size := ⟨_, rfl⟩
    rw [← hB1] at hflt
    have hB1w : w.heap.size ≤ B1 := by rw [hB1]; exact E.size
    refine sq_call F rfl (by decide) rfl (R_callV rfl rfl Try.call19 (mpS (F.at rfl) mp0)) (copyInts_any (xs := (L.getD i (.bool true, [])).2) ⟨la, lca, rfl, hlr.ext E (by simp)⟩ hsz) fun e w2 hR => ?_
    obtain ⟨ra, rc, rfl, ro, eX⟩ := hR
    refine ⟨_, rfl, ?_⟩; clear F fa; intro fa F
    replace oo := owns_ext oo (eX) (by simp)
    replace fam := fam_lift fam fun _ _ _ h => owns_ext h (eX) (by simp)
    replace E := ext_same E (eX)
    rw [← hB1] at ro
    have fam2 := fam_perm (fam_join (b1 := B1) (L := [(Value.slice ra (L.getD i (.bool true, [])).2.length rc, (L.getD i (.bool true, [])).2)]) ⟨fun p hp => (by obtain rfl : p = (Value.slice ra (L.getD i (.bool true, [])).2.length rc, (L.getD i (.bool true, [])).2) := (by simpa using hp); exact ro), List.pairwise_singleton _ _⟩ fam hflt.out hB1w) (M := O ++ [(Value.slice ra (L.getD i (.bool true, [])).2.length rc, (L.getD i (.bool true, [])).2)]) List.perm_append_comm
    clear fam ro
    have fam := fam2
    clear fam2
    refine sq_new F rfl (by decide) rfl (R_buildSliceV rfl (prS (F.at rfl) pr0) Try.underlying22 (size := 1) (by kernel_rfl) (by decide) (by decide) Try.zeroValue25 (cells := #[.slice ra ((L.getD i (.bool true, [])).2.length) rc]) (by kernel_rfl)) ?_; clear F fa; intro fa w3 F hw
    obtain ⟨n17, hn⟩ : ∃ n, n = w2.heap.size := ⟨_, rfl⟩
    rw [← hn] at F
    have s17 : w2.heap.size ≤ n17 := Nat.le_of_eq hn.symm
    have l17_E : w.heap.size ≤ n17 := by rw [hn]; exact E.size
    have o17_oo := Lib.hid (own_ne_new oo hn)
    replace oo := owns_alloc hw oo
    replace fam := fam_lift fam fun _ _ _ h => owns_alloc hw h
    replace E := ext_alloc E hw
    have q17 := new_block hw hn
    clear hw hn
    have hEs := E.size
    refine sq_some F rfl (by decide) rfl (append_run rfl (w.heap.size) (e := 25) (size := 1) (bytes := 24) Try.underlying22 (by kernel_rfl) (by decide) (F.at rfl) oo (F.at rfl) q17 rfl (by simp [Value.oneCell']) (by omega) (by omega) (by omega)) ?_; clear F fa; rintro fa v' w4 F ⟨hown', hg⟩
    obtain ⟨va18, vc18, rfl⟩ := owns_slice hown'
    replace fam := fam_lift fam fun _ _ _ h => owns_other h oo hg (by decide)
    replace E := ext_appendX E oo hg (by omega)
    replace oo := hown'
    clear hg
    obtain ⟨P2, hP2e⟩ : ∃ P2, P2 = O ++ [(Value.slice ra (L.getD i (.bool true, [])).2.length rc, (L.getD i (.bool true, [])).2)] := ⟨_, rfl⟩
    have hPl3 : O.length + 1 = P2.length := by rw [hP2e, List.length_append]; rfl
    have hO3 : P2.map (·.2) = (L.map (·.2)).take (i + 1) := by rw [hP2e, List.map_append, hO, List.take_add_one, List.getElem?_map, List.getElem?_eq_getElem (show i < L.length by omega)]; simp [List.getD_eq_getElem?_getD, List.getElem?_eq_getElem (show i < L.length by omega)]
    rw [show O.map (·.1) ++ [Value.slice ra (L.getD i (.bool true, [])).2.length rc] = P2.map (·.1) by rw [hP2e, List.map_append]; rfl, hPl3] at oo
    rw [hPl3] at F
    rw [← hP2e] at fam
    refine F.as ?_; clear F fa; intro fa F
    refine wpList_nil ?_
    refine hK7 _ _ ?_
    clear hK7
    refine wp_region_lit ?_
    refine F.mv ?_; clear F fa; intro fa F
    refine F.vl (R_add rfl (F.at rfl) (ev_c fa _) (by omega) (by omega)) ?_; clear F fa; intro fa F
    refine F.as ?_; clear F fa; intro fa F
    refine wpList_nil ?_
    show _ ∧ _
    exact ⟨by omega, _, ⟨_, _, _, rfl, E, oo, fam, hO3⟩, F.sub (.c 3 rfl (.c 4 rfl (.c 0 rfl .n)))⟩
  · skip
    refine wp_exit ?_
    obtain rfl : i = L.length := by omega
    refine hK3 _ _ ?_
    clear hK3
    refine wp_seq_k fun K9 hK9 => ?_
    refine wp_region_lit ?_
    refine F.mv ?_; clear F fa; intro fa F
    refine F.as ?_; clear F fa; intro fa F
    refine wpList_nil ?_
    refine hK9 _ _ ?_
    clear hK9
    refine wp_ret ?_
    (try simp only [Exit.inBlock, Exit.then, reduceIte])
    refine rt_v F (rs_1 F rfl rfl) ?_
    exact ⟨O, va, vc, rfl, by rw [hO, List.take_of_length_le (by simp)], oo, fam, E⟩
end Go.Proofs.Ytdjeecgddbjbeaa
