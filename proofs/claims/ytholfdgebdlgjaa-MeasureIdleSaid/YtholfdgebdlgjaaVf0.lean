/- Whether bounds of two tapes are alike; a reading more. No conditions. -/
import Derived.Test.YtholfdgebdlgjaaVd
namespace Go.Proofs.Ytholfdgebdlgjaa
open Go.RowKit
set_option linter.unusedVariables false
set_option linter.unusedSimpArgs false
theorem slAt_of_rowsX {α : Type} {X : List Nat} {w : World} {a : Option Addr} {n c sz : Nat} {xs : List α} {row : α → List Value} (h : IsRows w (.slice a n c) sz (xs.map row)) (k : ∀ W, Ext X w W → IsRows W (.slice a n c) sz (xs.map row)) (d : α) : SlAt X w a sz xs.length (fun i => row (xs.getD i d)) := fun i hi => by
  have hne : xs.map row ≠ [] := by intro e; have := congrArg List.length e; simp at this; rw [this] at hi; simp at hi
  obtain ⟨b, off, h1, -⟩ := h.range rfl hne
  refine ⟨b, off, fun m c => by rw [h1], fun W E => ?_⟩
  obtain ⟨b', off', h1', -, h2⟩ := (k W E).range rfl hne
  rw [h1] at h1'
  cases h1'
  exact h2 i (row (xs.getD i d)) (by simp [hi])
/-- A reading that is valid for tapes. -/
def RdFit (t : Tp) (r : Int × Int × Int × Int) : Prop := 0 ≤ r.1 ∧ r.1 < t.S ∧ 0 ≤ r.2.1 ∧ r.2.1 < t.A ∧ 0 ≤ r.2.2.1 ∧ r.2.2.1 < t.T ∧ 0 ≤ r.2.2.2 ∧ r.2.2.2 ≤ 250
/-- Whether the bounds of x lie within those of t, or are the same. -/
def insP (a b c d : Int) (same : Bool) : Prop := (a ≤ c ∧ d ≤ b) ∧ (same = true → c = a ∧ d = b)
def alikeP (t x : Tp) (same : Bool) : Prop := (∀ i : Nat, (i : Int) < t.S * t.A → insP (mlo t ((i : Int) / t.A) ((i : Int) % t.A)) (mhi t ((i : Int) / t.A) ((i : Int) % t.A)) (mlo x ((i : Int) / t.A) ((i : Int) % t.A)) (mhi x ((i : Int) / t.A) ((i : Int) % t.A)) same) ∧
  (∀ i : Nat, (i : Int) < t.T → insP (plo t (i : Int)) (phi t (i : Int)) (plo x (i : Int)) (phi x (i : Int)) same)
set_option maxRecDepth 100000 in
theorem alike_any {t x : Tp} (ht : t.Live) (hx : x.Live) (hS : x.S = t.S) (hA : x.A = t.A) (hT : x.T = t.T) (same : Bool) (gv rv lv gv' rv' lv' : Value) (w : World) (h : IsTp w gv rv lv t) (h' : IsTp w gv' rv' lv' x) :
    Calls Try.prog 52 #[tpV t gv rv lv, tpV x gv' rv' lv', .bool same] w fun e w' => ∃ r : Bool, e = .returned (.bool r) ∧ (r = true ↔ alikeP t x same) ∧ Ext [] w w' := by
  have HM : Hid (∀ (W : World) (s a : Int), Ext [] w W → 0 ≤ s → s < t.S → 0 ≤ a → a < t.A → Calls Try.prog 33 #[tpV t gv rv lv, .int .i64 s, .int .i64 a] W fun e w' => e = .returned (.tuple #[.agg #[.int .i64 (mlo t s a), .int .i64 (mhi t s a)], .int .i64 0]) ∧ Ext [] W w') :=
    fun W s a e s0 s1 a0 a1 => meas_live ht (h.ext e (by simp)) s0 s1 a0 a1
  have HM' : Hid (∀ (W : World) (s a : Int), Ext [] w W → 0 ≤ s → s < t.S → 0 ≤ a → a < t.A → Calls Try.prog 33 #[tpV x gv' rv' lv', .int .i64 s, .int .i64 a] W fun e w' => e = .returned (.tuple #[.agg #[.int .i64 (mlo x s a), .int .i64 (mhi x s a)], .int .i64 0]) ∧ Ext [] W w') :=
    fun W s a e s0 s1 a0 a1 => meas_live hx (h'.ext e (by simp)) s0 (by omega) a0 (by omega)
  have HP : Hid (∀ (W : World) (i : Int), Ext [] w W → 0 ≤ i → i < t.T → Calls Try.prog 35 #[tpV t gv rv lv, .int .i64 i] W fun e w' => e = .returned (.tuple #[.agg #[.int .i64 (plo t i), .int .i64 (phi t i)], .int .i64 0]) ∧ Ext [] W w') :=
    fun W i e i0 i1 => pull_live ht (h.ext e (by simp)) i0 i1
  have HP' : Hid (∀ (W : World) (i : Int), Ext [] w W → 0 ≤ i → i < t.T → Calls Try.prog 35 #[tpV x gv' rv' lv', .int .i64 i] W fun e w' => e = .returned (.tuple #[.agg #[.int .i64 (plo x i), .int .i64 (phi x i)], .int .i64 0]) ∧ Ext [] W w') :=
    fun W i e i0 i1 => pull_live hx (h'.ext e (by simp)) i0 (by omega)
  have ok := ht.ok
  obtain ⟨hP1, hP2⟩ := ok_prod ok
  have hA1 := ok.A1
  have hT3 := ok.T3
  have E : Ext [] w w := Ext.refl _ _
  unfold tpV at HM HM' HP HP' ⊢
  clear h h'
  refine calls_has 110 Try.func52 rfl Try.ntmps52 (Nat.le_of_ble_eq_true rfl) ?_
  intro fa F
  refine wp_seq_k fun K1 hK1 => ?_
  refine wp_region_lit ?_
  refine sq_new F rfl (by decide) rfl (R_box rfl (F.at rfl)) ?_; clear F fa; intro fa w1 F hw
  obtain ⟨n3, hn⟩ : ∃ n, n = w.heap.size := ⟨_, rfl⟩
  rw [← hn] at F
  have s3 : w.heap.size ≤ n3 := Nat.le_of_eq hn.symm
  have l3_E : w.heap.size ≤ n3 := by rw [hn]; exact E.size
  replace E := ext_alloc E hw
  have q3 := new_row hw hn
  clear hw hn
  refine sq_new F rfl (by decide) rfl (R_box rfl (F.at rfl)) ?_; clear F fa; intro fa w2 F hw
  obtain ⟨n4, hn⟩ : ∃ n, n = w1.heap.size := ⟨_, rfl⟩
  rw [← hn] at F
  have s4 : w1.heap.size ≤ n4 := Nat.le_of_eq hn.symm
  have l4_E : w.heap.size ≤ n4 := by rw [hn]; exact E.size
  have m4_3 : n3 < n4 := by rw [hn]; exact blk_lt q3
  replace q3 := keep_alloc hw q3
  replace E := ext_alloc E hw
  have q4 := new_row hw hn
  clear hw hn
  refine F.vl (R_assign rfl (ev_c fa _)) ?_; clear F fa; intro fa F
  refine wpList_nil ?_
  refine hK1 _ _ ?_
  clear hK1
  refine wp_seq_k fun K2 hK2 => ?_
  refine wp_seq_k fun K3 hK3 => ?_
  refine wp_region_lit ?_
  refine F.vl (R_assign rfl (ev_c fa _)) ?_; clear F fa; intro fa F
  refine wpList_nil ?_
  refine hK3 _ _ ?_
  clear hK3
  refine wp_block ?_
  have F0 := F.sub (.c 2 rfl (.c 3 rfl (.c 4 rfl .n)))
  refine lp_for F0 ((t.S * t.A).toNat) (fun i Lv W => Lv = [(7, .int .i64 ((i : Nat) : Int))] ∧ Ext [] w2 W ∧ ∀ j : Nat, j < i → insP (mlo t ((j : Int) / t.A) ((j : Int) % t.A)) (mhi t ((j : Int) / t.A) ((j : Int) % t.A)) (mlo x ((j : Int) / t.A) ((j : Int) % t.A)) (mhi x ((j : Int) / t.A) ((j : Int) % t.A)) same) ⟨_, ⟨rfl, Ext.refl _ _, fun j hj => absurd hj (by omega)⟩, F.sub (.c 7 rfl (.c 2 rfl (.c 3 rfl (.c 4 rfl .n))))⟩ ?_
  clear F F0
  rintro i _ fa w3 hi1 ⟨rfl, EL1, hall⟩ F
  have q3 := EL1.keep0 q3
  have q4 := EL1.keep0 q4
  have E := E.nil EL1
  refine wp_seq_k fun K4 hK4 => ?_
  refine wp_seq_k fun K5 hK5 => ?_
  refine wp_region_lit ?_
  refine F.mv ?_; clear F fa; intro fa F
  refine F.vl (R_field rfl (F.at rfl) Try.underlying28 rfl (n := 0) (sz := 1) rfl (by kernel_rfl) (by decide)) ?_; clear F fa; intro fa F
  refine F.vl (R_load rfl (F.at rfl) Try.underlying3 rfl ((cells_of_block q3 0).trans (get0))) ?_; clear F fa; intro fa F
  refine F.vl (R_field rfl (F.at rfl) Try.underlying28 rfl (n := 1) (sz := 1) rfl (by kernel_rfl) (by decide)) ?_; clear F fa; intro fa F
  refine F.vl (R_load rfl (F.at rfl) Try.underlying3 rfl ((cells_of_block q3 1).trans (getS (get0)))) ?_; clear F fa; intro fa F
  refine F.vl (R_mul rfl (F.at rfl) (F.at rfl) (by omega) (by omega)) ?_; clear F fa; intro fa F
  refine F.vl (R_lss rfl (F.at rfl) (F.at rfl)) ?_; clear F fa; intro fa F
  refine wpList_nil ?_
  refine hK5 _ _ ?_
  clear hK5
  refine cd_if F rfl (fun hc23 => ?_) (fun hc23 => ?_)
  · skip
    refine wp_skip ?_
    refine hK4 _ _ ?_
    clear hK4
    refine wp_seq_k fun K6 hK6 => ?_
    refine wp_block ?_
    refine wp_seq_k fun K7 hK7 => ?_
    obtain ⟨y1, y2, y3, y4⟩ := nd_in2 (S := t.S) (A := t.A) (x := i) (by omega) (by omega)
    suffices hcut : ∀ (n8 : Nat) (fa : Act) (w11 : World), Has 110 fa [(2, .bool same), (3, .pointer (some ⟨n3, 0, none⟩)), (4, .pointer (some ⟨n4, 0, none⟩)), (7, .int .i64 ((i : Nat) : Int)), (8, .pointer (some ⟨n8, 0, none⟩)), (9, .int .i64 0)] → w11.heap[n3]? = some (.cells #[.int .i64 t.S, .int .i64 t.A, .int .i64 t.T, .int .i64 t.bl, .int .i64 t.bm, .int .i64 t.pl, .int .i64 t.pm, .int .i64 t.sl, gv, rv, lv] 28 (0, 0)) → w11.heap[n4]? = some (.cells #[.int .i64 x.S, .int .i64 x.A, .int .i64 x.T, .int .i64 x.bl, .int .i64 x.bm, .int .i64 x.pl, .int .i64 x.pm, .int .i64 x.sl, gv', rv', lv'] 28 (0, 0)) → w11.heap[n8]? = some (.cells #[.int .i64 (mlo t ((i : Int) / t.A) ((i : Int) % t.A)), .int .i64 (mhi t ((i : Int) / t.A) ((i : Int) % t.A))] 23 (0, 0)) → Ext [] w w11 → Ext [] w2 w11 → w.heap.size ≤ n8 → w2.heap.size ≤ n8 → n3 ≠ n8 → n4 ≠ n8 → K7 fa w11 by
      refine region_x (Ext [] w3) none follows fun w4 hh eh => ?_
      have q3_ := q3
      replace q3 := keep_same hh q3
      have q4_ := q4
      replace q4 := keep_same hh q4
      have E_ := E
      have zEw4 := E.size
      replace E := ext_same E eh
      have EL1_ := EL1
      have zEL1w4 := EL1.size
      replace EL1 := ext_same EL1 eh
      have eT := eh
      clear hh eh
      refine F.xr (i := 0) rfl (fun w' hS => R_loadBlk rfl (F.at rfl) Try.underlying28 rfl (by kernel_rfl) (hS.keep q3_ (by simp))) (fun _ => eT) ?_; clear F fa; intro fa F
      refine F.x (i := 1) rfl (fun w' => R_move rfl (F.at rfl)) (fun _ => eT) ?_; clear F fa; intro fa F
      refine F.x (i := 2) rfl (fun w' => R_field rfl (F.at rfl) Try.underlying28 rfl (n := 1) (sz := 1) rfl (by kernel_rfl) (by decide)) (fun _ => eT) ?_; clear F fa; intro fa F
      refine F.xr (i := 3) rfl (fun w' hS => R_load rfl (F.at rfl) Try.underlying3 rfl ((cells_of_block (hS.keep q3_ (by simp)) 1).trans (getS (get0)))) (fun _ => eT) ?_; clear F fa; intro fa F
      refine F.x (i := 4) rfl (fun w' => R_quoP rfl (F.at rfl) (F.at rfl) (by omega) (by omega) (by omega)) (fun _ => eT) ?_; clear F fa; intro fa F
      refine F.x (i := 5) rfl (fun w' => R_move rfl (F.at rfl)) (fun _ => eT) ?_; clear F fa; intro fa F
      refine F.x (i := 6) rfl (fun w' => R_field rfl (F.at rfl) Try.underlying28 rfl (n := 1) (sz := 1) rfl (by kernel_rfl) (by decide)) (fun _ => eT) ?_; clear F fa; intro fa F
      refine F.xr (i := 7) rfl (fun w' hS => R_load rfl (F.at rfl) Try.underlying3 rfl ((cells_of_block (hS.keep q3_ (by simp)) 1).trans (getS (get0)))) (fun _ => eT) ?_; clear F fa; intro fa F
      refine F.x (i := 8) rfl (fun w' => R_remP rfl (F.at rfl) (F.at rfl) (by omega) (by omega)) (fun _ => eT) ?_; clear F fa; intro fa F
      refine ax_pair (i := 9) (j := 13) (by kernel_rfl) ?_ ?_
      · skip
        refine (op_call F rfl rfl (by decide) rfl (R_callV rfl rfl Try.call33 (mpS (F.at rfl) (mpS (F.at rfl) (mpS (F.at rfl) mp0)))) (HM.out _ _ _ E y1 y2 y3 y4) fun e w5 hR => ?_)
        obtain ⟨rfl, e9⟩ := hR
        refine ⟨_, rfl, ?_⟩; clear F fa; intro fa F
        replace q3 := (e9).keep0 q3
        replace q4 := (e9).keep0 q4
        replace E := ext_same E (e9)
        replace EL1 := ext_same EL1 (e9)
        replace eT := ext_same eT (e9)
        clear e9
        refine ⟨fun _ => eT, ?_⟩
        refine F.x (i := 10) rfl (fun w' => R_move rfl (F.at rfl)) (fun _ => eT) ?_; clear F fa; intro fa F
        refine F.x (i := 11) rfl (fun w' => R_extract rfl (F.at rfl) (get0)) (fun _ => eT) ?_; clear F fa; intro fa F
        refine F.x (i := 12) rfl (fun w' => R_extract rfl (F.at rfl) (getS (get0))) (fun _ => eT) ?_; clear F fa; intro fa F
        refine ax_only (i := 13) (by kernel_rfl) (op_new F rfl rfl (by decide) rfl (R_alloc rfl Try.zeroValue23) ?_); clear F fa; intro fa w6 F hw
        obtain ⟨n8, hn⟩ : ∃ n, n = w5.heap.size := ⟨_, rfl⟩
        rw [← hn] at F
        have s8 : w5.heap.size ≤ n8 := Nat.le_of_eq hn.symm
        have l8_E : w.heap.size ≤ n8 := by rw [hn]; exact E.size
        have l8_EL1 : w2.heap.size ≤ n8 := by rw [hn]; exact EL1.size
        have lT8 : w3.heap.size ≤ n8 := by rw [hn]; exact eT.size
        have m8_3 : n3 < n8 := by rw [hn]; exact blk_lt q3
        have m8_4 : n4 < n8 := by rw [hn]; exact blk_lt q4
        replace q3 := keep_alloc hw q3
        replace q4 := keep_alloc hw q4
        replace E := ext_alloc E hw
        replace EL1 := ext_alloc EL1 hw
        replace eT := ext_alloc eT hw
        have q8 := new_row hw hn
        clear hw hn
        refine ⟨fun _ => eT, ?_⟩
        refine ax_only (i := 14) (by kernel_rfl) (op_to rfl rfl rfl (R_storeRow rfl (F.at rfl) (F.at rfl) (by kernel_rfl) (by first | (simp [Value.oneCell']; done) | (simp [Value.oneCell', grRow, rdRow, lkRow]; done)) q8 rfl) ?_); intro w7 hw
        replace q3 := keep_cells hw q3 (by omega)
        replace q4 := keep_cells hw q4 (by omega)
        replace q8 := put_row hw q8 rfl
        replace E := ext_cells E hw (fun h => by first | exact absurd h (by omega) | simp)
        replace EL1 := ext_cells EL1 hw (fun h => by first | exact absurd h (by omega) | simp)
        replace eT := ext_cells eT hw (fun h => by first | exact absurd h (by omega) | simp)
        clear hw
        refine ⟨fun _ => eT, ?_⟩
        refine F.x (i := 15) rfl (fun w' => R_assign rfl (F.at rfl)) (fun _ => eT) ?_; clear F fa; intro fa F
        refine ax_done (by kernel_rfl) ?_ _
        exact hcut _ _ _ (F.sub (.c 2 rfl (.c 3 rfl (.c 4 rfl (.c 7 rfl (.c 8 rfl (.c 9 rfl .n))))))) q3 q4 q8 E EL1 (by omega) (by omega) (by omega) (by omega)
      · skip
        refine (op_new F rfl rfl (by decide) rfl (R_alloc rfl Try.zeroValue23) ?_); clear F fa; intro fa w8 F hw
        obtain ⟨n8, hn⟩ : ∃ n, n = w4.heap.size := ⟨_, rfl⟩
        rw [← hn] at F
        have s8 : w4.heap.size ≤ n8 := Nat.le_of_eq hn.symm
        have l8_E : w.heap.size ≤ n8 := by rw [hn]; exact E.size
        have l8_EL1 : w2.heap.size ≤ n8 := by rw [hn]; exact EL1.size
        have lT8 : w3.heap.size ≤ n8 := by rw [hn]; exact eT.size
        have m8_3 : n3 < n8 := by rw [hn]; exact blk_lt q3
        have m8_4 : n4 < n8 := by rw [hn]; exact blk_lt q4
        replace q3 := keep_alloc hw q3
        replace q4 := keep_alloc hw q4
        replace E := ext_alloc E hw
        replace EL1 := ext_alloc EL1 hw
        replace eT := ext_alloc eT hw
        have q8 := new_row hw hn
        clear hw hn
        refine ⟨fun _ => eT, ?_⟩
        refine ax_only (i := 9) (by kernel_rfl) (op_call F rfl rfl (by decide) rfl (R_callV rfl rfl Try.call33 (mpS (F.at rfl) (mpS (F.at rfl) (mpS (F.at rfl) mp0)))) (HM.out _ _ _ E y1 y2 y3 y4) fun e w9 hR => ?_)
        obtain ⟨rfl, e9⟩ := hR
        refine ⟨_, rfl, ?_⟩; clear F fa; intro fa F
        replace q3 := (e9).keep0 q3
        replace q4 := (e9).keep0 q4
        replace q8 := (e9).keep0 q8
        replace E := ext_same E (e9)
        replace EL1 := ext_same EL1 (e9)
        replace eT := ext_same eT (e9)
        clear e9
        refine ⟨fun _ => eT, ?_⟩
        refine F.x (i := 10) rfl (fun w' => R_move rfl (F.at rfl)) (fun _ => eT) ?_; clear F fa; intro fa F
        refine F.x (i := 11) rfl (fun w' => R_extract rfl (F.at rfl) (get0)) (fun _ => eT) ?_; clear F fa; intro fa F
        refine F.x (i := 12) rfl (fun w' => R_extract rfl (F.at rfl) (getS (get0))) (fun _ => eT) ?_; clear F fa; intro fa F
        refine ax_only (i := 14) (by kernel_rfl) (op_to rfl rfl rfl (R_storeRow rfl (F.at rfl) (F.at rfl) (by kernel_rfl) (by first | (simp [Value.oneCell']; done) | (simp [Value.oneCell', grRow, rdRow, lkRow]; done)) q8 rfl) ?_); intro w10 hw
        replace q3 := keep_cells hw q3 (by omega)
        replace q4 := keep_cells hw q4 (by omega)
        replace q8 := put_row hw q8 rfl
        replace E := ext_cells E hw (fun h => by first | exact absurd h (by omega) | simp)
        replace EL1 := ext_cells EL1 hw (fun h => by first | exact absurd h (by omega) | simp)
        replace eT := ext_cells eT hw (fun h => by first | exact absurd h (by omega) | simp)
        clear hw
        refine ⟨fun _ => eT, ?_⟩
        refine F.x (i := 15) rfl (fun w' => R_assign rfl (F.at rfl)) (fun _ => eT) ?_; clear F fa; intro fa F
        refine ax_done (by kernel_rfl) ?_ _
        exact hcut _ _ _ (F.sub (.c 2 rfl (.c 3 rfl (.c 4 rfl (.c 7 rfl (.c 8 rfl (.c 9 rfl .n))))))) q3 q4 q8 E EL1 (by omega) (by omega) (by omega) (by omega)
    clear F q3 q4 E EL1 fa
    intro n8  fa w11 F q3 q4 q8 E EL1 l8_E l8_EL1 m8_3 m8_4
    refine hK7 _ _ ?_
    clear hK7
    refine wp_seq_k fun K8 hK8 => ?_
    suffices hcut : ∀ (n10 : Nat) (fa : Act) (w19 : World), Has 110 fa [(2, .bool same), (3, .pointer (some ⟨n3, 0, none⟩)), (4, .pointer (some ⟨n4, 0, none⟩)), (7, .int .i64 ((i : Nat) : Int)), (8, .pointer (some ⟨n8, 0, none⟩)), (9, .int .i64 0), (10, .pointer (some ⟨n10, 0, none⟩)), (11, .int .i64 0)] → w19.heap[n3]? = some (.cells #[.int .i64 t.S, .int .i64 t.A, .int .i64 t.T, .int .i64 t.bl, .int .i64 t.bm, .int .i64 t.pl, .int .i64 t.pm, .int .i64 t.sl, gv, rv, lv] 28 (0, 0)) → w19.heap[n4]? = some (.cells #[.int .i64 x.S, .int .i64 x.A, .int .i64 x.T, .int .i64 x.bl, .int .i64 x.bm, .int .i64 x.pl, .int .i64 x.pm, .int .i64 x.sl, gv', rv', lv'] 28 (0, 0)) → w19.heap[n8]? = some (.cells #[.int .i64 (mlo t ((i : Int) / t.A) ((i : Int) % t.A)), .int .i64 (mhi t ((i : Int) / t.A) ((i : Int) % t.A))] 23 (0, 0)) → w19.heap[n10]? = some (.cells #[.int .i64 (mlo x ((i : Int) / t.A) ((i : Int) % t.A)), .int .i64 (mhi x ((i : Int) / t.A) ((i : Int) % t.A))] 23 (0, 0)) → Ext [] w w19 → Ext [] w2 w19 → w.heap.size ≤ n10 → w2.heap.size ≤ n10 → n3 ≠ n10 → n4 ≠ n10 → n8 ≠ n10 → K8 fa w19 by
      refine region_x (Ext [] w11) none follows fun w12 hh eh => ?_
      have q3_ := q3
      replace q3 := keep_same hh q3
      have q4_ := q4
      replace q4 := keep_same hh q4
      have q8_ := q8
      replace q8 := keep_same hh q8
      have E_ := E
      have zEw12 := E.size
      replace E := ext_same E eh
      have EL1_ := EL1
      have zEL1w12 := EL1.size
      replace EL1 := ext_same EL1 eh
      have eT := eh
      clear hh eh
      refine F.xr (i := 0) rfl (fun w' hS => R_loadBlk rfl (F.at rfl) Try.underlying28 rfl (by kernel_rfl) (hS.keep q4_ (by simp))) (fun _ => eT) ?_; clear F fa; intro fa F
      refine F.x (i := 1) rfl (fun w' => R_move rfl (F.at rfl)) (fun _ => eT) ?_; clear F fa; intro fa F
      refine F.x (i := 2) rfl (fun w' => R_field rfl (F.at rfl) Try.underlying28 rfl (n := 1) (sz := 1) rfl (by kernel_rfl) (by decide)) (fun _ => eT) ?_; clear F fa; intro fa F
      refine F.xr (i := 3) rfl (fun w' hS => R_load rfl (F.at rfl) Try.underlying3 rfl ((cells_of_block (hS.keep q3_ (by simp)) 1).trans (getS (get0)))) (fun _ => eT) ?_; clear F fa; intro fa F
      refine F.x (i := 4) rfl (fun w' => R_quoP rfl (F.at rfl) (F.at rfl) (by omega) (by omega) (by omega)) (fun _ => eT) ?_; clear F fa; intro fa F
      refine F.x (i := 5) rfl (fun w' => R_move rfl (F.at rfl)) (fun _ => eT) ?_; clear F fa; intro fa F
      refine F.x (i := 6) rfl (fun w' => R_field rfl (F.at rfl) Try.underlying28 rfl (n := 1) (sz := 1) rfl (by kernel_rfl) (by decide)) (fun _ => eT) ?_; clear F fa; intro fa F
      refine F.xr (i := 7) rfl (fun w' hS => R_load rfl (F.at rfl) Try.underlying3 rfl ((cells_of_block (hS.keep q3_ (by simp)) 1).trans (getS (get0)))) (fun _ => eT) ?_; clear F fa; intro fa F
      refine F.x (i := 8) rfl (fun w' => R_remP rfl (F.at rfl) (F.at rfl) (by omega) (by omega)) (fun _ => eT) ?_; clear F fa; intro fa F
      refine ax_pair (i := 9) (j := 13) (by kernel_rfl) ?_ ?_
      · skip
        refine (op_call F rfl rfl (by decide) rfl (R_callV rfl rfl Try.call33 (mpS (F.at rfl) (mpS (F.at rfl) (mpS (F.at rfl) mp0)))) (HM'.out _ _ _ E y1 y2 y3 y4) fun e w13 hR => ?_)
        obtain ⟨rfl, e9⟩ := hR
        refine ⟨_, rfl, ?_⟩; clear F fa; intro fa F
        replace q3 := (e9).keep0 q3
        replace q4 := (e9).keep0 q4
        replace q8 := (e9).keep0 q8
        replace E := ext_same E (e9)
        replace EL1 := ext_same EL1 (e9)
        replace eT := ext_same eT (e9)
        clear e9
        refine ⟨fun _ => eT, ?_⟩
        refine F.x (i := 10) rfl (fun w' => R_move rfl (F.at rfl)) (fun _ => eT) ?_; clear F fa; intro fa F
        refine F.x (i := 11) rfl (fun w' => R_extract rfl (F.at rfl) (get0)) (fun _ => eT) ?_; clear F fa; intro fa F
        refine F.x (i := 12) rfl (fun w' => R_extract rfl (F.at rfl) (getS (get0))) (fun _ => eT) ?_; clear F fa; intro fa F
        refine ax_only (i := 13) (by kernel_rfl) (op_new F rfl rfl (by decide) rfl (R_alloc rfl Try.zeroValue23) ?_); clear F fa; intro fa w14 F hw
        obtain ⟨n10, hn⟩ : ∃ n, n = w13.heap.size := ⟨_, rfl⟩
        rw [← hn] at F
        have s10 : w13.heap.size ≤ n10 := Nat.le_of_eq hn.symm
        have l10_E : w.heap.size ≤ n10 := by rw [hn]; exact E.size
        have l10_EL1 : w2.heap.size ≤ n10 := by rw [hn]; exact EL1.size
        have lT10 : w11.heap.size ≤ n10 := by rw [hn]; exact eT.size
        have m10_3 : n3 < n10 := by rw [hn]; exact blk_lt q3
        have m10_4 : n4 < n10 := by rw [hn]; exact blk_lt q4
        have m10_8 : n8 < n10 := by rw [hn]; exact blk_lt q8
        replace q3 := keep_alloc hw q3
        replace q4 := keep_alloc hw q4
        replace q8 := keep_alloc hw q8
        replace E := ext_alloc E hw
        replace EL1 := ext_alloc EL1 hw
        replace eT := ext_alloc eT hw
        have q10 := new_row hw hn
        clear hw hn
        refine ⟨fun _ => eT, ?_⟩
        refine ax_only (i := 14) (by kernel_rfl) (op_to rfl rfl rfl (R_storeRow rfl (F.at rfl) (F.at rfl) (by kernel_rfl) (by first | (simp [Value.oneCell']; done) | (simp [Value.oneCell', grRow, rdRow, lkRow]; done)) q10 rfl) ?_); intro w15 hw
        replace q3 := keep_cells hw q3 (by omega)
        replace q4 := keep_cells hw q4 (by omega)
        replace q8 := keep_cells hw q8 (by omega)
        replace q10 := put_row hw q10 rfl
        replace E := ext_cells E hw (fun h => by first | exact absurd h (by omega) | simp)
        replace EL1 := ext_cells EL1 hw (fun h => by first | exact absurd h (by omega) | simp)
        replace eT := ext_cells eT hw (fun h => by first | exact absurd h (by omega) | simp)
        clear hw
        refine ⟨fun _ => eT, ?_⟩
        refine F.x (i := 15) rfl (fun w' => R_assign rfl (F.at rfl)) (fun _ => eT) ?_; clear F fa; intro fa F
        refine ax_done (by kernel_rfl) ?_ _
        exact hcut _ _ _ (F.sub (.c 2 rfl (.c 3 rfl (.c 4 rfl (.c 7 rfl (.c 8 rfl (.c 9 rfl (.c 10 rfl (.c 11 rfl .n))))))))) q3 q4 q8 q10 E EL1 (by omega) (by omega) (by omega) (by omega) (by omega)
      · skip
        refine (op_new F rfl rfl (by decide) rfl (R_alloc rfl Try.zeroValue23) ?_); clear F fa; intro fa w16 F hw
        obtain ⟨n10, hn⟩ : ∃ n, n = w12.heap.size := ⟨_, rfl⟩
        rw [← hn] at F
        have s10 : w12.heap.size ≤ n10 := Nat.le_of_eq hn.symm
        have l10_E : w.heap.size ≤ n10 := by rw [hn]; exact E.size
        have l10_EL1 : w2.heap.size ≤ n10 := by rw [hn]; exact EL1.size
        have lT10 : w11.heap.size ≤ n10 := by rw [hn]; exact eT.size
        have m10_3 : n3 < n10 := by rw [hn]; exact blk_lt q3
        have m10_4 : n4 < n10 := by rw [hn]; exact blk_lt q4
        have m10_8 : n8 < n10 := by rw [hn]; exact blk_lt q8
        replace q3 := keep_alloc hw q3
        replace q4 := keep_alloc hw q4
        replace q8 := keep_alloc hw q8
        replace E := ext_alloc E hw
        replace EL1 := ext_alloc EL1 hw
        replace eT := ext_alloc eT hw
        have q10 := new_row hw hn
        clear hw hn
        refine ⟨fun _ => eT, ?_⟩
        refine ax_only (i := 9) (by kernel_rfl) (op_call F rfl rfl (by decide) rfl (R_callV rfl rfl Try.call33 (mpS (F.at rfl) (mpS (F.at rfl) (mpS (F.at rfl) mp0)))) (HM'.out _ _ _ E y1 y2 y3 y4) fun e w17 hR => ?_)
        obtain ⟨rfl, e9⟩ := hR
        refine ⟨_, rfl, ?_⟩; clear F fa; intro fa F
        replace q3 := (e9).keep0 q3
        replace q4 := (e9).keep0 q4
        replace q8 := (e9).keep0 q8
        replace q10 := (e9).keep0 q10
        replace E := ext_same E (e9)
        replace EL1 := ext_same EL1 (e9)
        replace eT := ext_same eT (e9)
        clear e9
        refine ⟨fun _ => eT, ?_⟩
        refine F.x (i := 10) rfl (fun w' => R_move rfl (F.at rfl)) (fun _ => eT) ?_; clear F fa; intro fa F
        refine F.x (i := 11) rfl (fun w' => R_extract rfl (F.at rfl) (get0)) (fun _ => eT) ?_; clear F fa; intro fa F
        refine F.x (i := 12) rfl (fun w' => R_extract rfl (F.at rfl) (getS (get0))) (fun _ => eT) ?_; clear F fa; intro fa F
        refine ax_only (i := 14) (by kernel_rfl) (op_to rfl rfl rfl (R_storeRow rfl (F.at rfl) (F.at rfl) (by kernel_rfl) (by first | (simp [Value.oneCell']; done) | (simp [Value.oneCell', grRow, rdRow, lkRow]; done)) q10 rfl) ?_); intro w18 hw
        replace q3 := keep_cells hw q3 (by omega)
        replace q4 := keep_cells hw q4 (by omega)
        replace q8 := keep_cells hw q8 (by omega)
        replace q10 := put_row hw q10 rfl
        replace E := ext_cells E hw (fun h => by first | exact absurd h (by omega) | simp)
        replace EL1 := ext_cells EL1 hw (fun h => by first | exact absurd h (by omega) | simp)
        replace eT := ext_cells eT hw (fun h => by first | exact absurd h (by omega) | simp)
        clear hw
        refine ⟨fun _ => eT, ?_⟩
        refine F.x (i := 15) rfl (fun w' => R_assign rfl (F.at rfl)) (fun _ => eT) ?_; clear F fa; intro fa F
        refine ax_done (by kernel_rfl) ?_ _
        exact hcut _ _ _ (F.sub (.c 2 rfl (.c 3 rfl (.c 4 rfl (.c 7 rfl (.c 8 rfl (.c 9 rfl (.c 10 rfl (.c 11 rfl .n))))))))) q3 q4 q8 q10 E EL1 (by omega) (by omega) (by omega) (by omega) (by omega)
    clear F q3 q4 q8 E EL1 fa
    intro n10  fa w19 F q3 q4 q8 q10 E EL1 l10_E l10_EL1 m10_3 m10_4 m10_8
    refine hK8 _ _ ?_
    clear hK8
    refine wp_seq_k fun K9 hK9 => ?_
    refine wp_region_lit ?_
    refine F.mv ?_; clear F fa; intro fa F
    refine F.vl (R_neqB (b := false) rfl (F.at rfl) (ev_c fa _) (by decide)) ?_; clear F fa; intro fa F
    refine F.mv ?_; clear F fa; intro fa F
    refine F.mv ?_ (hw := (wantT F rfl rfl (by decide) rfl)); clear F fa; intro fa F
    refine F.vl (R_neqB (b := false) rfl (F.at rfl) (ev_c fa _) (by decide)) ?_ (hw := (wantT F rfl rfl (by decide) rfl)); clear F fa; intro fa F
    refine F.vl (R_pickF rfl (F.at rfl) (F.at rfl)) ?_; clear F fa; intro fa F
    refine F.mv ?_; clear F fa; intro fa F
    refine F.vl (R_loadBlk rfl (F.at rfl) Try.underlying23 rfl (by kernel_rfl) q10) ?_ (hw := (wantT F rfl rfl (by decide) rfl)); clear F fa; intro fa F
    refine F.vl (R_loadBlk rfl (F.at rfl) Try.underlying23 rfl (by kernel_rfl) q8) ?_ (hw := (wantT F rfl rfl (by decide) rfl)); clear F fa; intro fa F
    refine sq_call F rfl (by decide) (wantT F rfl rfl (by decide) rfl) (R_callV rfl rfl Try.call115 (mpS (F.at rfl) (mpS (F.at rfl) mp0))) (inside_any _ _ _ _ _) fun e w20 hR => ?_
    obtain ⟨rfl, e9⟩ := hR
    refine ⟨_, rfl, ?_⟩; clear F fa; intro fa F
    replace q3 := (e9).keep0 q3
    replace q4 := (e9).keep0 q4
    replace q8 := (e9).keep0 q8
    replace q10 := (e9).keep0 q10
    replace E := ext_same E (e9)
    replace EL1 := ext_same EL1 (e9)
    clear e9
    refine F.vl (R_notD rfl (F.at rfl)) ?_ (hw := (wantT F rfl rfl (by decide) rfl)); clear F fa; intro fa F
    refine F.vl (R_pickF rfl (F.at rfl) (F.at rfl)) ?_; clear F fa; intro fa F
    refine F.mv ?_; clear F fa; intro fa F
    by_cases hg1 : (¬ ((mlo t ((i : Int) / t.A) ((i : Int) % t.A)) ≤ (mlo x ((i : Int) / t.A) ((i : Int) % t.A)) ∧ (mhi x ((i : Int) / t.A) ((i : Int) % t.A)) ≤ (mhi t ((i : Int) / t.A) ((i : Int) % t.A))))
    · skip
      replace F := F.re (k := 64) rfl (congrArg Value.bool (decide_eq_true hg1))
      refine sq_no F rfl (by decide) (wantF F rfl rfl (by decide) rfl (by decide)) ?_; clear F fa; intro fa F
      refine sq_no F rfl (by decide) (wantF F rfl rfl (by decide) rfl (by decide)) ?_; clear F fa; intro fa F
      refine sq_no F rfl (by decide) (wantU F rfl rfl (by decide) rfl) ?_; clear F fa; intro fa F
      refine sq_no F rfl (by decide) (wantU F rfl rfl (by decide) rfl) ?_; clear F fa; intro fa F
      refine sq_no F rfl (by decide) (wantU F rfl rfl (by decide) rfl) ?_; clear F fa; intro fa F
      refine sq_no F rfl (by decide) (wantF F rfl rfl (by decide) rfl (by decide)) ?_; clear F fa; intro fa F
      refine F.vl (R_pickT rfl (F.at rfl) (ev_c fa _)) ?_; clear F fa; intro fa F
      refine wpList_nil ?_
      refine hK9 _ _ ?_
      clear hK9
      refine cd_T F rfl ?_
      refine wp_seq_k fun K10 hK10 => ?_
      refine wp_region_lit ?_
      refine F.vl (R_assign rfl (ev_c fa _)) ?_; clear F fa; intro fa F
      refine wpList_nil ?_
      refine hK10 _ _ ?_
      clear hK10
      refine wp_ret ?_
      (try simp only [Exit.inBlock, Exit.then])
      refine rt_v F (rs_1 F rfl rfl) ?_
      exact ⟨false, rfl, ⟨fun h => (by cases h), fun h => absurd (h.1 i (by omega)).1 hg1⟩, E⟩
    · skip
      replace F := F.re (k := 64) rfl (congrArg Value.bool (decide_eq_false hg1))
      refine F.mv ?_ (hw := (wantT F rfl rfl (by decide) rfl)); clear F fa; intro fa F
      refine F.mv ?_ (hw := (wantT F rfl rfl (by decide) rfl)); clear F fa; intro fa F
      cases hg2 : same
      · skip
        replace F := F.re (k := 66) rfl (congrArg Value.bool hg2)
        refine sq_no F rfl (by decide) (wantF F rfl rfl (by decide) rfl (by decide)) ?_; clear F fa; intro fa F
        refine sq_no F rfl (by decide) (wantF F rfl rfl (by decide) rfl (by decide)) ?_; clear F fa; intro fa F
        refine sq_no F rfl (by decide) (wantF F rfl rfl (by decide) rfl (by decide)) ?_; clear F fa; intro fa F
        refine F.vl (R_pickF rfl (F.at rfl) (ev_c fa _)) ?_ (hw := (wantT F rfl rfl (by decide) rfl)); clear F fa; intro fa F
        refine F.vl (R_pickF rfl (F.at rfl) (F.at rfl)) ?_; clear F fa; intro fa F
        refine wpList_nil ?_
        refine hK9 _ _ ?_
        clear hK9
        refine cd_F F rfl ?_
        refine wp_skip ?_
        refine hK6 _ _ ?_
        clear hK6
        refine wp_region_lit ?_
        refine F.mv ?_; clear F fa; intro fa F
        refine F.vl (R_add rfl (F.at rfl) (ev_c fa _) (by omega) (by omega)) ?_; clear F fa; intro fa F
        refine F.as ?_; clear F fa; intro fa F
        refine wpList_nil ?_
        have hnow : insP (mlo t ((i : Int) / t.A) ((i : Int) % t.A)) (mhi t ((i : Int) / t.A) ((i : Int) % t.A)) (mlo x ((i : Int) / t.A) ((i : Int) % t.A)) (mhi x ((i : Int) / t.A) ((i : Int) % t.A)) same := by first | exact ⟨Decidable.not_not.1 hg1, fun hs => absurd (hs.symm.trans hg2) (by decide)⟩ | exact ⟨Decidable.not_not.1 hg1, fun _ => Decidable.not_not.1 hc71⟩
        show _ ∧ _
        exact ⟨by omega, _, ⟨rfl, EL1, (fun j hj => if e : j = i then e ▸ hnow else hall j (by omega))⟩, F.sub (.c 7 rfl (.c 2 rfl (.c 3 rfl (.c 4 rfl .n))))⟩
      · skip
        replace F := F.re (k := 66) rfl (congrArg Value.bool hg2)
        refine F.vl (R_loadBlk rfl (F.at rfl) Try.underlying23 rfl (by kernel_rfl) q10) ?_ (hw := (wantT F rfl rfl (by decide) rfl)); clear F fa; intro fa F
        refine F.vl (R_loadBlk rfl (F.at rfl) Try.underlying23 rfl (by kernel_rfl) q8) ?_ (hw := (wantT F rfl rfl (by decide) rfl)); clear F fa; intro fa F
        refine F.vl (R_neqBt (r := decide (¬ ((mlo x ((i : Int) / t.A) ((i : Int) % t.A)) = (mlo t ((i : Int) / t.A) ((i : Int) % t.A)) ∧ (mhi x ((i : Int) / t.A) ((i : Int) % t.A)) = (mhi t ((i : Int) / t.A) ((i : Int) % t.A))))) rfl (F.at rfl) (F.at rfl) (by simp)) ?_ (hw := (wantT F rfl rfl (by decide) rfl)); clear F fa; intro fa F
        refine F.vl (R_pickT rfl (F.at rfl) (F.at rfl)) ?_ (hw := (wantT F rfl rfl (by decide) rfl)); clear F fa; intro fa F
        refine F.vl (R_pickF rfl (F.at rfl) (F.at rfl)) ?_; clear F fa; intro fa F
        refine wpList_nil ?_
        refine hK9 _ _ ?_
        clear hK9
        refine cd_if F rfl (fun hc71 => ?_) (fun hc71 => ?_)
        · skip
          refine wp_seq_k fun K11 hK11 => ?_
          refine wp_region_lit ?_
          refine F.vl (R_assign rfl (ev_c fa _)) ?_; clear F fa; intro fa F
          refine wpList_nil ?_
          refine hK11 _ _ ?_
          clear hK11
          refine wp_ret ?_
          (try simp only [Exit.inBlock, Exit.then])
          refine rt_v F (rs_1 F rfl rfl) ?_
          exact ⟨false, rfl, ⟨fun h => (by cases h), fun h => absurd ((h.1 i (by omega)).2 (by first | exact hg2 | rfl)) hc71⟩, E⟩
        · skip
          refine wp_skip ?_
          refine hK6 _ _ ?_
          clear hK6
          refine wp_region_lit ?_
          refine F.mv ?_; clear F fa; intro fa F
          refine F.vl (R_add rfl (F.at rfl) (ev_c fa _) (by omega) (by omega)) ?_; clear F fa; intro fa F
          refine F.as ?_; clear F fa; intro fa F
          refine wpList_nil ?_
          have hnow : insP (mlo t ((i : Int) / t.A) ((i : Int) % t.A)) (mhi t ((i : Int) / t.A) ((i : Int) % t.A)) (mlo x ((i : Int) / t.A) ((i : Int) % t.A)) (mhi x ((i : Int) / t.A) ((i : Int) % t.A)) same := by first | exact ⟨Decidable.not_not.1 hg1, fun hs => absurd (hs.symm.trans hg2) (by decide)⟩ | exact ⟨Decidable.not_not.1 hg1, fun _ => Decidable.not_not.1 hc71⟩
          show _ ∧ _
          exact ⟨by omega, _, ⟨rfl, EL1, (fun j hj => if e : j = i then e ▸ hnow else hall j (by omega))⟩, F.sub (.c 7 rfl (.c 2 rfl (.c 3 rfl (.c 4 rfl .n))))⟩
  · skip
    refine wp_exit ?_
    refine hK2 _ _ ?_
    clear hK2
    refine wp_seq_k fun K12 hK12 => ?_
    refine wp_seq_k fun K13 hK13 => ?_
    refine wp_region_lit ?_
    refine F.vl (R_assign rfl (ev_c fa _)) ?_; clear F fa; intro fa F
    refine wpList_nil ?_
    refine hK13 _ _ ?_
    clear hK13
    refine wp_block ?_
    have F0 := F.sub (.c 2 rfl (.c 3 rfl (.c 4 rfl .n)))
    refine lp_for F0 (t.T.toNat) (fun i Lv W => Lv = [(12, .int .i64 ((i : Nat) : Int))] ∧ Ext [] w3 W ∧ ∀ j : Nat, j < i → insP (plo t (j : Int)) (phi t (j : Int)) (plo x (j : Int)) (phi x (j : Int)) same) ⟨_, ⟨rfl, Ext.refl _ _, fun j hj => absurd hj (by omega)⟩, F.sub (.c 12 rfl (.c 2 rfl (.c 3 rfl (.c 4 rfl .n))))⟩ ?_
    clear F F0
    rintro i _ fa w21 hi2 ⟨rfl, EL2, hpl⟩ F
    have q3 := EL2.keep0 q3
    have q4 := EL2.keep0 q4
    have E := E.nil EL2
    refine wp_seq_k fun K14 hK14 => ?_
    refine wp_seq_k fun K15 hK15 => ?_
    refine wp_region_lit ?_
    refine F.mv ?_; clear F fa; intro fa F
    refine F.vl (R_field rfl (F.at rfl) Try.underlying28 rfl (n := 2) (sz := 1) rfl (by kernel_rfl) (by decide)) ?_; clear F fa; intro fa F
    refine F.vl (R_load rfl (F.at rfl) Try.underlying3 rfl ((cells_of_block q3 2).trans (getS (getS (get0))))) ?_; clear F fa; intro fa F
    refine F.vl (R_lss rfl (F.at rfl) (F.at rfl)) ?_; clear F fa; intro fa F
    refine wpList_nil ?_
    refine hK15 _ _ ?_
    clear hK15
    refine cd_if F rfl (fun hc75 => ?_) (fun hc75 => ?_)
    · skip
      refine wp_skip ?_
      refine hK14 _ _ ?_
      clear hK14
      refine wp_seq_k fun K16 hK16 => ?_
      refine wp_block ?_
      refine wp_seq_k fun K17 hK17 => ?_
      refine wp_region_lit ?_
      refine F.vl (R_loadBlk rfl (F.at rfl) Try.underlying28 rfl (by kernel_rfl) q3) ?_; clear F fa; intro fa F
      refine F.mv ?_; clear F fa; intro fa F
      refine sq_call F rfl (by decide) rfl (R_callV rfl rfl Try.call35 (mpS (F.at rfl) (mpS (F.at rfl) mp0))) (HP.out _ _ E (show (0 : Int) ≤ (i : Int) by omega) (by omega)) fun e w22 hR => ?_
      obtain ⟨rfl, e9⟩ := hR
      refine ⟨_, rfl, ?_⟩; clear F fa; intro fa F
      replace q3 := (e9).keep0 q3
      replace q4 := (e9).keep0 q4
      replace E := ext_same E (e9)
      replace EL2 := ext_same EL2 (e9)
      clear e9
      refine F.mv ?_; clear F fa; intro fa F
      refine F.vl (R_extract rfl (F.at rfl) (get0)) ?_; clear F fa; intro fa F
      refine F.vl (R_extract rfl (F.at rfl) (getS (get0))) ?_; clear F fa; intro fa F
      refine sq_new F rfl (by decide) rfl (R_alloc rfl Try.zeroValue23) ?_; clear F fa; intro fa w23 F hw
      obtain ⟨n13, hn⟩ : ∃ n, n = w22.heap.size := ⟨_, rfl⟩
      rw [← hn] at F
      have s13 : w22.heap.size ≤ n13 := Nat.le_of_eq hn.symm
      have l13_E : w.heap.size ≤ n13 := by rw [hn]; exact E.size
      have l13_EL2 : w3.heap.size ≤ n13 := by rw [hn]; exact EL2.size
      have m13_3 : n3 < n13 := by rw [hn]; exact blk_lt q3
      have m13_4 : n4 < n13 := by rw [hn]; exact blk_lt q4
      replace q3 := keep_alloc hw q3
      replace q4 := keep_alloc hw q4
      replace E := ext_alloc E hw
      replace EL2 := ext_alloc EL2 hw
      have q13 := new_row hw hn
      clear hw hn
      refine sq_to rfl rfl (R_storeRow rfl (F.at rfl) (F.at rfl) (by kernel_rfl) (by first | (simp [Value.oneCell']; done) | (simp [Value.oneCell', grRow, rdRow, lkRow]; done)) q13 rfl) ?_; intro w24 hw
      replace q3 := keep_cells hw q3 (by omega)
      replace q4 := keep_cells hw q4 (by omega)
      replace q13 := put_row hw q13 rfl
      replace E := ext_cells E hw (fun h => by first | exact absurd h (by omega) | simp)
      replace EL2 := ext_cells EL2 hw (fun h => by first | exact absurd h (by omega) | simp)
      clear hw
      refine F.as ?_; clear F fa; intro fa F
      refine wpList_nil ?_
      refine hK17 _ _ ?_
      clear hK17
      refine wp_seq_k fun K18 hK18 => ?_
      refine wp_region_lit ?_
      refine F.vl (R_loadBlk rfl (F.at rfl) Try.underlying28 rfl (by kernel_rfl) q4) ?_; clear F fa; intro fa F
      refine F.mv ?_; clear F fa; intro fa F
      refine sq_call F rfl (by decide) rfl (R_callV rfl rfl Try.call35 (mpS (F.at rfl) (mpS (F.at rfl) mp0))) (HP'.out _ _ E (show (0 : Int) ≤ (i : Int) by omega) (by omega)) fun e w25 hR => ?_
      obtain ⟨rfl, e9⟩ := hR
      refine ⟨_, rfl, ?_⟩; clear F fa; intro fa F
      replace q3 := (e9).keep0 q3
      replace q4 := (e9).keep0 q4
      replace q13 := (e9).keep0 q13
      replace E := ext_same E (e9)
      replace EL2 := ext_same EL2 (e9)
      clear e9
      refine F.mv ?_; clear F fa; intro fa F
      refine F.vl (R_extract rfl (F.at rfl) (get0)) ?_; clear F fa; intro fa F
      refine F.vl (R_extract rfl (F.at rfl) (getS (get0))) ?_; clear F fa; intro fa F
      refine sq_new F rfl (by decide) rfl (R_alloc rfl Try.zeroValue23) ?_; clear F fa; intro fa w26 F hw
      obtain ⟨n15, hn⟩ : ∃ n, n = w25.heap.size := ⟨_, rfl⟩
      rw [← hn] at F
      have s15 : w25.heap.size ≤ n15 := Nat.le_of_eq hn.symm
      have l15_E : w.heap.size ≤ n15 := by rw [hn]; exact E.size
      have l15_EL2 : w3.heap.size ≤ n15 := by rw [hn]; exact EL2.size
      have m15_3 : n3 < n15 := by rw [hn]; exact blk_lt q3
      have m15_4 : n4 < n15 := by rw [hn]; exact blk_lt q4
      have m15_13 : n13 < n15 := by rw [hn]; exact blk_lt q13
      replace q3 := keep_alloc hw q3
      replace q4 := keep_alloc hw q4
      replace q13 := keep_alloc hw q13
      replace E := ext_alloc E hw
      replace EL2 := ext_alloc EL2 hw
      have q15 := new_row hw hn
      clear hw hn
      refine sq_to rfl rfl (R_storeRow rfl (F.at rfl) (F.at rfl) (by kernel_rfl) (by first | (simp [Value.oneCell']; done) | (simp [Value.oneCell', grRow, rdRow, lkRow]; done)) q15 rfl) ?_; intro w27 hw
      replace q3 := keep_cells hw q3 (by omega)
      replace q4 := keep_cells hw q4 (by omega)
      replace q13 := keep_cells hw q13 (by omega)
      replace q15 := put_row hw q15 rfl
      replace E := ext_cells E hw (fun h => by first | exact absurd h (by omega) | simp)
      replace EL2 := ext_cells EL2 hw (fun h => by first | exact absurd h (by omega) | simp)
      clear hw
      refine F.as ?_; clear F fa; intro fa F
      refine wpList_nil ?_
      refine hK18 _ _ ?_
      clear hK18
      refine wp_seq_k fun K19 hK19 => ?_
      refine wp_region_lit ?_
      refine F.mv ?_; clear F fa; intro fa F
      refine F.vl (R_neqB (b := false) rfl (F.at rfl) (ev_c fa _) (by decide)) ?_; clear F fa; intro fa F
      refine F.mv ?_; clear F fa; intro fa F
      refine F.mv ?_ (hw := (wantT F rfl rfl (by decide) rfl)); clear F fa; intro fa F
      refine F.vl (R_neqB (b := false) rfl (F.at rfl) (ev_c fa _) (by decide)) ?_ (hw := (wantT F rfl rfl (by decide) rfl)); clear F fa; intro fa F
      refine F.vl (R_pickF rfl (F.at rfl) (F.at rfl)) ?_; clear F fa; intro fa F
      refine F.mv ?_; clear F fa; intro fa F
      refine F.vl (R_loadBlk rfl (F.at rfl) Try.underlying23 rfl (by kernel_rfl) q15) ?_ (hw := (wantT F rfl rfl (by decide) rfl)); clear F fa; intro fa F
      refine F.vl (R_loadBlk rfl (F.at rfl) Try.underlying23 rfl (by kernel_rfl) q13) ?_ (hw := (wantT F rfl rfl (by decide) rfl)); clear F fa; intro fa F
      refine sq_call F rfl (by decide) (wantT F rfl rfl (by decide) rfl) (R_callV rfl rfl Try.call115 (mpS (F.at rfl) (mpS (F.at rfl) mp0))) (inside_any _ _ _ _ _) fun e w28 hR => ?_
      obtain ⟨rfl, e9⟩ := hR
      refine ⟨_, rfl, ?_⟩; clear F fa; intro fa F
      replace q3 := (e9).keep0 q3
      replace q4 := (e9).keep0 q4
      replace q13 := (e9).keep0 q13
      replace q15 := (e9).keep0 q15
      replace E := ext_same E (e9)
      replace EL2 := ext_same EL2 (e9)
      clear e9
      refine F.vl (R_notD rfl (F.at rfl)) ?_ (hw := (wantT F rfl rfl (by decide) rfl)); clear F fa; intro fa F
      refine F.vl (R_pickF rfl (F.at rfl) (F.at rfl)) ?_; clear F fa; intro fa F
      refine F.mv ?_; clear F fa; intro fa F
      by_cases hg3 : (¬ ((plo t (i : Int)) ≤ (plo x (i : Int)) ∧ (phi x (i : Int)) ≤ (phi t (i : Int))))
      · skip
        replace F := F.re (k := 102) rfl (congrArg Value.bool (decide_eq_true hg3))
        refine sq_no F rfl (by decide) (wantF F rfl rfl (by decide) rfl (by decide)) ?_; clear F fa; intro fa F
        refine sq_no F rfl (by decide) (wantF F rfl rfl (by decide) rfl (by decide)) ?_; clear F fa; intro fa F
        refine sq_no F rfl (by decide) (wantU F rfl rfl (by decide) rfl) ?_; clear F fa; intro fa F
        refine sq_no F rfl (by decide) (wantU F rfl rfl (by decide) rfl) ?_; clear F fa; intro fa F
        refine sq_no F rfl (by decide) (wantU F rfl rfl (by decide) rfl) ?_; clear F fa; intro fa F
        refine sq_no F rfl (by decide) (wantF F rfl rfl (by decide) rfl (by decide)) ?_; clear F fa; intro fa F
        refine F.vl (R_pickT rfl (F.at rfl) (ev_c fa _)) ?_; clear F fa; intro fa F
        refine wpList_nil ?_
        refine hK19 _ _ ?_
        clear hK19
        refine cd_T F rfl ?_
        refine wp_seq_k fun K20 hK20 => ?_
        refine wp_region_lit ?_
        refine F.vl (R_assign rfl (ev_c fa _)) ?_; clear F fa; intro fa F
        refine wpList_nil ?_
        refine hK20 _ _ ?_
        clear hK20
        refine wp_ret ?_
        (try simp only [Exit.inBlock, Exit.then])
        refine rt_v F (rs_1 F rfl rfl) ?_
        exact ⟨false, rfl, ⟨fun h => (by cases h), fun h => absurd (h.2 i (by omega)).1 hg3⟩, E⟩
      · skip
        replace F := F.re (k := 102) rfl (congrArg Value.bool (decide_eq_false hg3))
        refine F.mv ?_ (hw := (wantT F rfl rfl (by decide) rfl)); clear F fa; intro fa F
        refine F.mv ?_ (hw := (wantT F rfl rfl (by decide) rfl)); clear F fa; intro fa F
        cases hg4 : same
        · skip
          replace F := F.re (k := 104) rfl (congrArg Value.bool hg4)
          refine sq_no F rfl (by decide) (wantF F rfl rfl (by decide) rfl (by decide)) ?_; clear F fa; intro fa F
          refine sq_no F rfl (by decide) (wantF F rfl rfl (by decide) rfl (by decide)) ?_; clear F fa; intro fa F
          refine sq_no F rfl (by decide) (wantF F rfl rfl (by decide) rfl (by decide)) ?_; clear F fa; intro fa F
          refine F.vl (R_pickF rfl (F.at rfl) (ev_c fa _)) ?_ (hw := (wantT F rfl rfl (by decide) rfl)); clear F fa; intro fa F
          refine F.vl (R_pickF rfl (F.at rfl) (F.at rfl)) ?_; clear F fa; intro fa F
          refine wpList_nil ?_
          refine hK19 _ _ ?_
          clear hK19
          refine cd_F F rfl ?_
          refine wp_skip ?_
          refine hK16 _ _ ?_
          clear hK16
          refine wp_region_lit ?_
          refine F.mv ?_; clear F fa; intro fa F
          refine F.vl (R_add rfl (F.at rfl) (ev_c fa _) (by omega) (by omega)) ?_; clear F fa; intro fa F
          refine F.as ?_; clear F fa; intro fa F
          refine wpList_nil ?_
          have hnow : insP (plo t (i : Int)) (phi t (i : Int)) (plo x (i : Int)) (phi x (i : Int)) same := by first | exact ⟨Decidable.not_not.1 hg3, fun hs => absurd (hs.symm.trans hg4) (by decide)⟩ | exact ⟨Decidable.not_not.1 hg3, fun _ => Decidable.not_not.1 hc109⟩
          show _ ∧ _
          exact ⟨by omega, _, ⟨rfl, EL2, (fun j hj => if e : j = i then e ▸ hnow else hpl j (by omega))⟩, F.sub (.c 12 rfl (.c 2 rfl (.c 3 rfl (.c 4 rfl .n))))⟩
        · skip
          replace F := F.re (k := 104) rfl (congrArg Value.bool hg4)
          refine F.vl (R_loadBlk rfl (F.at rfl) Try.underlying23 rfl (by kernel_rfl) q15) ?_ (hw := (wantT F rfl rfl (by decide) rfl)); clear F fa; intro fa F
          refine F.vl (R_loadBlk rfl (F.at rfl) Try.underlying23 rfl (by kernel_rfl) q13) ?_ (hw := (wantT F rfl rfl (by decide) rfl)); clear F fa; intro fa F
          refine F.vl (R_neqBt (r := decide (¬ ((plo x (i : Int)) = (plo t (i : Int)) ∧ (phi x (i : Int)) = (phi t (i : Int))))) rfl (F.at rfl) (F.at rfl) (by simp)) ?_ (hw := (wantT F rfl rfl (by decide) rfl)); clear F fa; intro fa F
          refine F.vl (R_pickT rfl (F.at rfl) (F.at rfl)) ?_ (hw := (wantT F rfl rfl (by decide) rfl)); clear F fa; intro fa F
          refine F.vl (R_pickF rfl (F.at rfl) (F.at rfl)) ?_; clear F fa; intro fa F
          refine wpList_nil ?_
          refine hK19 _ _ ?_
          clear hK19
          refine cd_if F rfl (fun hc109 => ?_) (fun hc109 => ?_)
          · skip
            refine wp_seq_k fun K21 hK21 => ?_
            refine wp_region_lit ?_
            refine F.vl (R_assign rfl (ev_c fa _)) ?_; clear F fa; intro fa F
            refine wpList_nil ?_
            refine hK21 _ _ ?_
            clear hK21
            refine wp_ret ?_
            (try simp only [Exit.inBlock, Exit.then])
            refine rt_v F (rs_1 F rfl rfl) ?_
            exact ⟨false, rfl, ⟨fun h => (by cases h), fun h => absurd ((h.2 i (by omega)).2 (by first | exact hg4 | rfl)) hc109⟩, E⟩
          · skip
            refine wp_skip ?_
            refine hK16 _ _ ?_
            clear hK16
            refine wp_region_lit ?_
            refine F.mv ?_; clear F fa; intro fa F
            refine F.vl (R_add rfl (F.at rfl) (ev_c fa _) (by omega) (by omega)) ?_; clear F fa; intro fa F
            refine F.as ?_; clear F fa; intro fa F
            refine wpList_nil ?_
            have hnow : insP (plo t (i : Int)) (phi t (i : Int)) (plo x (i : Int)) (phi x (i : Int)) same := by first | exact ⟨Decidable.not_not.1 hg3, fun hs => absurd (hs.symm.trans hg4) (by decide)⟩ | exact ⟨Decidable.not_not.1 hg3, fun _ => Decidable.not_not.1 hc109⟩
            show _ ∧ _
            exact ⟨by omega, _, ⟨rfl, EL2, (fun j hj => if e : j = i then e ▸ hnow else hpl j (by omega))⟩, F.sub (.c 12 rfl (.c 2 rfl (.c 3 rfl (.c 4 rfl .n))))⟩
    · skip
      refine wp_exit ?_
      refine hK12 _ _ ?_
      clear hK12
      refine wp_seq_k fun K22 hK22 => ?_
      refine wp_region_lit ?_
      refine F.vl (R_assign rfl (ev_c fa _)) ?_; clear F fa; intro fa F
      refine wpList_nil ?_
      refine hK22 _ _ ?_
      clear hK22
      refine wp_ret ?_
      (try simp only [Exit.inBlock, Exit.then])
      refine rt_v F (rs_1 F rfl rfl) ?_
      exact ⟨true, rfl, ⟨fun _ => ⟨fun j hj => hall j (by omega), fun j hj => hpl j (by omega)⟩, fun _ => rfl⟩, E⟩
theorem addR_get {t : Tp} {r : Int × Int × Int × Int} {i : Nat} (hi : i < t.rd.length) : (addR t r).rd.getD i (0, 0, 0, 0) = t.rd.getD i (0, 0, 0, 0) := by
  simp [addR, List.getElem?_append_left hi]
theorem addR_last {t : Tp} {r : Int × Int × Int × Int} : (addR t r).rd.getD t.rd.length (0, 0, 0, 0) = r := by simp [addR]
theorem addR_cell {t : Tp} {r : Int × Int × Int × Int} {s a : Nat} {x : Nat → Int} : CellOk (addR t r) s a x ↔ CellOk t s a x := ⟨fun q => ⟨q.lo, q.hi, q.glo, q.ghi⟩, fun q => ⟨q.lo, q.hi, q.glo, q.ghi⟩⟩
theorem addR_tail {t : Tp} {r : Int × Int × Int × Int} {i : Nat} {x : Nat → Int} : TailOk (addR t r) i x ↔ TailOk t i x := ⟨fun q => ⟨q.lo, q.hi⟩, fun q => ⟨q.lo, q.hi⟩⟩
theorem addR_read {t : Tp} {r q : Int × Int × Int × Int} {x : Nat → Int} : ReadOk (addR t r) q x ↔ ReadOk t q x := ⟨fun q => ⟨q.lo, q.hi⟩, fun q => ⟨q.lo, q.hi⟩⟩
theorem addR_tr {t : Tp} {r : Int × Int × Int × Int} {x : Nat → Int} : Tr (addR t r) 0 x ↔ Tr t 0 x ∧ ReadOk t r x := by
  have hl : (addR t r).rd.length = t.rd.length + 1 := by simp [addR]
  have h0 : ∀ i, hasB 0 i = false := fun i => by simp [hasB]
  constructor
  · intro h
    refine ⟨⟨fun s a hs ha => addR_cell.1 (h.cell s a hs ha), fun i hi => addR_tail.1 (h.tail i hi), fun i hi hb => ?_, h.link⟩, ?_⟩
    · have := h.read i (by omega) hb
      rw [addR_get hi] at this
      exact addR_read.1 this
    · have := h.read t.rd.length (by omega) (h0 _)
      rw [addR_last] at this
      exact addR_read.1 this
  · rintro ⟨h, hr⟩
    refine ⟨fun s a hs ha => addR_cell.2 (h.cell s a hs ha), fun i hi => addR_tail.2 (h.tail i hi), fun i hi hb => ?_, h.link⟩
    by_cases e : i < t.rd.length
    · rw [addR_get e]; exact addR_read.2 (h.read i e hb)
    · obtain rfl : i = t.rd.length := by omega
      rw [addR_last]; exact addR_read.2 hr
theorem addR_fit {t : Tp} (ok : t.Ok) {r : Int × Int × Int × Int} (hr : RdFit t r) (h8 : t.rd.length ≤ 7) : (addR t r).Ok ∧ (addR t r).rd.length ≤ 8 := by
  have hl : (addR t r).rd.length = t.rd.length + 1 := by simp [addR]
  refine ⟨⟨ok.S1, ok.S3, ok.A1, ok.A3, ok.T1, ok.T3, ok.bl1, ok.bm1, ok.b, ok.pl1, ok.pm1, ok.p, ok.sl0, ok.sl5, ok.grl, ok.gr, by omega, fun q hm => ?_, ok.lkl, ok.lk⟩, by omega⟩
  rcases List.mem_append.1 hm with h | h
  · exact ok.rd q h
  · obtain rfl : q = r := by simpa using h
    exact hr
theorem ok_fit {t : Tp} (ok : t.Ok) {j : Nat} (hj : j < t.rd.length) : RdFit t (t.rd.getD j (0, 0, 0, 0)) := ok.rd _ (getD_mem (0, 0, 0, 0) hj)
/-- A reading more narrows the bounds. -/
theorem addR_le {t : Tp} {r : Int × Int × Int × Int} (h : t.Live) (h' : (addR t r).Live) {i j : Nat} (hi : live t i) (hj : live t j) : bdV (addR t r) 0 i j ≤ bdV t 0 i j := by
  obtain ⟨-, x, hx, e⟩ := h'.top (i := i) (j := j) hi hj
  have := (h.top hi hj).1 x (addR_tr.1 hx).1
  omega
theorem addR_in {t : Tp} {r : Int × Int × Int × Int} (h : t.Live) (h' : (addR t r).Live) : alikeP t (addR t r) false := by
  have ok := h.ok
  have hA1 := ok.A1
  refine ⟨fun i hi => ?_, fun i hi => ?_⟩
  · obtain ⟨y1, y2, y3, y4⟩ := nd_in2 (S := t.S) (A := t.A) (x := i) (by omega) hi
    have l := live_cellI (t := t) y1 y2 y3 y4
    have a := addR_le h h' (live_zero t) l
    have b := addR_le h h' l (live_zero t)
    refine ⟨?_, fun hs => by cases hs⟩
    unfold mlo mhi
    omega
  · have l := live_tailI (t := t) (i := i) (by omega) hi
    have a := addR_le h h' (live_zero t) l
    have b := addR_le h h' l (live_zero t)
    refine ⟨?_, fun hs => by cases hs⟩
    unfold plo phi
    omega
theorem dup_live {t : Tp} (h : t.Live) {j : Nat} (hj : j < t.rd.length) (h7 : t.rd.length ≤ 7) : (addR t (t.rd.getD j (0, 0, 0, 0))).Live := by
  obtain ⟨x, hx⟩ := h.tr
  obtain ⟨o, l⟩ := addR_fit h.ok (ok_fit h.ok hj) h7
  exact ⟨o, l, x, addR_tr.2 ⟨hx, hx.read j hj (by simp [hasB])⟩⟩
theorem dup_eq {t : Tp} (h : t.Live) {k : Nat} (hk : k < t.rd.length) (h7 : t.rd.length ≤ 7) {i j : Nat} (hi : live t i) (hj : live t j) : bdV (addR t (t.rd.getD k (0, 0, 0, 0))) 0 i j = bdV t 0 i j := by
  have := bd_map (c := 0) h (dup_live h hk h7) hi hj (i' := i) (j' := j) hi hj (fun x hx => ⟨x, addR_tr.2 ⟨hx, hx.read k hk (by simp [hasB])⟩, by omega⟩) (fun x hx => ⟨x, (addR_tr.1 hx).1, by omega⟩)
  omega
theorem dup_alike {t : Tp} (h : t.Live) {k : Nat} (hk : k < t.rd.length) (h7 : t.rd.length ≤ 7) : alikeP t (addR t (t.rd.getD k (0, 0, 0, 0))) true := by
  have ok := h.ok
  have hA1 := ok.A1
  refine ⟨fun i hi => ?_, fun i hi => ?_⟩
  · obtain ⟨y1, y2, y3, y4⟩ := nd_in2 (S := t.S) (A := t.A) (x := i) (by omega) hi
    have l := live_cellI (t := t) y1 y2 y3 y4
    have a := dup_eq h hk h7 (live_zero t) l
    have b := dup_eq h hk h7 l (live_zero t)
    unfold insP mlo mhi
    rw [a, b]
    simp
  · have l := live_tailI (t := t) (i := i) (by omega) hi
    have a := dup_eq h hk h7 (live_zero t) l
    have b := dup_eq h hk h7 l (live_zero t)
    unfold insP plo phi
    rw [a, b]
    simp
theorem own_addR {w : World} {base c : Nat} {a : Option Addr} {t : Tp} {r : Int × Int × Int × Int} (h : w.ownsRow base 66 4 (.slice a (t.rd.length + 1) c) (t.rd.length + 1) (flatR t.rd ++ [.int .i64 r.1, .int .i64 r.2.1, .int .i64 r.2.2.1, .int .i64 r.2.2.2])) : IsRows w (.slice a (t.rd.length + 1) c) 4 ((addR t r).rd.map rdRow) := by
  rw [show t.rd.length + 1 = (addR t r).rd.length by simp [addR], show flatR t.rd ++ [.int .i64 r.1, .int .i64 r.2.1, .int .i64 r.2.2.1, .int .i64 r.2.2.2] = ((addR t r).rd.map rdRow).flatten by simp [addR, flatR, rdRow]] at h
  have := rows_of_owns (row := rdRow) h (fun _ => rfl)
  rwa [show (addR t r).rd.length = t.rd.length + 1 by simp [addR]] at this
end Go.Proofs.Ytholfdgebdlgjaa
