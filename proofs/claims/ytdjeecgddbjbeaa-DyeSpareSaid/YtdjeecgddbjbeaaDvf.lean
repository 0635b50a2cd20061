/- The program's look at a recipe that is valid; a recipe cut to its dyes; lowest terms. Conditions: the vat is valid. -/
import Derived.Test.YtdjeecgddbjbeaaDve
namespace Go.Proofs.Ytdjeecgddbjbeaa
open Go.RowKit
set_option linter.unusedVariables false
set_option linter.unusedSimpArgs false
/-- A valid recipe. -/
structure RcpOk (x : Vm) (l : List Int) : Prop where
  len : l.length = x.D.length
  bd : ∀ n ∈ l, 0 ≤ n ∧ n ≤ 6
  s1 : 1 ≤ l.sum
  s6 : l.sum ≤ 6
theorem val_bd {l : List Int} {a b : Int} (h : ∀ n ∈ l, a ≤ n ∧ n ≤ b) (h0 : a ≤ 0) (h1 : 0 ≤ b) (k : Nat) : a ≤ val l k ∧ val l k ≤ b := by
  by_cases hk : k < l.length
  · exact h _ (getD_mem 0 hk)
  · rw [val, List.getD_eq_getElem?_getD, List.getElem?_eq_none (by omega)]; exact ⟨h0, h1⟩
theorem RcpOk.tub {x : Vm} {l : List Int} (h : RcpOk x l) : TubS (val l) := fun k _ => val_bd h.bd (by omega) (by omega) k
theorem put_tub4 {w w2 : World} {b : Nat} {l : List Int} {T : TypeId} (e : w2 = w.setCells b 0 (l.map (Value.int .i64))) (H : w.heap[b]? = some (.cells (tubC zf) T (0, 0))) (hl : l.length ≤ 4) : w2.heap[b]? = some (.cells (tubC (val l)) T (0, 0)) := by
  rw [e]
  match l, hl with
  | [], _ => exact H
  | [p], _ => exact put_cell (w2 := w.setCells b 0 [.int .i64 p]) rfl H rfl
  | [p, q], _ => exact put_mid2 (w2 := w.setCells b 0 [.int .i64 p, .int .i64 q]) rfl H rfl
  | [p, q, r], _ => exact put_cell (w2 := w.setCells b 0 [.int .i64 p, .int .i64 q, .int .i64 r]) (w := (w.setCells b 0 [.int .i64 p, .int .i64 q])) (o := 2) rfl (put_mid2 (w2 := w.setCells b 0 [.int .i64 p, .int .i64 q]) rfl H rfl) rfl
  | [p, q, r, s], _ => exact put_row (cs := tubC (val [p, q, r, s])) rfl H rfl
  | p :: q :: r :: s :: t :: l, h => simp at h
theorem sizE_ok {n m : Int} (h1 : 1 ≤ n) (h2 : n ≤ m) : sizE n m = 0 := by rw [sizE, if_neg (by omega), if_neg (by omega)]
set_option maxRecDepth 100000 in
set_option maxHeartbeats 1000000 in
theorem recipe_ok (x : Vm) (hv : VOk x) (l : List Int) (hl : RcpOk x l) (a : Option Addr) (c : Nat) (w : World) (hr : IsRows w (.slice a l.length c) 1 (l.map intRow)) :
    Calls Try.prog 55 #[.agg #[.int .i64 x.B, .slice x.da x.D.length x.dc, .slice x.la x.L.length x.lc, .int .i64 x.tol], .slice a l.length c] w fun e w' => e = .returned (.agg (tubC (val l))) ∧ Ext [] w w' := by
  have E : Ext [] w w := Ext.refl _ _
  have HR := Lib.hid hr
  have HS := Lib.hid (slAt_of_rows hr 0)
  have HB := Lib.hid hl.bd
  have HT := Lib.hid hl.tub.ok
  have hlen := hl.len
  have hd1 := hv.d1
  have hd4 := hv.d4
  have hpr : prt (val l) = l.sum := sumTo_list l 4 (by omega)
  have hsz : sizE l.sum 6 = 0 := sizE_ok hl.s1 hl.s6
  clear hr hl hv
  refine calls_has 42 Try.func55 rfl Try.ntmps55 (Nat.le_of_ble_eq_true rfl) ?_
  intro fa F
  refine wp_seq_k fun K1 hK1 => ?_
  refine wp_region_lit ?_
  refine sq_new F rfl (by decide) rfl (R_box rfl (F.at rfl)) ?_; clear F fa; intro fa w1 F hw
  obtain ⟨n2, hn⟩ : ∃ n, n = w.heap.size := ⟨_, rfl⟩
  rw [← hn] at F
  have s2 : w.heap.size ≤ n2 := Nat.le_of_eq hn.symm
  have l2_E : w.heap.size ≤ n2 := by rw [hn]; exact E.size
  replace E := ext_alloc E hw
  have q2 := new_row hw hn
  clear hw hn
  refine sq_new F rfl (by decide) rfl (R_alloc rfl Try.zeroValue83) ?_; clear F fa; intro fa w2 F hw
  obtain ⟨n4, hn⟩ : ∃ n, n = w1.heap.size := ⟨_, rfl⟩
  rw [← hn] at F
  have s4 : w1.heap.size ≤ n4 := Nat.le_of_eq hn.symm
  have l4_E : w.heap.size ≤ n4 := by rw [hn]; exact E.size
  have m4_2 : n2 < n4 := by rw [hn]; exact blk_lt q2
  replace q2 := keep_alloc hw q2
  replace E := ext_alloc E hw
  have q4 := new_row hw hn
  clear hw hn
  refine wpList_nil ?_
  refine hK1 _ _ ?_
  clear hK1
  refine wp_seq_k fun K2 hK2 => ?_
  refine wp_seq_k fun K3 hK3 => ?_
  refine wp_region_lit ?_
  refine F.mv ?_; clear F fa; intro fa F
  refine F.vl (R_len rfl rfl (F.at rfl) Try.underlying25) ?_; clear F fa; intro fa F
  refine F.vl (R_field rfl (F.at rfl) Try.underlying80 rfl (n := 0) (sz := 4) rfl (by kernel_rfl) (by decide)) ?_; clear F fa; intro fa F
  refine F.vl (R_field rfl (F.at rfl) Try.underlying24 rfl (n := 1) (sz := 1) rfl (by kernel_rfl) (by decide)) ?_; clear F fa; intro fa F
  refine F.vl (R_load rfl (F.at rfl) Try.underlying22 rfl ((cells_of_block q2 1).trans (getS (get0)))) ?_; clear F fa; intro fa F
  refine F.vl (R_len rfl rfl (F.at rfl) Try.underlying22) ?_; clear F fa; intro fa F
  refine F.vl (R_lss rfl (F.at rfl) (F.at rfl)) ?_; clear F fa; intro fa F
  refine wpList_nil ?_
  refine hK3 _ _ ?_
  clear hK3
  refine cd_Fb F rfl (decide_eq_false (by omega)) ?_
  refine wp_skip ?_
  refine hK2 _ _ ?_
  clear hK2
  refine wp_seq_k fun K4 hK4 => ?_
  refine wp_seq_k fun K5 hK5 => ?_
  refine wp_region_lit ?_
  refine F.mv ?_; clear F fa; intro fa F
  refine F.vl (R_len rfl rfl (F.at rfl) Try.underlying25) ?_; clear F fa; intro fa F
  refine F.vl (R_field rfl (F.at rfl) Try.underlying80 rfl (n := 0) (sz := 4) rfl (by kernel_rfl) (by decide)) ?_; clear F fa; intro fa F
  refine F.vl (R_field rfl (F.at rfl) Try.underlying24 rfl (n := 1) (sz := 1) rfl (by kernel_rfl) (by decide)) ?_; clear F fa; intro fa F
  refine F.vl (R_load rfl (F.at rfl) Try.underlying22 rfl ((cells_of_block q2 1).trans (getS (get0)))) ?_; clear F fa; intro fa F
  refine F.vl (R_len rfl rfl (F.at rfl) Try.underlying22) ?_; clear F fa; intro fa F
  refine F.vl (R_gtr rfl (F.at rfl) (F.at rfl)) ?_; clear F fa; intro fa F
  refine wpList_nil ?_
  refine hK5 _ _ ?_
  clear hK5
  refine cd_Fb F rfl (decide_eq_false (by omega)) ?_
  refine wp_skip ?_
  refine hK4 _ _ ?_
  clear hK4
  refine wp_seq_k fun K6 hK6 => ?_
  refine wp_seq_k fun K7 hK7 => ?_
  refine wp_region_lit ?_
  refine F.mv ?_; clear F fa; intro fa F
  refine F.vl (R_len rfl rfl (F.at rfl) Try.underlying25) ?_; clear F fa; intro fa F
  refine F.vl (R_move rfl (ev_c fa _)) ?_; clear F fa; intro fa F
  refine wpList_nil ?_
  refine hK7 _ _ ?_
  clear hK7
  refine wp_block ?_
  have F0 := F.sub (.c 1 rfl (.c 4 rfl (.c 24 rfl (.c 25 rfl .n))))
  refine lp_for F0 (l.length) (fun i Lv W => Lv = [(26, .int .i64 ((i : Nat) : Int))] ∧ Ext [] w W ∧ W.heap[n2]? = some (.cells #[.int .i64 x.B, .slice x.da x.D.length x.dc, .slice x.la x.L.length x.lc, .int .i64 x.tol] 80 (0, 0)) ∧ W.heap[n4]? = some (.cells #[.int .i64 0, .int .i64 0, .int .i64 0, .int .i64 0] 83 (0, 0))) ⟨_, ⟨rfl, E, q2, q4⟩, F.sub (.c 26 rfl (.c 1 rfl (.c 4 rfl (.c 24 rfl (.c 25 rfl .n)))))⟩ ?_
  clear F F0
  clear E q2 q4
  rintro i _ fa w3 hi1 ⟨rfl, E, q2, q4⟩ F
  refine wp_seq_k fun K8 hK8 => ?_
  refine wp_region_lit ?_
  refine F.vl (R_lss rfl (F.at rfl) (F.at rfl)) ?_; clear F fa; intro fa F
  refine wpList_nil ?_
  refine hK8 _ _ ?_
  clear hK8
  refine wp_seq_k fun K9 hK9 => ?_
  refine cd_if F rfl (fun hc27 => ?_) (fun hc27 => ?_)
  · skip
    refine wp_skip ?_
    refine hK9 _ _ ?_
    clear hK9
    refine wp_seq_k fun K10 hK10 => ?_
    refine wp_block ?_
    refine wp_seq_k fun K11 hK11 => ?_
    refine wp_region_lit ?_
    obtain ⟨xb12, xo12, xa12, xr12⟩ := HS.out i (by omega)
    refine F.vl (R_ixSlice (sz := 1) rfl ((F.at rfl).trans (xa12 _ _)) (F.at rfl) Try.underlying25 (by kernel_rfl) (by omega) (by omega)) ?_; clear F fa; intro fa F
    refine F.vl (R_load rfl (F.at rfl) Try.underlying3 rfl (xr12 _ E 0 _ rfl)) ?_; clear F fa; intro fa F
    refine F.as ?_; clear F fa; intro fa F
    refine wpList_nil ?_
    refine hK11 _ _ ?_
    clear hK11
    refine wp_seq_k fun K13 hK13 => ?_
    have hno := outB_no.2 (HB.out _ (getD_mem (l := l) (i := i) 0 (by omega)))
    refine wp_region_lit ?_
    refine F.mv ?_; clear F fa; intro fa F
    refine sq_call F rfl (by decide) rfl (R_callV rfl rfl Try.call99 (mpS (F.at rfl) (mpS (ev_c fa _) (mpS (ev_c fa _) mp0)))) (outside_any (l.getD i 0) 0 6 _) fun e w4 hR => ?_
    obtain ⟨rfl, e9⟩ := hR
    refine ⟨_, rfl, ?_⟩; clear F fa; intro fa F
    replace q2 := (e9).keep0 q2
    replace q4 := (e9).keep0 q4
    replace E := ext_same E (e9)
    clear e9
    refine wpList_nil ?_
    refine hK13 _ _ ?_
    clear hK13
    refine cd_Fb F rfl (hno) ?_
    refine wp_skip ?_
    refine hK10 _ _ ?_
    clear hK10
    refine wp_region_lit ?_
    refine F.vl (R_add rfl (F.at rfl) (ev_c fa _) (by omega) (by omega)) ?_; clear F fa; intro fa F
    refine F.mv ?_; clear F fa; intro fa F
    refine wpList_nil ?_
    show _ ∧ _
    exact ⟨by omega, _, ⟨rfl, E, q2, q4⟩, F.sub (.c 26 rfl (.c 1 rfl (.c 4 rfl (.c 24 rfl (.c 25 rfl .n)))))⟩
  · skip
    refine wp_exit ?_
    refine hK6 _ _ ?_
    clear hK6
    refine wp_seq_k fun K14 hK14 => ?_
    refine wp_region_lit ?_
    refine sq_new F rfl (by decide) rfl (R_alloc rfl Try.zeroValue83) ?_; clear F fa; intro fa w5 F hw
    obtain ⟨n7, hn⟩ : ∃ n, n = w3.heap.size := ⟨_, rfl⟩
    rw [← hn] at F
    have s7 : w3.heap.size ≤ n7 := Nat.le_of_eq hn.symm
    have l7_E : w.heap.size ≤ n7 := by rw [hn]; exact E.size
    have m7_2 : n2 < n7 := by rw [hn]; exact blk_lt q2
    have m7_4 : n4 < n7 := by rw [hn]; exact blk_lt q4
    replace q2 := keep_alloc hw q2
    replace q4 := keep_alloc hw q4
    replace E := ext_alloc E hw
    have q7 := new_row hw hn
    clear hw hn
    refine wpList_nil ?_
    replace q7 : w5.heap[n7]? = some (.cells (tubC zf) 83 (0, 0)) := q7
    refine hK14 _ _ ?_
    clear hK14
    refine wp_seq_k fun K15 hK15 => ?_
    refine wp_region_lit ?_
    refine F.vl ((R_sliceAll (n := 4) rfl (F.at rfl) (by kernel_rfl) (by kernel_rfl) (by kernel_rfl))) ?_; clear F fa; intro fa F
    refine F.mv ?_; clear F fa; intro fa F
    have hlr2 := HR.out.ext E (by simp)
    obtain ⟨sb, so, hsa, -, -⟩ := hlr2.range rfl (by intro e; have hq := congrArg List.length e; rw [List.length_map, List.length_nil] at hq; omega)
    rw [hsa] at hlr2
    have hcd : ∀ j, j < l.length → (w5.cell? ⟨n7, 0 + j, none⟩).isSome = true := fun j hj => (by have := tub_at q7 (i := (j : Int)) (k := j) rfl (by omega); rw [Nat.mul_one, Int.toNat_natCast] at this; rw [this]; rfl)
    refine sq_new F rfl (by decide) rfl (R_copy (l.map (Value.int .i64)) rfl (F.at rfl) ((F.at rfl).trans (congrArg (fun z => Value.slice z _ _) hsa)) Try.underlying25 (by kernel_rfl) (by rw [List.length_map]; exact (Nat.min_eq_left (by omega)).symm) (copy_src hlr2) (by rw [List.length_map]; exact hcd) (by rw [List.length_map]; exact fun j _ => free_of_block q7 _) (ints_one _)) ?_; clear F fa; intro fa w6 F hw
    replace q2 := keep_cells hw q2 (by omega)
    replace q4 := keep_cells hw q4 (by omega)
    replace q7 := put_tub4 hw q7 (by omega)
    replace E := ext_cells E hw (fun h => by first | exact absurd h (by omega) | simp)
    clear hw
    refine wpList_nil ?_
    refine hK15 _ _ ?_
    clear hK15
    refine wp_seq_k fun K16 hK16 => ?_
    refine wp_region_lit ?_
    refine F.vl (R_loadBlk rfl (F.at rfl) Try.underlying83 rfl (by kernel_rfl) q7) ?_; clear F fa; intro fa F
    refine sq_call F rfl (by decide) rfl (R_callV rfl rfl Try.call61 (mpS (F.at rfl) mp0)) (parts_any (val l) HT.out _) fun e w7 hR => ?_
    obtain ⟨rfl, e9⟩ := hR
    refine ⟨_, rfl, ?_⟩; clear F fa; intro fa F
    replace q2 := (e9).keep0 q2
    replace q4 := (e9).keep0 q4
    replace q7 := (e9).keep0 q7
    replace E := ext_same E (e9)
    clear e9
    rw [hpr] at F
    refine sq_call F rfl (by decide) rfl (R_callV rfl rfl Try.call100 (mpS (F.at rfl) (mpS (ev_c fa _) mp0))) (sized_any l.sum 6 _) fun e w8 hR => ?_
    obtain ⟨rfl, e9⟩ := hR
    refine ⟨_, rfl, ?_⟩; clear F fa; intro fa F
    replace q2 := (e9).keep0 q2
    replace q4 := (e9).keep0 q4
    replace q7 := (e9).keep0 q7
    replace E := ext_same E (e9)
    clear e9
    rw [hsz] at F
    refine sq_call F rfl (by decide) rfl (R_callV rfl rfl Try.call97 (mpS (F.at rfl) mp0)) (must_ok _) fun e w9 hR => ?_
    obtain ⟨rfl, e9⟩ := hR
    refine ⟨_, rfl, ?_⟩; clear F fa; intro fa F
    replace q2 := (e9).keep0 q2
    replace q4 := (e9).keep0 q4
    replace q7 := (e9).keep0 q7
    replace E := ext_same E (e9)
    clear e9
    refine wpList_nil ?_
    refine hK16 _ _ ?_
    clear hK16
    refine wp_seq_k fun K17 hK17 => ?_
    refine wp_region_lit ?_
    refine F.vl (R_loadBlk rfl (F.at rfl) Try.underlying83 rfl (by kernel_rfl) q7) ?_; clear F fa; intro fa F
    refine sq_to rfl rfl (R_storeRow rfl (F.at rfl) (F.at rfl) (by kernel_rfl) (by simp [tubC, Value.oneCell']) q4 rfl) ?_; intro w10 hw
    replace q2 := keep_cells hw q2 (by omega)
    replace q4 := put_row hw q4 rfl
    replace q7 := keep_cells hw q7 (by omega)
    replace E := ext_cells E hw (fun h => by first | exact absurd h (by omega) | simp)
    clear hw
    refine wpList_nil ?_
    refine hK17 _ _ ?_
    clear hK17
    refine wp_ret ?_
    (try simp only [Exit.inBlock, Exit.then, reduceIte])
    refine rt_v F (rs_c F rfl rfl Try.underlying83 rfl (by kernel_rfl) q4) ?_
    exact ⟨rfl, E⟩
/-- The greatest number that divides the first parts. -/
def gcT (f : Nat → Int) : Nat → Nat
  | 0 => 0
  | k + 1 => Nat.gcd (gcT f k) (f k).toNat
def gcE (f : Nat → Int) : Nat := gcT f 4
def lowF (f : Nat → Int) (d : Int) (i : Nat) : Nat → Int := fun j => if j < i then f j / d else f j
theorem gcT_le {f : Nat → Int} (hf : TubS f) : ∀ {k : Nat}, k ≤ 4 → gcT f k ≤ 6
  | 0, _ => by simp [gcT]
  | k + 1, hk => by
    rw [gcT]
    obtain ⟨h0, h1⟩ := hf k (by omega)
    by_cases e : (f k).toNat = 0
    · rw [e, Nat.gcd_zero_right]; exact gcT_le hf (by omega)
    · exact Nat.le_trans (Nat.le_of_dvd (by omega) (Nat.gcd_dvd_right _ _)) (by omega)
theorem gcd_round {u v : Nat} (h : 0 < v) : Nat.gcd v (u % v) = Nat.gcd u v := by
  rw [Nat.gcd_comm v, ← Nat.gcd_rec, Nat.gcd_comm]
set_option maxRecDepth 100000 in
set_option maxHeartbeats 1000000 in
theorem lowest_ok (f : Nat → Int) (hf : TubS f) (hg : 0 < gcE f) (w : World) : Calls Try.prog 118 #[.agg (tubC f)] w fun e w' => e = .returned (.agg (tubC (lowF f (gcE f) 4))) ∧ Ext [] w w' := by
  have E : Ext [] w w := Ext.refl _ _
  have HF := Lib.hid hf
  have hg6 : gcE f ≤ 6 := gcT_le hf (by omega)
  clear hf
  refine calls_has 29 Try.func118 rfl Try.ntmps118 (Nat.le_of_ble_eq_true rfl) ?_
  intro fa F
  refine wp_seq_k fun K1 hK1 => ?_
  refine wp_region_lit ?_
  refine sq_new F rfl (by decide) rfl (R_box rfl (F.at rfl)) ?_; clear F fa; intro fa w1 F hw
  obtain ⟨n1, hn⟩ : ∃ n, n = w.heap.size := ⟨_, rfl⟩
  rw [← hn] at F
  have s1 : w.heap.size ≤ n1 := Nat.le_of_eq hn.symm
  have l1_E : w.heap.size ≤ n1 := by rw [hn]; exact E.size
  replace E := ext_alloc E hw
  have q1 := new_row hw hn
  clear hw hn
  refine sq_new F rfl (by decide) rfl (R_alloc rfl Try.zeroValue83) ?_; clear F fa; intro fa w2 F hw
  obtain ⟨n2, hn⟩ : ∃ n, n = w1.heap.size := ⟨_, rfl⟩
  rw [← hn] at F
  have s2 : w1.heap.size ≤ n2 := Nat.le_of_eq hn.symm
  have l2_E : w.heap.size ≤ n2 := by rw [hn]; exact E.size
  have m2_1 : n1 < n2 := by rw [hn]; exact blk_lt q1
  replace q1 := keep_alloc hw q1
  replace E := ext_alloc E hw
  have q2 := new_row hw hn
  clear hw hn
  refine wpList_nil ?_
  refine hK1 _ _ ?_
  clear hK1
  refine wp_seq_k fun K2 hK2 => ?_
  refine wp_region_lit ?_
  refine F.vl (R_assign rfl (ev_c fa _)) ?_; clear F fa; intro fa F
  rw [show (0 : Int) = ((gcT f 0 : Nat) : Int) from rfl] at F
  refine wpList_nil ?_
  refine hK2 _ _ ?_
  clear hK2
  refine wp_seq_k fun K3 hK3 => ?_
  refine wp_seq_k fun K4 hK4 => ?_
  refine wp_region_lit ?_
  refine F.vl (R_loadBlk rfl (F.at rfl) Try.underlying83 rfl (by kernel_rfl) q1) ?_; clear F fa; intro fa F
  refine F.vl (R_move rfl (ev_c fa _)) ?_; clear F fa; intro fa F
  rw [show (0 : Int) = ((0 : Nat) : Int) from rfl] at F
  refine wpList_nil ?_
  refine hK4 _ _ ?_
  clear hK4
  refine wp_block ?_
  have F0 := F.sub (.c 1 rfl (.c 2 rfl (.c 7 rfl .n)))
  refine lp_for F0 (4) (fun i Lv W => Lv = [(3, .int .i64 ((gcT f i : Nat) : Int)), (8, .int .i64 ((i : Nat) : Int))] ∧ Ext [] w W ∧ W.heap[n1]? = some (.cells (tubC f) 83 (0, 0)) ∧ W.heap[n2]? = some (.cells #[.int .i64 0, .int .i64 0, .int .i64 0, .int .i64 0] 83 (0, 0))) ⟨_, ⟨rfl, E, q1, q2⟩, F.sub (.c 3 rfl (.c 8 rfl (.c 1 rfl (.c 2 rfl (.c 7 rfl .n)))))⟩ ?_
  clear F F0
  clear E q1 q2
  rintro i _ fa w3 hi1 ⟨rfl, E, q1, q2⟩ F
  refine wp_seq_k fun K5 hK5 => ?_
  refine wp_region_lit ?_
  refine F.vl (R_lss rfl (F.at rfl) (ev_c fa _)) ?_; clear F fa; intro fa F
  refine wpList_nil ?_
  refine hK5 _ _ ?_
  clear hK5
  refine wp_seq_k fun K6 hK6 => ?_
  refine cd_if F rfl (fun hc9 => ?_) (fun hc9 => ?_)
  · skip
    refine wp_skip ?_
    refine hK6 _ _ ?_
    clear hK6
    refine wp_seq_k fun K7 hK7 => ?_
    refine wp_block ?_
    refine wp_seq_k fun K8 hK8 => ?_
    obtain ⟨hf0, hf1⟩ := HF.out i (by omega)
    obtain ⟨p, hp⟩ : ∃ p : Nat, f i = p := ⟨(f i).toNat, by omega⟩
    have hpn : (f i).toNat = p := by omega
    refine wp_region_lit ?_
    refine F.vl (R_index rfl (F.at rfl) (F.at rfl) Try.underlying83 (by kernel_rfl) Try.underlying3 rfl (by omega) (by omega) (tub_ix (k := i) rfl (by omega))) ?_; clear F fa; intro fa F
    refine F.as ?_; clear F fa; intro fa F
    refine wpList_nil ?_
    rw [hp] at F
    refine hK8 _ _ ?_
    clear hK8
    refine wp_block ?_
    have F0 := F.sub (.c 1 rfl (.c 2 rfl (.c 7 rfl (.c 8 rfl .n))))
    refine lp_for F0 (6) (fun j Lv W => ∃ u v : Nat, Lv = [(3, .int .i64 ((u : Nat) : Int)), (5, .int .i64 ((v : Nat) : Int))] ∧ Ext [] w W ∧ W.heap[n1]? = some (.cells (tubC f) 83 (0, 0)) ∧ W.heap[n2]? = some (.cells #[.int .i64 0, .int .i64 0, .int .i64 0, .int .i64 0] 83 (0, 0)) ∧ Nat.gcd u v = gcT f (i + 1) ∧ v + j ≤ 6 ∧ u ≤ 6) ⟨_, ⟨_, _, rfl, E, q1, q2, (by rw [gcT, hpn]), (by omega), (gcT_le HF.out (by omega))⟩, F.sub (.c 3 rfl (.c 5 rfl (.c 1 rfl (.c 2 rfl (.c 7 rfl (.c 8 rfl .n))))))⟩ ?_
    clear F F0
    clear E q1 q2
    rintro j _ fa w4 hi2 ⟨u, v, rfl, E, q1, q2, hgc, hvj, hu6⟩ F
    refine wp_seq_k fun K9 hK9 => ?_
    refine wp_seq_k fun K10 hK10 => ?_
    refine wp_region_lit ?_
    refine F.mv ?_; clear F fa; intro fa F
    refine F.vl (R_gtr rfl (F.at rfl) (ev_c fa _)) ?_; clear F fa; intro fa F
    refine wpList_nil ?_
    refine hK10 _ _ ?_
    clear hK10
    refine cd_if F rfl (fun hc12 => ?_) (fun hc12 => ?_)
    · skip
      refine wp_skip ?_
      refine hK9 _ _ ?_
      clear hK9
      refine wp_block ?_
      refine wp_region_st 5 follows (by kernel_rfl) fun w5 hh eh => ?_
      replace q1 := keep_same hh q1
      replace q2 := keep_same hh q2
      replace E := ext_same E eh
      clear hh eh
      refine F.smv ?_; clear F fa; intro fa F
      refine F.smv ?_; clear F fa; intro fa F
      refine F.smv ?_; clear F fa; intro fa F
      refine F.sv (R_remP rfl (F.at rfl) (F.at rfl) (by omega) (by omega)) ?_; clear F fa; intro fa F
      refine F.sv (R_assign rfl (F.at rfl)) ?_; clear F fa; intro fa F
      refine wpStill_nil ?_
      refine F.as ?_; clear F fa; intro fa F
      refine wpList_nil ?_
      rw [show (((u : Nat) : Int) % ((v : Nat) : Int)) = ((u % v : Nat) : Int) from rfl] at F
      show _ ∧ _
      exact ⟨by omega, _, ⟨_, _, rfl, E, q1, q2, (by rw [← hgc]; exact gcd_round (by omega)), (by have := Nat.mod_lt u (show 0 < v by omega); omega), (by omega)⟩, F.sub (.c 3 rfl (.c 5 rfl (.c 1 rfl (.c 2 rfl (.c 7 rfl (.c 8 rfl .n))))))⟩
    · skip
      refine wp_exit ?_
      have hv0 : v = 0 := by omega
      rw [show u = gcT f (i + 1) by rw [← hgc, hv0, Nat.gcd_zero_right]] at F
      refine hK7 _ _ ?_
      clear hK7
      refine wp_region_lit ?_
      refine F.vl (R_add rfl (F.at rfl) (ev_c fa _) (by omega) (by omega)) ?_; clear F fa; intro fa F
      refine F.mv ?_; clear F fa; intro fa F
      refine wpList_nil ?_
      show _ ∧ _
      exact ⟨by omega, _, ⟨rfl, E, q1, q2⟩, F.sub (.c 3 rfl (.c 8 rfl (.c 1 rfl (.c 2 rfl (.c 7 rfl .n)))))⟩
  · skip
    refine wp_exit ?_
    have hi4 : gcT f i = gcE f := by rw [show i = 4 by omega]; rfl
    rw [hi4] at F
    refine hK3 _ _ ?_
    clear hK3
    refine wp_seq_k fun K11 hK11 => ?_
    refine wp_seq_k fun K12 hK12 => ?_
    refine wp_region_lit ?_
    refine F.vl (R_move rfl (ev_c fa _)) ?_; clear F fa; intro fa F
    rw [show (0 : Int) = ((0 : Nat) : Int) from rfl] at F
    refine wpList_nil ?_
    replace q1 : w3.heap[n1]? = some (.cells (tubC (lowF f (gcE f) 0)) 83 (0, 0)) := q1
    refine hK12 _ _ ?_
    clear hK12
    refine wp_block ?_
    have F0 := F.sub (.c 1 rfl (.c 2 rfl (.c 3 rfl .n)))
    refine lp_for F0 (4) (fun i Lv W => Lv = [(18, .int .i64 ((i : Nat) : Int))] ∧ Ext [] w W ∧ W.heap[n1]? = some (.cells (tubC (lowF f (gcE f) i)) 83 (0, 0)) ∧ W.heap[n2]? = some (.cells #[.int .i64 0, .int .i64 0, .int .i64 0, .int .i64 0] 83 (0, 0))) ⟨_, ⟨rfl, E, q1, q2⟩, F.sub (.c 18 rfl (.c 1 rfl (.c 2 rfl (.c 3 rfl .n))))⟩ ?_
    clear F F0
    clear E q1 q2
    rintro i _ fa w6 hi3 ⟨rfl, E, q1, q2⟩ F
    refine wp_seq_k fun K13 hK13 => ?_
    refine wp_region_lit ?_
    refine F.vl (R_lss rfl (F.at rfl) (ev_c fa _)) ?_; clear F fa; intro fa F
    refine wpList_nil ?_
    refine hK13 _ _ ?_
    clear hK13
    refine wp_seq_k fun K14 hK14 => ?_
    refine cd_if F rfl (fun hc19 => ?_) (fun hc19 => ?_)
    · skip
      refine wp_skip ?_
      refine hK14 _ _ ?_
      clear hK14
      refine wp_seq_k fun K15 hK15 => ?_
      refine wp_block ?_
      refine wp_seq_k fun K16 hK16 => ?_
      refine wp_region_lit ?_
      refine F.mv ?_; clear F fa; intro fa F
      refine F.as ?_; clear F fa; intro fa F
      refine wpList_nil ?_
      refine hK16 _ _ ?_
      clear hK16
      obtain ⟨hf0, hf1⟩ := HF.out i (by omega)
      have hlf : lowF f (gcE f) i i = f i := if_neg (by omega)
      refine wp_region_lit ?_
      refine F.mv ?_; clear F fa; intro fa F
      refine F.vl (R_ixArr (n := 4) (sz := 1) rfl (F.at rfl) (F.at rfl) Try.underlying83 (by kernel_rfl) (by omega) (by omega)) ?_; clear F fa; intro fa F
      refine F.vl (R_load rfl (F.at rfl) Try.underlying3 rfl (tub_at q1 (k := i) rfl (by omega))) ?_; clear F fa; intro fa F
      rw [hlf] at F
      refine F.mv ?_; clear F fa; intro fa F
      refine F.vl (R_quoP rfl (F.at rfl) (F.at rfl) (by omega) (by omega) (by omega)) ?_; clear F fa; intro fa F
      refine F.vl (R_ixArr (n := 4) (sz := 1) rfl (F.at rfl) (F.at rfl) Try.underlying83 (by kernel_rfl) (by omega) (by omega)) ?_; clear F fa; intro fa F
      refine sq_to rfl rfl (R_store rfl (F.at rfl) (F.at rfl) rfl (by kernel_rfl) (tub_at q1 (k := i) rfl (by omega)) (free_of_block q1 _)) ?_; intro w7 hw
      replace q1 := put_tub hw q1 (k := i) rfl (by omega)
      replace q2 := keep_cell hw q2 (by omega)
      replace E := ext_cell E hw (fun h => by first | exact absurd h (by omega) | simp)
      clear hw
      rw [tub_congr (g := lowF f (gcE f) (i + 1)) (fun k hk => by simp only [upF, lowF]; by_cases e : k = i; (· rw [if_pos e, if_pos (by omega), e]); (by_cases e2 : k < i; (· rw [if_neg e, if_pos e2, if_pos (by omega)]); (· rw [if_neg e, if_neg e2, if_neg (by omega)])))] at q1
      refine wpList_nil ?_
      refine hK15 _ _ ?_
      clear hK15
      refine wp_region_lit ?_
      refine F.vl (R_add rfl (F.at rfl) (ev_c fa _) (by omega) (by omega)) ?_; clear F fa; intro fa F
      refine F.mv ?_; clear F fa; intro fa F
      refine wpList_nil ?_
      show _ ∧ _
      exact ⟨by omega, _, ⟨rfl, E, q1, q2⟩, F.sub (.c 18 rfl (.c 1 rfl (.c 2 rfl (.c 3 rfl .n))))⟩
    · skip
      refine wp_exit ?_
      rw [show i = 4 by omega] at q1
      refine hK11 _ _ ?_
      clear hK11
      refine wp_seq_k fun K17 hK17 => ?_
      refine wp_region_lit ?_
      refine F.vl (R_loadBlk rfl (F.at rfl) Try.underlying83 rfl (by kernel_rfl) q1) ?_; clear F fa; intro fa F
      refine sq_to rfl rfl (R_storeRow rfl (F.at rfl) (F.at rfl) (by kernel_rfl) (by simp [tubC, Value.oneCell']) q2 rfl) ?_; intro w8 hw
      replace q1 := keep_cells hw q1 (by omega)
      replace q2 := put_row hw q2 rfl
      replace E := ext_cells E hw (fun h => by first | exact absurd h (by omega) | simp)
      clear hw
      refine wpList_nil ?_
      refine hK17 _ _ ?_
      clear hK17
      refine wp_ret ?_
      (try simp only [Exit.inBlock, Exit.then, reduceIte])
      refine rt_v F (rs_c F rfl rfl Try.underlying83 rfl (by kernel_rfl) q2) ?_
      exact ⟨rfl, E⟩
end Go.Proofs.Ytdjeecgddbjbeaa
