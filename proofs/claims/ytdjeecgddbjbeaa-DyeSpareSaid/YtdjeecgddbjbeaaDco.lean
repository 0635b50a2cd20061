/- The program's Correct. Conditions: all arguments are valid. -/
import Derived.Test.YtdjeecgddbjbeaaDmt
namespace Go.Proofs.Ytdjeecgddbjbeaa
open Go.RowKit Go.Maps
set_option linter.unusedVariables false
set_option linter.unusedSimpArgs false
/-- What has to be added. -/
def mrG (t q : List Int) : Nat → Int := fun k => val q k - val t k
def mrF (t q : List Int) (i : Nat) : Nat → Int := fun k => if k < i then mrG t q k else 0
def mrC (t q : List Int) : Int × Int := (prt (mrG t q), 0)
/-- A recipe holds another, and matches. -/
def corB (x : Vm) (t : List Int) (s : Nat → Int) (ls : List Int) (q : List Int) : Bool := ((List.range 4).all fun k => decide (0 ≤ mrG t q k)) && matE x (val q) s ls
def corO (x : Vm) (t : List Int) (s : Nat → Int) (ls : List Int) (pre : List (List Int)) : Option (List Int) := pickO (mrC t) (pre.filter (corB x t s ls))
def corR (x : Vm) (t : List Int) (s : Nat → Int) (ls : List Int) : List Int × Int := match corO x t s ls (recL x.D.length) with
  | none => ([], 11)
  | some q => (cutL (mrG t q) x.D.length, 0)
theorem cor_neg {x : Vm} {t q ls : List Int} {s : Nat → Int} {k : Nat} (hk : k < 4) (h : mrG t q k < 0) : corB x t s ls q = false := by
  rw [corB, show ((List.range 4).all fun k => decide (0 ≤ mrG t q k)) = false from List.all_eq_false.2 ⟨k, by simpa using hk, by simp; omega⟩, Bool.false_and]
theorem cor_ok {x : Vm} {t q ls : List Int} {s : Nat → Int} (h : ∀ k, k < 4 → 0 ≤ mrG t q k) : corB x t s ls q = matE x (val q) s ls := by
  rw [corB, show ((List.range 4).all fun k => decide (0 ≤ mrG t q k)) = true from List.all_eq_true.2 fun k hk => decide_eq_true (h k (by simpa using hk)), Bool.true_and]
theorem corO_skip {x : Vm} {t q ls : List Int} {s : Nat → Int} {pre : List (List Int)} (h : corB x t s ls q = false) : corO x t s ls (pre ++ [q]) = corO x t s ls pre := by
  rw [corO, corO, filter_snoc, h]; rfl
theorem corO_take {x : Vm} {t q ls : List Int} {s : Nat → Int} {pre : List (List Int)} (h : corB x t s ls q = true) : corO x t s ls (pre ++ [q]) = offO (mrC t) (corO x t s ls pre) q := by
  rw [corO, corO, filter_snoc, h, if_pos rfl, pick_snoc]
theorem mrF_zero (t q : List Int) : mrF t q 0 = zf := by funext k; simp [mrF, zf]
theorem mrF_up (t q : List Int) (i : Nat) : upF (mrF t q i) i (mrG t q i) = mrF t q (i + 1) := by
  funext k
  rw [upF, mrF, mrF]
  by_cases h : k = i
  · subst h; simp
  · by_cases h2 : k < i
    · simp [h, h2, show k < i + 1 by omega]
    · simp [h, h2, show ¬ k < i + 1 by omega]
theorem mrF_end (t q : List Int) : tubC (mrF t q 4) = tubC (mrG t q) := tub_congr fun k hk => if_pos hk
theorem rowOf_near {α : Type} {g : α → Nat → Int} {c : α → Int × Int} {o : Option α} {ob : Nat} {W : World} {T : TypeId} {fz : Nat × Nat} (h : W.heap[ob]? = some (.cells (nearO g c o) T fz)) : rowOf ob W = none := by
  rw [rowOf, h]
  cases o <;> rfl
/-- What the rounds of Correct keep. -/
structure CorI (x : Vm) (t : List Int) (sv lv : Value) (w : World) (B n6 n7 n9 n10 n11 n12 : Nat) (o : Option (List Int)) (W : World) : Prop where
  q6 : W.heap[n6]? = some (.cells #[sv] 25 (0, 0))
  q7 : W.heap[n7]? = some (.cells #[lv] 25 (0, 0))
  q9 : W.heap[n9]? = some (.cells #[.int .i64 0] 35 (0, 0))
  q10 : W.heap[n10]? = some (.cells #[.int .i64 x.B, .slice x.da x.D.length x.dc, .slice x.la x.L.length x.lc, .int .i64 x.tol] 80 (0, 0))
  q11 : W.heap[n11]? = some (.cells (tubC (val t)) 83 (0, 0))
  q12 : W.heap[n12]? = some (.cells (nearO (mrG t) (mrC t) o) 88 (0, 0))
  E : Ext [] w W
  sz : B ≤ W.heap.size
theorem CorI.kept {x : Vm} {t : List Int} {sv lv : Value} {w : World} {B n6 n7 n9 n10 n11 n12 : Nat} {o : Option (List Int)} {W V : World} {row : Option Nat} (h : CorI x t sv lv w B n6 n7 n9 n10 n11 n12 o W) (hg : W.grownBy V row) (h1 : ∀ r, row = some r → B ≤ r) (hB : n6 < B ∧ n7 < B ∧ n9 < B ∧ n10 < B ∧ n11 < B ∧ n12 < B ∧ w.heap.size ≤ B) : CorI x t sv lv w B n6 n7 n9 n10 n11 n12 o V := by
  obtain ⟨b6, b7, b9, b10, b11, b12, bw⟩ := hB
  have hk : ∀ {k : Nat} {cs : Array Value} {T : TypeId} {fz : Nat × Nat}, W.heap[k]? = some (.cells cs T fz) → k < B → V.heap[k]? = some (.cells cs T fz) :=
    fun {k cs T fz} hq hb => (hg.block k (blk_lt hq) (fun e => by have := h1 k e.symm; omega)).trans hq
  exact ⟨hk h.q6 b6, hk h.q7 b7, hk h.q9 b9, hk h.q10 b10, hk h.q11 b11, hk h.q12 b12, ext_grownX h.E hg fun b e hl => (by have := h1 b e; omega), Nat.le_trans h.sz hg.size⟩
set_option maxRecDepth 100000 in
set_option maxHeartbeats 4000000 in
theorem xCorrect_ok (x : Vm) (hv : VOk x) (t : List Int) (ht : RcpOk x t) (s : List Int) (hs : SmpOk x s) (ls : List Int) (hl : LmpsOk x ls) (hll : ls.length ≤ 1000) (ta sa la : Option Addr) (tc sc lc : Nat) (w : World) (h : x.At w) (hp : IsRows w (.slice ta t.length tc) 1 (t.map intRow)) (hr : IsRows w (.slice sa s.length sc) 1 (s.map intRow)) (hq : IsRows w (.slice la ls.length lc) 1 (ls.map intRow)) :
    Calls Try.prog 20 #[.agg #[.int .i64 x.B, .slice x.da x.D.length x.dc, .slice x.la x.L.length x.lc, .int .i64 x.tol], .slice ta t.length tc, .slice sa s.length sc, .slice la ls.length lc] w (IntsPost (corR x t (val s) ls) w) := by
  have E : Ext [] w w := Ext.refl _ _
  have HX := Lib.hid h
  have HV := Lib.hid hv
  have HS := Lib.hid hs
  have HR := Lib.hid hr
  have HQ := Lib.hid hq
  have HP := Lib.hid hp
  have HL := Lib.hid hl
  have HT := Lib.hid ht
  have HTS := Lib.hid ht.tub
  have hd4 := hv.d4
  obtain ⟨hnd, hrl⟩ := recL_all x.D.length (by omega)
  have HRL := Lib.hid hrl
  clear h hv hs hr hq hl hnd hrl ht hp
  refine calls_hasM 64 Try.func20 rfl Try.ntmps20 (Nat.le_of_ble_eq_true rfl) ?_
  intro fa F
  refine wp_seq_k fun K1 hK1 => ?_
  refine wp_region_lit ?_
  refine sq_new F rfl (by decide) rfl (R_box rfl (F.at rfl)) ?_; clear F fa; intro fa w1 F hw
  obtain ⟨n4, hn⟩ : ∃ n, n = w.heap.size := ⟨_, rfl⟩
  rw [← hn] at F
  have s4 : w.heap.size ≤ n4 := Nat.le_of_eq hn.symm
  have l4_E : w.heap.size ≤ n4 := by rw [hn]; exact E.size
  replace E := ext_alloc E hw
  have q4 := new_row hw hn
  clear hw hn
  refine sq_new F rfl (by decide) rfl (R_box rfl (F.at rfl)) ?_; clear F fa; intro fa w2 F hw
  obtain ⟨n6, hn⟩ : ∃ n, n = w1.heap.size := ⟨_, rfl⟩
  rw [← hn] at F
  have s6 : w1.heap.size ≤ n6 := Nat.le_of_eq hn.symm
  have l6_E : w.heap.size ≤ n6 := by rw [hn]; exact E.size
  have m6_4 : n4 < n6 := by rw [hn]; exact blk_lt q4
  replace q4 := keep_alloc hw q4
  replace E := ext_alloc E hw
  have q6 := new_one hw rfl hn
  clear hw hn
  refine sq_new F rfl (by decide) rfl (R_box rfl (F.at rfl)) ?_; clear F fa; intro fa w3 F hw
  obtain ⟨n7, hn⟩ : ∃ n, n = w2.heap.size := ⟨_, rfl⟩
  rw [← hn] at F
  have s7 : w2.heap.size ≤ n7 := Nat.le_of_eq hn.symm
  have l7_E : w.heap.size ≤ n7 := by rw [hn]; exact E.size
  have m7_4 : n4 < n7 := by rw [hn]; exact blk_lt q4
  have m7_6 : n6 < n7 := by rw [hn]; exact blk_lt q6
  replace q4 := keep_alloc hw q4
  replace q6 := keep_alloc hw q6
  replace E := ext_alloc E hw
  have q7 := new_one hw rfl hn
  clear hw hn
  refine F.vl (R_assign rfl (ev_c fa _)) ?_; clear F fa; intro fa F
  refine sq_new F rfl (by decide) rfl (R_alloc rfl Try.zeroValue35) ?_; clear F fa; intro fa w4 F hw
  obtain ⟨n9, hn⟩ : ∃ n, n = w3.heap.size := ⟨_, rfl⟩
  rw [← hn] at F
  have s9 : w3.heap.size ≤ n9 := Nat.le_of_eq hn.symm
  have l9_E : w.heap.size ≤ n9 := by rw [hn]; exact E.size
  have m9_4 : n4 < n9 := by rw [hn]; exact blk_lt q4
  have m9_6 : n6 < n9 := by rw [hn]; exact blk_lt q6
  have m9_7 : n7 < n9 := by rw [hn]; exact blk_lt q7
  replace q4 := keep_alloc hw q4
  replace q6 := keep_alloc hw q6
  replace q7 := keep_alloc hw q7
  replace E := ext_alloc E hw
  have q9 := new_one hw rfl hn
  clear hw hn
  refine wpList_nil ?_
  refine hK1 _ _ ?_
  clear hK1
  refine wp_scope_straight ?_
  refine wp_seq_k fun K2 hK2 => ?_
  refine wp_region_lit ?_
  refine sq_defer F rfl rfl (R_defer rfl rfl (mpS (F.at rfl) mp0)) ?_; clear F fa; intro fa F
  refine wpList_nil ?_
  refine hK2 _ _ ?_
  clear hK2
  refine wp_seq_k fun K3 hK3 => ?_
  refine wp_region_lit ?_
  refine F.vl (R_loadBlk rfl (F.at rfl) Try.underlying24 rfl (by kernel_rfl) q4) ?_; clear F fa; intro fa F
  refine sq_call F rfl (by decide) rfl (R_callV rfl rfl Try.call54 (mpS (F.at rfl) mp0)) (begin_ok x HV.out _ (HX.out.ext E)) fun e w5 hR => ?_
  obtain ⟨rfl, e9⟩ := hR
  refine ⟨_, rfl, ?_⟩; clear F fa; intro fa F
  replace q4 := (e9).keep0 q4
  replace q6 := (e9).keep0 q6
  replace q7 := (e9).keep0 q7
  replace q9 := (e9).keep0 q9
  replace E := ext_same E (e9)
  clear e9
  refine sq_new F rfl (by decide) rfl (R_alloc rfl Try.zeroValue80) ?_; clear F fa; intro fa w6 F hw
  obtain ⟨n10, hn⟩ : ∃ n, n = w5.heap.size := ⟨_, rfl⟩
  rw [← hn] at F
  have s10 : w5.heap.size ≤ n10 := Nat.le_of_eq hn.symm
  have l10_E : w.heap.size ≤ n10 := by rw [hn]; exact E.size
  have m10_4 : n4 < n10 := by rw [hn]; exact blk_lt q4
  have m10_6 : n6 < n10 := by rw [hn]; exact blk_lt q6
  have m10_7 : n7 < n10 := by rw [hn]; exact blk_lt q7
  have m10_9 : n9 < n10 := by rw [hn]; exact blk_lt q9
  replace q4 := keep_alloc hw q4
  replace q6 := keep_alloc hw q6
  replace q7 := keep_alloc hw q7
  replace q9 := keep_alloc hw q9
  replace E := ext_alloc E hw
  have q10 := new_row hw hn
  clear hw hn
  refine sq_to rfl rfl (R_storeRow rfl (F.at rfl) (F.at rfl) (by kernel_rfl) (by first | (simp [Value.oneCell']; done) | (simp [Value.oneCell', id]; done)) q10 rfl) ?_; intro w7 hw
  replace q4 := keep_cells hw q4 (by omega)
  replace q6 := keep_cells hw q6 (by omega)
  replace q7 := keep_cells hw q7 (by omega)
  replace q9 := keep_cells hw q9 (by omega)
  replace q10 := put_row hw q10 rfl
  replace E := ext_cells E hw (fun h => by first | exact absurd h (by omega) | simp)
  clear hw
  refine wpList_nil ?_
  refine hK3 _ _ ?_
  clear hK3
  refine wp_seq_k fun K4 hK4 => ?_
  refine wp_region_lit ?_
  refine F.vl (R_loadBlk rfl (F.at rfl) Try.underlying80 rfl (by kernel_rfl) q10) ?_; clear F fa; intro fa F
  refine F.mv ?_; clear F fa; intro fa F
  refine sq_call F rfl (by decide) rfl (R_callV rfl rfl Try.call55 (mpS (F.at rfl) (mpS (F.at rfl) mp0))) (recipe_ok x HV.out t HT.out ta tc _ (HP.out.ext E (by simp))) fun e w8 hR => ?_
  obtain ⟨rfl, e9⟩ := hR
  refine ⟨_, rfl, ?_⟩; clear F fa; intro fa F
  replace q4 := (e9).keep0 q4
  replace q6 := (e9).keep0 q6
  replace q7 := (e9).keep0 q7
  replace q9 := (e9).keep0 q9
  replace q10 := (e9).keep0 q10
  replace E := ext_same E (e9)
  clear e9
  refine sq_new F rfl (by decide) rfl (R_alloc rfl Try.zeroValue83) ?_; clear F fa; intro fa w9 F hw
  obtain ⟨n11, hn⟩ : ∃ n, n = w8.heap.size := ⟨_, rfl⟩
  rw [← hn] at F
  have s11 : w8.heap.size ≤ n11 := Nat.le_of_eq hn.symm
  have l11_E : w.heap.size ≤ n11 := by rw [hn]; exact E.size
  have m11_4 : n4 < n11 := by rw [hn]; exact blk_lt q4
  have m11_6 : n6 < n11 := by rw [hn]; exact blk_lt q6
  have m11_7 : n7 < n11 := by rw [hn]; exact blk_lt q7
  have m11_9 : n9 < n11 := by rw [hn]; exact blk_lt q9
  have m11_10 : n10 < n11 := by rw [hn]; exact blk_lt q10
  replace q4 := keep_alloc hw q4
  replace q6 := keep_alloc hw q6
  replace q7 := keep_alloc hw q7
  replace q9 := keep_alloc hw q9
  replace q10 := keep_alloc hw q10
  replace E := ext_alloc E hw
  have q11 := new_row hw hn
  clear hw hn
  refine sq_to rfl rfl (R_storeRow rfl (F.at rfl) (F.at rfl) (by kernel_rfl) (by simp [tubC, Value.oneCell']) q11 rfl) ?_; intro w10 hw
  replace q4 := keep_cells hw q4 (by omega)
  replace q6 := keep_cells hw q6 (by omega)
  replace q7 := keep_cells hw q7 (by omega)
  replace q9 := keep_cells hw q9 (by omega)
  replace q10 := keep_cells hw q10 (by omega)
  replace q11 := put_row hw q11 rfl
  replace E := ext_cells E hw (fun h => by first | exact absurd h (by omega) | simp)
  clear hw
  refine wpList_nil ?_
  refine hK4 _ _ ?_
  clear hK4
  refine wp_seq_k fun K5 hK5 => ?_
  refine wp_region_lit ?_
  refine F.vl (R_loadBlk rfl (F.at rfl) Try.underlying80 rfl (by kernel_rfl) q10) ?_; clear F fa; intro fa F
  refine F.vl (R_load rfl (F.at rfl) Try.underlying25 rfl ((cells_of_block q6 0).trans (get0))) ?_; clear F fa; intro fa F
  refine sq_call F rfl (by decide) rfl (R_callV rfl rfl Try.call56 (mpS (F.at rfl) (mpS (F.at rfl) mp0))) (sample_ok x HV.out s HS.out sa sc _ (HR.out.ext E (by simp))) fun e w11 hR => ?_
  obtain ⟨rfl, e9⟩ := hR
  refine ⟨_, rfl, ?_⟩; clear F fa; intro fa F
  replace q4 := (e9).keep0 q4
  replace q6 := (e9).keep0 q6
  replace q7 := (e9).keep0 q7
  replace q9 := (e9).keep0 q9
  replace q10 := (e9).keep0 q10
  replace q11 := (e9).keep0 q11
  replace E := ext_same E (e9)
  clear e9
  refine wpList_nil ?_
  refine hK5 _ _ ?_
  clear hK5
  refine wp_seq_k fun K6 hK6 => ?_
  refine wp_region_lit ?_
  refine F.vl (R_loadBlk rfl (F.at rfl) Try.underlying80 rfl (by kernel_rfl) q10) ?_; clear F fa; intro fa F
  refine F.vl (R_load rfl (F.at rfl) Try.underlying25 rfl ((cells_of_block q7 0).trans (get0))) ?_; clear F fa; intro fa F
  refine sq_call F rfl (by decide) rfl (R_callV rfl rfl Try.call57 (mpS (F.at rfl) (mpS (F.at rfl) mp0))) (lamps_ok x HV.out ls HL.out hll la lc _ (HX.out.ext E) (HQ.out.ext E (by simp))) fun e w12 hR => ?_
  obtain ⟨rfl, e9⟩ := hR
  refine ⟨_, rfl, ?_⟩; clear F fa; intro fa F
  replace q4 := (e9).keep0 q4
  replace q6 := (e9).keep0 q6
  replace q7 := (e9).keep0 q7
  replace q9 := (e9).keep0 q9
  replace q10 := (e9).keep0 q10
  replace q11 := (e9).keep0 q11
  replace E := ext_same E (e9)
  clear e9
  refine wpList_nil ?_
  refine hK6 _ _ ?_
  clear hK6
  refine wp_seq_k fun K7 hK7 => ?_
  refine wp_region_lit ?_
  refine sq_new F rfl (by decide) rfl (R_alloc rfl Try.zeroValue88) ?_; clear F fa; intro fa w13 F hw
  obtain ⟨n12, hn⟩ : ∃ n, n = w12.heap.size := ⟨_, rfl⟩
  rw [← hn] at F
  have s12 : w12.heap.size ≤ n12 := Nat.le_of_eq hn.symm
  have l12_E : w.heap.size ≤ n12 := by rw [hn]; exact E.size
  have m12_4 : n4 < n12 := by rw [hn]; exact blk_lt q4
  have m12_6 : n6 < n12 := by rw [hn]; exact blk_lt q6
  have m12_7 : n7 < n12 := by rw [hn]; exact blk_lt q7
  have m12_9 : n9 < n12 := by rw [hn]; exact blk_lt q9
  have m12_10 : n10 < n12 := by rw [hn]; exact blk_lt q10
  have m12_11 : n11 < n12 := by rw [hn]; exact blk_lt q11
  replace q4 := keep_alloc hw q4
  replace q6 := keep_alloc hw q6
  replace q7 := keep_alloc hw q7
  replace q9 := keep_alloc hw q9
  replace q10 := keep_alloc hw q10
  replace q11 := keep_alloc hw q11
  replace E := ext_alloc E hw
  have q12 := new_row hw hn
  clear hw hn
  refine wpList_nil ?_
  replace q12 : w13.heap[n12]? = some (.cells (nearO (mrG t) (mrC t) (corO x t (val s) ls [])) 88 (0, 0)) := q12
  refine hK7 _ _ ?_
  clear hK7
  refine wp_seq_k fun K8 hK8 => ?_
  refine wp_label ?_
  refine hK8 _ _ ?_
  clear hK8
  refine wp_seq_k fun K9 hK9 => ?_
  refine wp_seq_k fun K10 hK10 => ?_
  refine wp_region_lit ?_
  refine F.vl (R_loadBlk rfl (F.at rfl) Try.underlying80 rfl (by kernel_rfl) q10) ?_; clear F fa; intro fa F
  have b12' := blk_lt q12
  refine sq_call F rfl (by decide) rfl (R_callV rfl rfl Try.call58 (mpS (F.at rfl) mp0)) (recipes_any x _) fun e w14 hR => ?_
  obtain ⟨nb, rfl, hnb, qb, e9⟩ := hR
  refine ⟨_, rfl, ?_⟩; clear F fa; intro fa F
  replace q4 := (e9).keep0 q4
  replace q6 := (e9).keep0 q6
  replace q7 := (e9).keep0 q7
  replace q9 := (e9).keep0 q9
  replace q10 := (e9).keep0 q10
  replace q11 := (e9).keep0 q11
  replace q12 := (e9).keep0 q12
  replace E := ext_same E (e9)
  clear e9
  refine wpList_nil ?_
  refine hK10 _ _ ?_
  clear hK10
  refine wp_block ?_
  clear q4
  obtain ⟨w3, hw3⟩ : ∃ w3, w3 = w14 := ⟨_, rfl⟩
  have b6 := blk_lt q6
  have b7 := blk_lt q7
  have b9 := blk_lt q9
  have b10 := blk_lt q10
  have b11 := blk_lt q11
  have b12 := blk_lt q12
  have bb := blk_lt qb
  have bw := E.size
  have hr0 : rowOf n12 w14 = none := rowOf_near q12
  have hseq := recipes1_seq x hd4 [] n12 nb w14 b12 (by simp) (fun r e => by rw [hr0] at e; cases e) ⟨by simp, by omega, by rw [hr0]; simp⟩ qb
  have hI0 : CorI x t (.slice sa s.length sc) (.slice la ls.length lc) w w14.heap.size n6 n7 n9 n10 n11 n12 (corO x t (val s) ls []) w14 := ⟨q6, q7, q9, q10, q11, q12, E, Nat.le_refl _⟩
  replace F := F.sub (.c 6 rfl (.c 7 rfl (.c 9 rfl (.c 10 rfl (.c 11 rfl (.c 12 rfl (.c 28 rfl .n)))))))
  refine range_R (F.at rfl) Try.call102 hseq (fun _ => rfl) b12 (fun pre W => CorI x t (.slice sa s.length sc) (.slice la ls.length lc) w w14.heap.size n6 n7 n9 n10 n11 n12 (corO x t (val s) ls pre) W) ?h1 ?ho ?hc hI0 (fun pre q a' W => ∃ nt, Has 64 [] a' [(6, .pointer (some ⟨n6, 0, none⟩)), (7, .pointer (some ⟨n7, 0, none⟩)), (9, .pointer (some ⟨n9, 0, none⟩)), (10, .pointer (some ⟨n10, 0, none⟩)), (11, .pointer (some ⟨n11, 0, none⟩)), (12, .pointer (some ⟨n12, 0, none⟩)), (13, .pointer (some ⟨nt, 0, none⟩))] ∧ CorI x t (.slice sa s.length sc) (.slice la ls.length lc) w w14.heap.size n6 n7 n9 n10 n11 n12 (corO x t (val s) ls pre) W ∧ W.heap[nt]? = some (.cells (tubC (val q)) 83 (0, 0)) ∧ w14.heap.size ≤ nt) ?hax ?assign ?body ?done
  case h1 => rintro pre U V hI hg; exact hI.kept hg (fun r e => by cases e) ⟨b6, b7, b9, b10, b11, b12, bw⟩
  case ho => rintro pre U V r hI hr ⟨o, ho, hc⟩ hg; exact hI.kept hg (fun r' e => by cases e; exact hr) ⟨b6, b7, b9, b10, b11, b12, bw⟩
  case hc => rintro pre U V r hI hr hsf - hg; exact hI.kept hg (fun r' e => by cases e; exact hr) ⟨b6, b7, b9, b10, b11, b12, bw⟩
  case hax => rintro pre q a' U V r ⟨nt, hF, hI, hnt, hn⟩ hr ⟨o, ho, hc⟩ hg; refine ⟨nt, hF, hI.kept hg (fun r' e => by cases e; exact hr) ⟨b6, b7, b9, b10, b11, b12, bw⟩, (hg.block nt (blk_lt hnt) (fun e => ?_)).trans hnt, hn⟩; cases e; rw [ho] at hnt; cases hnt; cases hc
  case assign =>
    clear q6 q7 q9 q10 q11 q12 qb E hI0
    rintro l pre q W K ⟨q6, q7, q9, q10, q11, q12, E, hsz⟩ hK
    have hbo := blk_lt q12
    refine wpIn_act (F.param (p := 29) (by decide) (.agg (tubC (val q)))) ?_
    clear F fa
    intro fa F
    have ER : Ext [] W W := Ext.refl _ _
    refine wpI_region_lit rfl (fun h => by obtain ⟨_, _, h⟩ := h; exact h) ?_
    refine sq_new F rfl (by decide) rfl (R_alloc rfl Try.zeroValue83) ?_; clear F fa; intro fa w15 F hw
    obtain ⟨n13, hn⟩ : ∃ n, n = W.heap.size := ⟨_, rfl⟩
    rw [← hn] at F
    have s13 : W.heap.size ≤ n13 := Nat.le_of_eq hn.symm
    have l13_E : w.heap.size ≤ n13 := by rw [hn]; exact E.size
    have l13_ER : W.heap.size ≤ n13 := by rw [hn]; exact ER.size
    have m13_6 : n6 < n13 := by rw [hn]; exact blk_lt q6
    have m13_7 : n7 < n13 := by rw [hn]; exact blk_lt q7
    have m13_9 : n9 < n13 := by rw [hn]; exact blk_lt q9
    have m13_10 : n10 < n13 := by rw [hn]; exact blk_lt q10
    have m13_11 : n11 < n13 := by rw [hn]; exact blk_lt q11
    have m13_12 : n12 < n13 := by rw [hn]; exact blk_lt q12
    replace q6 := keep_alloc hw q6
    replace q7 := keep_alloc hw q7
    replace q9 := keep_alloc hw q9
    replace q10 := keep_alloc hw q10
    replace q11 := keep_alloc hw q11
    replace q12 := keep_alloc hw q12
    replace E := ext_alloc E hw
    replace ER := ext_alloc ER hw
    have q13 := new_row hw hn
    clear hw hn
    refine sq_to rfl rfl (R_storeRow rfl (F.at rfl) (F.at rfl) (by kernel_rfl) (by simp [tubC, Value.oneCell']) q13 rfl) ?_; intro w16 hw
    replace q6 := keep_cells hw q6 (by omega)
    replace q7 := keep_cells hw q7 (by omega)
    replace q9 := keep_cells hw q9 (by omega)
    replace q10 := keep_cells hw q10 (by omega)
    replace q11 := keep_cells hw q11 (by omega)
    replace q12 := keep_cells hw q12 (by omega)
    replace q13 := put_row hw q13 rfl
    replace E := ext_cells E hw (fun h => by first | exact absurd h (by omega) | simp)
    replace ER := ext_cells ER hw (fun h => by first | exact absurd h (by omega) | simp)
    clear hw
    refine wpList_nil ?_
    exact hK _ _ (keeps_ext ER (by simp)) (keepR_ext0 ER hbo) ⟨n13, F.sub (.c 6 rfl (.c 7 rfl (.c 9 rfl (.c 10 rfl (.c 11 rfl (.c 12 rfl (.c 13 rfl .n))))))), ⟨q6, q7, q9, q10, q11, q12, E, Nat.le_trans hsz ER.size⟩, q13, by omega⟩
  case body =>
    clear q6 q7 q9 q10 q11 q12 qb E hI0 F fa
    rintro l pre q fa W0 ⟨nt, F, ⟨q6, q7, q9, q10, q11, q12, E, hsz⟩, q13, hnt⟩ hpx
    have hqm : q ∈ recL x.D.length := hpx.subset (by simp)
    obtain ⟨hql, hqs, hqg, hq1, hq6, hqb⟩ := HRL.out q hqm
    have hro : rowOf n12 W0 = none := rowOf_near q12
    have ER : Ext [n12] W0 W0 := Ext.refl _ _
    have hsz0 := hsz
    refine wpIn_block ?_
    refine wpIn_seq_k fun K11 hK11 => ?_
    refine wpI_region_lit rfl (fun h => by obtain ⟨_, _, h⟩ := h; exact h) ?_
    refine sq_new F rfl (by decide) rfl (R_alloc rfl Try.zeroValue83) ?_; clear F fa; intro fa w17 F hw
    obtain ⟨n14, hn⟩ : ∃ n, n = W0.heap.size := ⟨_, rfl⟩
    rw [← hn] at F
    have s14 : W0.heap.size ≤ n14 := Nat.le_of_eq hn.symm
    have l14_E : w.heap.size ≤ n14 := by rw [hn]; exact E.size
    have l14_ER : W0.heap.size ≤ n14 := by rw [hn]; exact ER.size
    have m14_6 : n6 < n14 := by rw [hn]; exact blk_lt q6
    have m14_7 : n7 < n14 := by rw [hn]; exact blk_lt q7
    have m14_9 : n9 < n14 := by rw [hn]; exact blk_lt q9
    have m14_10 : n10 < n14 := by rw [hn]; exact blk_lt q10
    have m14_11 : n11 < n14 := by rw [hn]; exact blk_lt q11
    have m14_12 : n12 < n14 := by rw [hn]; exact blk_lt q12
    have m14_13 : nt < n14 := by rw [hn]; exact blk_lt q13
    replace q6 := keep_alloc hw q6
    replace q7 := keep_alloc hw q7
    replace q9 := keep_alloc hw q9
    replace q10 := keep_alloc hw q10
    replace q11 := keep_alloc hw q11
    replace q12 := keep_alloc hw q12
    replace q13 := keep_alloc hw q13
    replace E := ext_alloc E hw
    replace ER := ext_alloc ER hw
    have q14 := new_row hw hn
    clear hw hn
    refine wpList_nil ?_
    replace q14 : w17.heap[n14]? = some (.cells (tubC (mrF t q 0)) 83 (0, 0)) := by rw [mrF_zero]; exact q14
    refine hK11 _ _ ?_
    clear hK11
    refine wpIn_seq_k fun K12 hK12 => ?_
    refine wpIn_seq_k fun K13 hK13 => ?_
    refine wpI_region_lit rfl (fun h => by obtain ⟨_, _, h⟩ := h; exact h) ?_
    refine F.vl (R_move rfl (ev_c fa _)) ?_; clear F fa; intro fa F
    refine wpList_nil ?_
    refine hK13 _ _ ?_
    clear hK13
    refine wpIn_block ?_
    have F0 := F.sub (.c 6 rfl (.c 7 rfl (.c 10 rfl (.c 11 rfl (.c 12 rfl (.c 13 rfl (.c 14 rfl .n)))))))
    refine lpI_for F0 (4) (fun i Lv W => Lv = [(30, .int .i64 ((i : Nat) : Int))] ∧ Ext [] w W ∧ Ext [n12] W0 W ∧ W.heap[n6]? = some (.cells #[.slice sa s.length sc] 25 (0, 0)) ∧ W.heap[n7]? = some (.cells #[.slice la ls.length lc] 25 (0, 0)) ∧ W.heap[n9]? = some (.cells #[.int .i64 0] 35 (0, 0)) ∧ W.heap[n10]? = some (.cells #[.int .i64 x.B, .slice x.da x.D.length x.dc, .slice x.la x.L.length x.lc, .int .i64 x.tol] 80 (0, 0)) ∧ W.heap[n11]? = some (.cells (tubC (val t)) 83 (0, 0)) ∧ W.heap[n12]? = some (.cells (nearO (mrG t) (mrC t) (corO x t (val s) ls pre)) 88 (0, 0)) ∧ W.heap[nt]? = some (.cells (tubC (val q)) 83 (0, 0)) ∧ W.heap[n14]? = some (.cells (tubC (mrF t q i)) 83 (0, 0)) ∧ ∀ j, j < i → 0 ≤ mrG t q j) ⟨_, ⟨rfl, E, ER, q6, q7, q9, q10, q11, q12, q13, q14, (fun j h => by omega)⟩, F.sub (.c 30 rfl (.c 6 rfl (.c 7 rfl (.c 10 rfl (.c 11 rfl (.c 12 rfl (.c 13 rfl (.c 14 rfl .n))))))))⟩ ?_
    clear F F0
    clear E ER q6 q7 q9 q10 q11 q12 q13 q14
    rintro i _ fa w18 hi1 ⟨rfl, E, ER, q6, q7, q9, q10, q11, q12, q13, q14, hge⟩ F
    refine wpIn_seq_k fun K14 hK14 => ?_
    refine wpI_region_lit rfl (fun h => by obtain ⟨_, _, h⟩ := h; exact h) ?_
    refine F.vl (R_lss rfl (F.at rfl) (ev_c fa _)) ?_; clear F fa; intro fa F
    refine wpList_nil ?_
    refine hK14 _ _ ?_
    clear hK14
    refine wpIn_seq_k fun K15 hK15 => ?_
    refine cdI_if F rfl (fun hc31 => ?_) (fun hc31 => ?_)
    · skip
      refine wpIn_skip ?_
      refine hK15 _ _ ?_
      clear hK15
      refine wpIn_seq_k fun K16 hK16 => ?_
      refine wpIn_block ?_
      refine wpIn_seq_k fun K17 hK17 => ?_
      refine wpI_region_lit rfl (fun h => by obtain ⟨_, _, h⟩ := h; exact h) ?_
      refine F.mv ?_; clear F fa; intro fa F
      refine F.as ?_; clear F fa; intro fa F
      refine wpList_nil ?_
      refine hK17 _ _ ?_
      clear hK17
      refine wpIn_seq_k fun K18 hK18 => ?_
      have hqi := hqs i (by omega)
      have hti := HTS.out i (by omega)
      have hmg : val q i - val t i = mrG t q i := rfl
      refine region_xI (Ext [] w18) (some 9) follows rfl (fun h => by obtain ⟨_, _, h⟩ := h; exact h) fun w19 hh eh => ?_
      have q6_ := q6
      replace q6 := keep_same hh q6
      have q7_ := q7
      replace q7 := keep_same hh q7
      have q9_ := q9
      replace q9 := keep_same hh q9
      have q10_ := q10
      replace q10 := keep_same hh q10
      have q11_ := q11
      replace q11 := keep_same hh q11
      have q12_ := q12
      replace q12 := keep_same hh q12
      have q13_ := q13
      replace q13 := keep_same hh q13
      have q14_ := q14
      replace q14 := keep_same hh q14
      have E_ := E
      have zEw19 := E.size
      replace E := ext_same E eh
      have ER_ := ER
      have zERw19 := ER.size
      replace ER := ext_same ER eh
      have eT := eh
      clear hh eh
      refine F.x (i := 0) rfl (fun w' => R_move rfl (F.at rfl)) (fun _ => eT) ?_; clear F fa; intro fa F
      refine F.x (i := 1) rfl (fun w' => R_move rfl (F.at rfl)) (fun _ => eT) ?_; clear F fa; intro fa F
      refine F.x (i := 2) rfl (fun w' => R_ixArr (n := 4) (sz := 1) rfl (F.at rfl) (F.at rfl) Try.underlying83 (by kernel_rfl) (by omega) (by omega)) (fun _ => eT) ?_; clear F fa; intro fa F
      refine F.xr (i := 3) rfl (fun w' hS => R_load rfl (F.at rfl) Try.underlying3 rfl (tub_at (hS.keep q13_ (by simp)) (k := i) rfl (by omega))) (fun _ => eT) ?_; clear F fa; intro fa F
      refine F.x (i := 4) rfl (fun w' => R_move rfl (F.at rfl)) (fun _ => eT) ?_; clear F fa; intro fa F
      refine F.x (i := 5) rfl (fun w' => R_ixArr (n := 4) (sz := 1) rfl (F.at rfl) (F.at rfl) Try.underlying83 (by kernel_rfl) (by omega) (by omega)) (fun _ => eT) ?_; clear F fa; intro fa F
      refine F.xr (i := 6) rfl (fun w' hS => R_load rfl (F.at rfl) Try.underlying3 rfl (tub_at (hS.keep q11_ (by simp)) (k := i) rfl (by omega))) (fun _ => eT) ?_; clear F fa; intro fa F
      refine F.x (i := 7) rfl (fun w' => R_sub rfl (F.at rfl) (F.at rfl) (by omega) (by omega)) (fun _ => eT) ?_; clear F fa; intro fa F
      refine F.x (i := 8) rfl (fun w' => R_ixArr (n := 4) (sz := 1) rfl (F.at rfl) (F.at rfl) Try.underlying83 (by kernel_rfl) (by omega) (by omega)) (fun _ => eT) ?_; clear F fa; intro fa F
      refine ax_only (i := 9) (by kernel_rfl) (op_to rfl rfl rfl (R_store rfl (F.at rfl) (F.at rfl) rfl (by kernel_rfl) (tub_at q14 (k := i) rfl (by omega)) (free_of_block q14 _)) ?_); intro w20 hw
      replace q6 := keep_cell hw q6 (by omega)
      replace q7 := keep_cell hw q7 (by omega)
      replace q9 := keep_cell hw q9 (by omega)
      replace q10 := keep_cell hw q10 (by omega)
      replace q11 := keep_cell hw q11 (by omega)
      replace q12 := keep_cell hw q12 (by omega)
      replace q13 := keep_cell hw q13 (by omega)
      replace q14 := put_tub hw q14 (k := i) rfl (by omega)
      replace E := ext_cell E hw (fun h => by first | exact absurd h (by omega) | simp)
      replace ER := ext_cell ER hw (fun h => by first | exact absurd h (by omega) | simp)
      clear hw
      refine ⟨gone (by kernel_rfl), ?_⟩
      rw [hmg, mrF_up] at q14
      refine ax_done (by kernel_rfl) ?_ _
      clear eT q6_ q7_ q9_ q10_ q11_ q12_ q13_ q14_ E_ ER_
      refine hK18 _ _ ?_
      clear hK18
      refine wpIn_seq_k fun K19 hK19 => ?_
      refine wpI_region_lit rfl (fun h => by obtain ⟨_, _, h⟩ := h; exact h) ?_
      refine F.mv ?_; clear F fa; intro fa F
      refine F.vl (R_ixArr (n := 4) (sz := 1) rfl (F.at rfl) (F.at rfl) Try.underlying83 (by kernel_rfl) (by omega) (by omega)) ?_; clear F fa; intro fa F
      refine F.vl (R_load rfl (F.at rfl) Try.underlying3 rfl (tub_at q14 (k := i) rfl (by omega))) ?_; clear F fa; intro fa F
      rw [show mrF t q (i + 1) i = mrG t q i by simp [mrF]] at F
      refine F.vl (R_lss rfl (F.at rfl) (ev_c fa _)) ?_; clear F fa; intro fa F
      refine wpList_nil ?_
      refine hK19 _ _ ?_
      clear hK19
      refine cdI_if F rfl (fun hc45 => ?_) (fun hc45 => ?_)
      · skip
        have hcb : corB x t (val s) ls q = false := cor_neg (k := i) (by omega) hc45
        refine wpIn_exit ?_
        try (rw [show i = 4 by omega, mrF_end] at q14; have hge4 : ∀ j, j < 4 → 0 ≤ mrG t q j := fun j hj => hge j (by omega))
        (try simp only [Exit.inBlock, reduceIte])
        show KeepsFrom _ _ _ ∧ KeepR _ _ _ _ ∧ _
        rw [← hw3]
        refine ⟨keeps_ext ER (by intro b hb; simp only [List.mem_cons, List.not_mem_nil, or_false] at hb; subst hb; exact .inl (by rw [hw3]; exact b12)), keepR_ext ER (by intro k cs T fz hk hsf hm; simp only [List.mem_cons, List.not_mem_nil, or_false] at hm; exact hsf.2.1 hm) (.inl ((rowOf_near q12).trans hro.symm)), ?_⟩
        have hsw : w3.heap.size ≤ w20.heap.size := (by rw [hw3]; exact Nat.le_trans hsz0 ER.size)
        show CorI _ _ _ _ _ _ _ _ _ _ _ _ (corO x t (val s) ls (pre ++ [q])) _
        first | exact ⟨q6, q7, q9, q10, q11, q12, E, hsw⟩ | (rw [corO_skip hcb]; exact ⟨q6, q7, q9, q10, q11, q12, E, hsw⟩) | (rw [corO_skip (hco.trans hc51)]; exact ⟨q6, q7, q9, q10, q11, q12, E, hsw⟩)
      · skip
        refine wpIn_skip ?_
        refine hK16 _ _ ?_
        clear hK16
        refine wpI_region_lit rfl (fun h => by obtain ⟨_, _, h⟩ := h; exact h) ?_
        refine F.vl (R_add rfl (F.at rfl) (ev_c fa _) (by omega) (by omega)) ?_; clear F fa; intro fa F
        refine F.mv ?_; clear F fa; intro fa F
        refine wpList_nil ?_
        show _ ∧ _
        exact ⟨by omega, _, ⟨rfl, E, ER, q6, q7, q9, q10, q11, q12, q13, q14, (fun j h => by rcases Nat.lt_succ_iff_lt_or_eq.1 h with h | rfl; (· exact hge j h); (· omega))⟩, F.sub (.c 30 rfl (.c 6 rfl (.c 7 rfl (.c 10 rfl (.c 11 rfl (.c 12 rfl (.c 13 rfl (.c 14 rfl .n))))))))⟩
    · skip
      refine wpIn_exit ?_
      try (rw [show i = 4 by omega, mrF_end] at q14; have hge4 : ∀ j, j < 4 → 0 ≤ mrG t q j := fun j hj => hge j (by omega))
      refine hK12 _ _ ?_
      clear hK12
      refine wpIn_seq_k fun K20 hK20 => ?_
      refine wpI_region_lit rfl (fun h => by obtain ⟨_, _, h⟩ := h; exact h) ?_
      refine F.vl (R_loadBlk rfl (F.at rfl) Try.underlying80 rfl (by kernel_rfl) q10) ?_; clear F fa; intro fa F
      refine F.vl (R_loadBlk rfl (F.at rfl) Try.underlying83 rfl (by kernel_rfl) q13) ?_; clear F fa; intro fa F
      refine F.vl (R_load rfl (F.at rfl) Try.underlying25 rfl ((cells_of_block q6 0).trans (get0))) ?_; clear F fa; intro fa F
      refine F.vl (R_load rfl (F.at rfl) Try.underlying25 rfl ((cells_of_block q7 0).trans (get0))) ?_; clear F fa; intro fa F
      refine sq_call F rfl (by decide) rfl (R_callV rfl rfl Try.call59 (mpS (F.at rfl) (mpS (F.at rfl) (mpS (F.at rfl) (mpS (F.at rfl) mp0))))) (match_ok x HV.out (val q) hqs s HS.out ls HL.out.2.1 hll sa la sc lc _ (HX.out.ext E) (HR.out.ext E (by simp)) (HQ.out.ext E (by simp))) fun e w21 hR => ?_
      obtain ⟨rfl, e9⟩ := hR
      refine ⟨_, rfl, ?_⟩; clear F fa; intro fa F
      replace q6 := (e9).keep0 q6
      replace q7 := (e9).keep0 q7
      replace q9 := (e9).keep0 q9
      replace q10 := (e9).keep0 q10
      replace q11 := (e9).keep0 q11
      replace q12 := (e9).keep0 q12
      replace q13 := (e9).keep0 q13
      replace q14 := (e9).keep0 q14
      replace E := ext_same E (e9)
      replace ER := ext_same ER (e9)
      clear e9
      refine wpList_nil ?_
      have hco := cor_ok (x := x) (s := val s) (ls := ls) hge4
      refine hK20 _ _ ?_
      clear hK20
      refine cdI_b F rfl (fun hc51 => ?_) (fun hc51 => ?_)
      · skip
        refine region_xI (Ext [n12] w21) none follows rfl (fun h => by obtain ⟨_, _, h⟩ := h; exact h) fun w22 hh eh => ?_
        have q6_ := q6
        replace q6 := keep_same hh q6
        have q7_ := q7
        replace q7 := keep_same hh q7
        have q9_ := q9
        replace q9 := keep_same hh q9
        have q10_ := q10
        replace q10 := keep_same hh q10
        have q11_ := q11
        replace q11 := keep_same hh q11
        have q12_ := q12
        replace q12 := keep_same hh q12
        have q13_ := q13
        replace q13 := keep_same hh q13
        have q14_ := q14
        replace q14 := keep_same hh q14
        have E_ := E
        have zEw22 := E.size
        replace E := ext_same E eh
        have ER_ := ER
        have zERw22 := ER.size
        replace ER := ext_same ER eh
        have eT := eh.mono (Y := [n12]) (by simp)
        clear hh eh
        refine F.xr (i := 0) rfl (fun w' hS => R_loadBlk rfl (F.at rfl) Try.underlying83 rfl (by kernel_rfl) (hS.keep q14_ (by simp; omega))) (fun _ => eT) ?_; clear F fa; intro fa F
        refine F.xr (i := 1) rfl (fun w' hS => R_loadBlk rfl (F.at rfl) Try.underlying83 rfl (by kernel_rfl) (hS.keep q14_ (by simp; omega))) (fun _ => eT) ?_; clear F fa; intro fa F
        have hmb : ∀ k, k < 4 → 0 ≤ mrG t q k ∧ mrG t q k ≤ 1000 := fun k hk => ⟨hge4 k hk, by have := hqs k hk; have := HTS.out k hk; rw [mrG]; omega⟩
        refine ax_only (i := 2) (by kernel_rfl) (op_call F rfl rfl (by decide) rfl (R_callV rfl rfl Try.call61 (mpS (F.at rfl) mp0)) (parts_any (mrG t q) hmb _) fun e w23 hR => ?_)
        obtain ⟨rfl, e9⟩ := hR
        refine ⟨_, rfl, ?_⟩; clear F fa; intro fa F
        replace q6 := (e9).keep0 q6
        replace q7 := (e9).keep0 q7
        replace q9 := (e9).keep0 q9
        replace q10 := (e9).keep0 q10
        replace q11 := (e9).keep0 q11
        replace q12 := (e9).keep0 q12
        replace q13 := (e9).keep0 q13
        replace q14 := (e9).keep0 q14
        replace E := ext_same E (e9)
        replace ER := ext_same ER (e9)
        replace eT := ext_same eT (e9)
        clear e9
        refine ⟨fun _ => eT, ?_⟩
        refine F.x (i := 3) rfl (fun w' => R_buildV rfl (prS (F.at rfl) pr0) (cells := #[.int .i64 (prt (mrG t q)), .int .i64 0]) (by kernel_rfl)) (fun _ => eT) ?_; clear F fa; intro fa F
        refine ax_only (i := 4) (by kernel_rfl) (op_call F rfl rfl (by decide) rfl (R_callV rfl rfl Try.call60 (mpS (F.at rfl) (mpS (F.at rfl) (mpS (F.at rfl) mp0)))) (offer_any (mrG t) (mrC t) n12 (corO x t (val s) ls pre) q _ q12) fun e w24 hR => ?_)
        obtain ⟨rfl, q12', e9⟩ := hR
        refine ⟨_, rfl, ?_⟩; clear F fa; intro fa F
        replace q6 := (e9).keep q6 (by simp; omega)
        replace q7 := (e9).keep q7 (by simp; omega)
        replace q9 := (e9).keep q9 (by simp; omega)
        replace q10 := (e9).keep q10 (by simp; omega)
        replace q11 := (e9).keep q11 (by simp; omega)
        replace q13 := (e9).keep q13 (by simp; omega)
        replace q14 := (e9).keep q14 (by simp; omega)
        replace E := E.trans' e9 (fun i hi hl => by simp only [List.mem_cons, List.not_mem_nil, or_false] at hi ⊢; omega)
        replace ER := ER.trans' e9 (fun i hi hl => by simp only [List.mem_cons, List.not_mem_nil, or_false] at hi ⊢; omega)
        replace eT := eT.trans' e9 (fun i hi hl => by simp only [List.mem_cons, List.not_mem_nil, or_false] at hi ⊢; omega)
        refine ⟨fun _ => eT, ?_⟩
        rw [← corO_take (hco.trans hc51)] at q12'
        replace q12 := q12'
        clear q12'
        refine ax_done (by kernel_rfl) ?_ _
        clear eT q6_ q7_ q9_ q10_ q11_ q12_ q13_ q14_ E_ ER_
        (try simp only [Exit.inBlock, reduceIte])
        show KeepsFrom _ _ _ ∧ KeepR _ _ _ _ ∧ _
        rw [← hw3]
        refine ⟨keeps_ext ER (by intro b hb; simp only [List.mem_cons, List.not_mem_nil, or_false] at hb; subst hb; exact .inl (by rw [hw3]; exact b12)), keepR_ext ER (by intro k cs T fz hk hsf hm; simp only [List.mem_cons, List.not_mem_nil, or_false] at hm; exact hsf.2.1 hm) (.inl ((rowOf_near q12).trans hro.symm)), ?_⟩
        have hsw : w3.heap.size ≤ w24.heap.size := (by rw [hw3]; exact Nat.le_trans hsz0 ER.size)
        show CorI _ _ _ _ _ _ _ _ _ _ _ _ (corO x t (val s) ls (pre ++ [q])) _
        first | exact ⟨q6, q7, q9, q10, q11, q12, E, hsw⟩ | (rw [corO_skip hcb]; exact ⟨q6, q7, q9, q10, q11, q12, E, hsw⟩) | (rw [corO_skip (hco.trans hc51)]; exact ⟨q6, q7, q9, q10, q11, q12, E, hsw⟩)
      · skip
        refine wpIn_skip ?_
        (try simp only [Exit.inBlock, reduceIte])
        show KeepsFrom _ _ _ ∧ KeepR _ _ _ _ ∧ _
        rw [← hw3]
        refine ⟨keeps_ext ER (by intro b hb; simp only [List.mem_cons, List.not_mem_nil, or_false] at hb; subst hb; exact .inl (by rw [hw3]; exact b12)), keepR_ext ER (by intro k cs T fz hk hsf hm; simp only [List.mem_cons, List.not_mem_nil, or_false] at hm; exact hsf.2.1 hm) (.inl ((rowOf_near q12).trans hro.symm)), ?_⟩
        have hsw : w3.heap.size ≤ w21.heap.size := (by rw [hw3]; exact Nat.le_trans hsz0 ER.size)
        show CorI _ _ _ _ _ _ _ _ _ _ _ _ (corO x t (val s) ls (pre ++ [q])) _
        first | exact ⟨q6, q7, q9, q10, q11, q12, E, hsw⟩ | (rw [corO_skip hcb]; exact ⟨q6, q7, q9, q10, q11, q12, E, hsw⟩) | (rw [corO_skip (hco.trans hc51)]; exact ⟨q6, q7, q9, q10, q11, q12, E, hsw⟩)
  case done =>
    clear q6 q7 q9 q10 q11 q12 qb E hI0
    rintro D W hD ⟨q6, q7, q9, q10, q11, q12, E, hsz⟩ qD
    replace F := F.mark (d := { target := .collected D, args := #[] })
    refine hK9 _ _ ?_
    clear hK9
    refine wp_seq_k fun K21 hK21 => ?_
    refine wp_seq_k fun K22 hK22 => ?_
    by_cases hN : corO x t (val s) ls (recL x.D.length) = none
    · skip
      replace q12 : W.heap[n12]? = some (.cells #[.int .i64 (zf 0), .int .i64 (zf 1), .int .i64 (zf 2), .int .i64 (zf 3), .int .i64 0, .int .i64 0, .bool false] 88 (0, 0)) := by rw [hN] at q12; exact q12
      refine wp_region_lit ?_
      refine F.vl (R_field rfl (F.at rfl) Try.underlying88 rfl (n := 6) (sz := 1) rfl (by kernel_rfl) (by decide)) ?_; clear F fa; intro fa F
      refine F.vl (R_load rfl (F.at rfl) Try.underlying4 rfl ((cells_of_block q12 6).trans (getS (getS (getS (getS (getS (getS (get0))))))))) ?_; clear F fa; intro fa F
      refine F.vl (R_not rfl (F.at rfl)) ?_; clear F fa; intro fa F
      refine wpList_nil ?_
      refine hK22 _ _ ?_
      clear hK22
      refine cd_T F rfl ?_
      refine wp_seq_k fun K23 hK23 => ?_
      refine wp_region_lit ?_
      refine F.vl (R_assign rfl (ev_c fa _)) ?_; clear F fa; intro fa F
      refine sq_to rfl rfl (R_store rfl (F.at rfl) (ev_c fa _) rfl (by kernel_rfl) ((cells_of_block q9 0).trans (get0)) (free_of_block q9 0)) ?_; intro w25 hw
      replace q6 := keep_cell hw q6 (by omega)
      replace q7 := keep_cell hw q7 (by omega)
      replace q9 := put_cell hw q9 (by simp only [List.setIfInBounds_toArray, List.set_cons_succ, List.set_cons_zero]; exact rfl)
      replace q10 := keep_cell hw q10 (by omega)
      replace q11 := keep_cell hw q11 (by omega)
      replace q12 := keep_cell hw q12 (by omega)
      replace qD := keep_cell hw qD (by omega)
      replace E := ext_cell E hw (fun h => by first | exact absurd h (by omega) | simp)
      clear hw
      refine wpList_nil ?_
      refine hK23 _ _ ?_
      clear hK23
      refine wp_ret ?_
      (try simp only [Exit.inBlock, Exit.then, reduceIte])
      refine rtM_v F ?_
      refine lv_mark qD fun w26 hw => ?_
      replace q6 := keep_putW hw qD rfl q6
      replace q7 := keep_putW hw qD rfl q7
      replace q9 := keep_putW hw qD rfl q9
      replace q10 := keep_putW hw qD rfl q10
      replace q11 := keep_putW hw qD rfl q11
      replace q12 := keep_putW hw qD rfl q12
      replace E := ext_putW E hw (by omega)
      clear hw qD
      refine lv_caught ?_
      refine lv_nil (rs_tc F rfl rfl rfl Try.underlying35 rfl q9) ?_
      rw [corR, hN]
      exact ⟨none, 0, rfl, World.ownsRow_nil _ _ _ _, E⟩
    · skip
      obtain ⟨q, hq⟩ := Option.ne_none_iff_exists'.1 hN
      replace q12 : W.heap[n12]? = some (.cells #[.int .i64 (mrG t q 0), .int .i64 (mrG t q 1), .int .i64 (mrG t q 2), .int .i64 (mrG t q 3), .int .i64 (mrC t q).1, .int .i64 (mrC t q).2, .bool true] 88 (0, 0)) := by rw [hq] at q12; exact q12
      refine wp_region_lit ?_
      refine F.vl (R_field rfl (F.at rfl) Try.underlying88 rfl (n := 6) (sz := 1) rfl (by kernel_rfl) (by decide)) ?_; clear F fa; intro fa F
      refine F.vl (R_load rfl (F.at rfl) Try.underlying4 rfl ((cells_of_block q12 6).trans (getS (getS (getS (getS (getS (getS (get0))))))))) ?_; clear F fa; intro fa F
      refine F.vl (R_not rfl (F.at rfl)) ?_; clear F fa; intro fa F
      refine wpList_nil ?_
      refine hK22 _ _ ?_
      clear hK22
      refine cd_F F rfl ?_
      refine wp_skip ?_
      refine hK21 _ _ ?_
      clear hK21
      refine wp_seq_k fun K24 hK24 => ?_
      refine wp_region_lit ?_
      refine F.vl (R_loadBlk rfl (F.at rfl) Try.underlying80 rfl (by kernel_rfl) q10) ?_; clear F fa; intro fa F
      refine F.vl (R_field rfl (F.at rfl) Try.underlying88 rfl (n := 0) (sz := 4) rfl (by kernel_rfl) (by decide)) ?_; clear F fa; intro fa F
      refine F.vl (R_loadRow rfl (F.at rfl) Try.underlying83 rfl (by kernel_rfl) (range_mid' (n := 4) q12 rfl (midS (get0) (midS (getS (get0)) (midS (getS (getS (get0))) (midS (getS (getS (getS (get0)))) mid0)))))) ?_; clear F fa; intro fa F
      have hEs := E.size
      refine sq_call F rfl (by decide) rfl (R_callV rfl rfl Try.call62 (mpS (F.at rfl) (mpS (F.at rfl) mp0))) (cut_ok x HV.out (mrG t q) _) fun e w27 hR => ?_
      obtain ⟨ca, cc, rfl, oo, e9⟩ := hR
      refine ⟨_, rfl, ?_⟩; clear F fa; intro fa F
      replace q6 := (e9).keep0 q6
      replace q7 := (e9).keep0 q7
      replace q9 := (e9).keep0 q9
      replace q10 := (e9).keep0 q10
      replace q11 := (e9).keep0 q11
      replace q12 := (e9).keep0 q12
      replace qD := (e9).keep0 qD
      replace E := ext_same E (e9)
      clear e9
      replace oo := owns_lower oo hEs
      refine F.as ?_; clear F fa; intro fa F
      refine sq_to rfl rfl (R_store rfl (F.at rfl) (ev_c fa _) rfl (by kernel_rfl) ((cells_of_block q9 0).trans (get0)) (free_of_block q9 0)) ?_; intro w28 hw
      replace oo := owns_cellX hw oo (own_ne_type oo q9 (by decide))
      replace q6 := keep_cell hw q6 (by omega)
      replace q7 := keep_cell hw q7 (by omega)
      replace q9 := put_cell hw q9 (by simp only [List.setIfInBounds_toArray, List.set_cons_succ, List.set_cons_zero]; exact rfl)
      replace q10 := keep_cell hw q10 (by omega)
      replace q11 := keep_cell hw q11 (by omega)
      replace q12 := keep_cell hw q12 (by omega)
      replace qD := keep_cell hw qD (by omega)
      replace E := ext_cell E hw (fun h => by first | exact absurd h (by omega) | simp)
      clear hw
      refine wpList_nil ?_
      refine hK24 _ _ ?_
      clear hK24
      refine wp_ret ?_
      (try simp only [Exit.inBlock, Exit.then, reduceIte])
      refine rtM_v F ?_
      refine lv_mark qD fun w29 hw => ?_
      replace oo := owns_put hw qD rfl oo
      replace q6 := keep_putW hw qD rfl q6
      replace q7 := keep_putW hw qD rfl q7
      replace q9 := keep_putW hw qD rfl q9
      replace q10 := keep_putW hw qD rfl q10
      replace q11 := keep_putW hw qD rfl q11
      replace q12 := keep_putW hw qD rfl q12
      replace E := ext_putW E hw (by omega)
      clear hw qD
      refine lv_caught ?_
      refine lv_nil (rs_tc F rfl rfl rfl Try.underlying35 rfl q9) ?_
      rw [corR, hq]
      refine ⟨ca, cc, ?_, ?_, E⟩
      · simp only [cutL_len]
      · simp only [cutL_len]; exact oo
end Go.Proofs.Ytdjeecgddbjbeaa
