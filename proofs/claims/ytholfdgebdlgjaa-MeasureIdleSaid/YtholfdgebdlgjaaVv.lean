/- The walks of view and Idle. Conditions: valid tapes that have a truth. -/
import Derived.Test.YtholfdgebdlgjaaVps
import Derived.Test.YtholfdgebdlgjaaVf0
namespace Go.Proofs.Ytholfdgebdlgjaa
open Go.RowKit
set_option linter.unusedVariables false
set_option linter.unusedSimpArgs false
/-- The cells of a view. -/
def viewCells (v : Nat → Int × Int) : Array Value := #[.int .i64 (v 0).1, .int .i64 (v 0).2, .int .i64 (v 1).1, .int .i64 (v 1).2, .int .i64 (v 2).1, .int .i64 (v 2).2, .int .i64 (v 3).1, .int .i64 (v 3).2, .int .i64 (v 4).1, .int .i64 (v 4).2, .int .i64 (v 5).1, .int .i64 (v 5).2, .int .i64 (v 6).1, .int .i64 (v 6).2, .int .i64 (v 7).1, .int .i64 (v 7).2, .int .i64 (v 8).1, .int .i64 (v 8).2, .int .i64 (v 9).1, .int .i64 (v 9).2, .int .i64 (v 10).1, .int .i64 (v 10).2, .int .i64 (v 11).1, .int .i64 (v 11).2]
def updV (v : Nat → Int × Int) (k : Nat) (r : Int × Int) : Nat → Int × Int := fun i => if i = k then r else v i
theorem view_set (v : Nat → Int × Int) (lo hi : Int) : ∀ k, k < 12 → ((viewCells v).setIfInBounds (k * 2) (.int .i64 lo)).setIfInBounds (k * 2 + 1) (.int .i64 hi) = viewCells (updV v k (lo, hi))
  | 0, _ => rfl
  | 1, _ => rfl
  | 2, _ => rfl
  | 3, _ => rfl
  | 4, _ => rfl
  | 5, _ => rfl
  | 6, _ => rfl
  | 7, _ => rfl
  | 8, _ => rfl
  | 9, _ => rfl
  | 10, _ => rfl
  | 11, _ => rfl
  | n + 12, h => absurd h (by omega)
theorem view_row (v : Nat → Int × Int) : ∀ k, k < 12 → (viewCells v).extract (k * 2) (k * 2 + 2) = #[.int .i64 (v k).1, .int .i64 (v k).2]
  | 0, _ => rfl
  | 1, _ => rfl
  | 2, _ => rfl
  | 3, _ => rfl
  | 4, _ => rfl
  | 5, _ => rfl
  | 6, _ => rfl
  | 7, _ => rfl
  | 8, _ => rfl
  | 9, _ => rfl
  | 10, _ => rfl
  | 11, _ => rfl
  | n + 12, h => absurd h (by omega)
theorem view_congr {v u : Nat → Int × Int} (h : ∀ k, k < 12 → v k = u k) : viewCells v = viewCells u := by
  unfold viewCells
  rw [h 0 (by omega), h 1 (by omega), h 2 (by omega), h 3 (by omega), h 4 (by omega), h 5 (by omega), h 6 (by omega), h 7 (by omega), h 8 (by omega), h 9 (by omega), h 10 (by omega), h 11 (by omega)]
theorem view_one (v : Nat → Int × Int) : (viewCells v).all (·.oneCell') = true := by simp [viewCells, Value.oneCell']
def eqV (v u : Nat → Int × Int) : Bool := (List.range 12).all fun i => decide ((v i).1 = (u i).1 ∧ (v i).2 = (u i).2)
theorem eqV_iff {v u : Nat → Int × Int} : eqV v u = true ↔ ∀ k, k < 12 → v k = u k := by
  simp only [eqV, List.all_eq_true, List.mem_range, decide_eq_true_eq]
  exact ⟨fun h k hk => Prod.ext (h k hk).1 (h k hk).2, fun h k hk => by rw [h k hk]; exact ⟨rfl, rfl⟩⟩
section
variable {ρ : Operand → Value} {o : Oper} {w : World}
theorem R_ixV {x ix : Operand} {kk : IntKind} {n : Int} {b : Nat} (k : Nat) (ho : o.op = .indexAddr 146 x ix) (hx : ρ x = .pointer (some ⟨b, 0, none⟩)) (hi : ρ ix = .int kk n) (hk : n = k) (h : k < 12) :
    (execOp ρ o).run Try.prog w = .ok (.value (.pointer (some ⟨b, k * 2, none⟩))) w := by
  have := R_ixArr (P := Try.prog) (w := w) ho hx hi Try.underlying146 (sz := 2) (by kernel_rfl) (by omega) (by omega)
  rw [this, hk, Int.toNat_natCast, Nat.zero_add]
theorem R_storeV {x y : Operand} {b k : Nat} {lo hi : Int} {v : Nat → Int × Int} {T : TypeId} (ho : o.op = .store 23 x y) (hx : ρ x = .pointer (some ⟨b, k * 2, none⟩)) (hy : ρ y = .agg #[.int .i64 lo, .int .i64 hi]) (H : w.heap[b]? = some (.cells (viewCells v) T (0, 0))) (hk : k < 12) :
    (execOp ρ o).run Try.prog w = .ok .skip (w.setCells b (k * 2) [.int .i64 lo, .int .i64 hi]) :=
  R_storeMid ho hx hy (by kernel_rfl) (by simp [Value.oneCell']) H (by show k * 2 + 2 ≤ 24; omega)
theorem put_view {w2 : World} {b k : Nat} {lo hi : Int} {v : Nat → Int × Int} {T : TypeId} (e : w2 = w.setCells b (k * 2) [.int .i64 lo, .int .i64 hi]) (H : w.heap[b]? = some (.cells (viewCells v) T (0, 0))) (hk : k < 12) : w2.heap[b]? = some (.cells (viewCells (updV v k (lo, hi))) T (0, 0)) :=
  put_mid2 e H (view_set v lo hi k hk)
theorem R_eqlView {x y : Operand} {t' : TypeId} {v u : Nat → Int × Int} (ho : o.op = .binOp .eql 146 x y t') (hx : ρ x = .agg (viewCells v)) (hy : ρ y = .agg (viewCells u)) :
    (execOp ρ o).run Try.prog w = .ok (.value (.bool (eqV v u))) w := by
  have hz : (sizeOf 23).run Try.prog w = .ok 2 w := by
    have h : (Try.prog.info? 23).map (·.size) = some 2 := by kernel_rfl
    cases hq : Try.prog.info? 23 with
    | none => simp [hq] at h
    | some j =>
      have hs : j.size = 2 := by simpa [hq] using h
      simp [sizeOf, typeInfo, hq, hs]
  have hall : (Op.equalIn 10000 146 (.agg (viewCells v)) (.agg (viewCells u))).run Try.prog w = .ok (eqV v u) w := by
    refine run_equalIn_array (n := 2) Try.underlying146 (by kernel_rfl) _ fun i hi => ?_
    refine ⟨.agg #[.int .i64 (v i).1, .int .i64 (v i).2], .agg #[.int .i64 (u i).1, .int .i64 (u i).2], ?_, ?_, equal_bt 9997 _ _ _ _⟩
    · simp only [part, isAgg, Sem.run_bind, run_underlying Try.underlying23, Result.andThen_ok, Sem.run_pure, if_true, hz, view_row v i hi]
    · simp only [part, isAgg, Sem.run_bind, run_underlying Try.underlying23, Result.andThen_ok, Sem.run_pure, if_true, hz, view_row u i hi]
  have hg : Try.prog.eqGuardType Try.prog.depth 146 = false := by kernel_rfl
  unfold execOp
  simp only [ho, hx, hy, Sem.run_bind, run_eqGuard_agg w .eql 146 x y (viewCells v) (viewCells u) hg, Result.andThen_ok, run_eql_struct, hall, Sem.run_pure]
end
/-- What view returns. -/
def vwF (t : Tp) (m : Nat → Nat → Int) (k : Nat) : Int × Int :=
  if k < 9 then (if ((k / 3 : Nat) : Int) < t.S ∧ ((k % 3 : Nat) : Int) < t.A then (-(m (k + 1) 0), m 0 (k + 1)) else (0, 0))
  else if ((k - 9 : Nat) : Int) < t.T then (-(m 0 (k + 1)), m (k + 1) 0) else (0, 0)
/-- The same on the way: s singers, and a autumns of the next one; then i tailors. -/
def vwC (t : Tp) (m : Nat → Nat → Int) (s a k : Nat) : Int × Int := if k < 9 ∧ (k / 3 < s ∨ k / 3 = s ∧ k % 3 < a) ∧ ((k % 3 : Nat) : Int) < t.A then (-(m (k + 1) 0), m 0 (k + 1)) else (0, 0)
def vwT (t : Tp) (m : Nat → Nat → Int) (i k : Nat) : Int × Int := if k < 9 then vwF t m k else if k - 9 < i then (-(m 0 (k + 1)), m (k + 1) 0) else (0, 0)
theorem vwC_next {t : Tp} {m : Nat → Nat → Int} {s a k : Nat} (h1 : (s : Int) < t.S) (h2 : (a : Int) < t.A) (h3 : t.S ≤ 3) (h4 : t.A ≤ 3) {v : Nat → Int × Int} (hv : ∀ k, k < 12 → v k = vwC t m s a k) (hk : k < 12) :
    updV v (s * 3 + a) (-(m (nodeC s a) 0), m 0 (nodeC s a)) k = vwC t m s (a + 1) k := by
  have e : nodeC s a = s * 3 + a + 1 := by unfold nodeC; omega
  unfold updV
  rw [hv k hk, e]
  unfold vwC
  by_cases h : k = s * 3 + a
  · subst h
    rw [if_pos rfl, if_pos (by omega)]
  · rw [if_neg h]
    by_cases c : k < 9 ∧ (k / 3 < s ∨ k / 3 = s ∧ k % 3 < a) ∧ ((k % 3 : Nat) : Int) < t.A
    · rw [if_pos c, if_pos (by omega)]
    · rw [if_neg c, if_neg (by omega)]
theorem vwC_row {t : Tp} {m : Nat → Nat → Int} {s a k : Nat} (h : t.A ≤ (a : Int)) : vwC t m s a k = vwC t m (s + 1) 0 k := by
  unfold vwC
  by_cases c : k < 9 ∧ (k / 3 < s ∨ k / 3 = s ∧ k % 3 < a) ∧ ((k % 3 : Nat) : Int) < t.A
  · rw [if_pos c, if_pos (by omega)]
  · rw [if_neg c, if_neg (by omega)]
theorem vwC_end {t : Tp} {m : Nat → Nat → Int} {s k : Nat} (h1 : t.S = (s : Int)) (h3 : t.S ≤ 3) : vwC t m s 0 k = vwT t m 0 k := by
  unfold vwC vwT vwF
  by_cases h : k < 9
  · rw [if_pos h, if_pos h]
    by_cases c : ((k / 3 : Nat) : Int) < t.S ∧ ((k % 3 : Nat) : Int) < t.A
    · rw [if_pos c, if_pos (by omega)]
    · rw [if_neg c, if_neg (by omega)]
  · rw [if_neg h, if_neg (by omega), if_neg (by omega)]
theorem vwT_next {t : Tp} {m : Nat → Nat → Int} {i k : Nat} (h1 : i < 3) {v : Nat → Int × Int} (hv : ∀ k, k < 12 → v k = vwT t m i k) (hk : k < 12) :
    updV v (9 + i) (-(m 0 (10 + (i : Int)).toNat), m (10 + (i : Int)).toNat 0) k = vwT t m (i + 1) k := by
  unfold updV
  rw [hv k hk]
  unfold vwT
  by_cases h : k = 9 + i
  · subst h
    rw [if_pos rfl, if_neg (by omega), if_pos (by omega), show 9 + i + 1 = (10 + (i : Int)).toNat by omega]
  · rw [if_neg h]
    by_cases c : k < 9
    · rw [if_pos c, if_pos c]
    · rw [if_neg c, if_neg c]
      by_cases d : k - 9 < i
      · rw [if_pos d, if_pos (by omega)]
      · rw [if_neg d, if_neg (by omega)]
theorem vwT_end {t : Tp} {m : Nat → Nat → Int} {i k : Nat} (h1 : t.T = (i : Int)) : vwT t m i k = vwF t m k := by
  unfold vwT
  by_cases h : k < 9
  · rw [if_pos h]
  · rw [if_neg h, vwF, if_neg h]
    by_cases d : k - 9 < i
    · rw [if_pos d, if_pos (by omega)]
    · rw [if_neg d, if_neg (by omega)]
set_option maxRecDepth 100000 in
set_option maxHeartbeats 1000000 in
theorem view_any {t : Tp} (ok : t.Ok) (m : Nat → Nat → Int) (hm : ∀ p q, p < 13 → q < 13 → -1000000000000000000 ≤ m p q ∧ m p q ≤ 1000000000000000000) (gv rv lv : Value) (h1 : gv.oneCell' = true ∧ rv.oneCell' = true ∧ lv.oneCell' = true) (w : World) :
    Calls Try.prog 120 #[tpV t gv rv lv, .agg (matCells m)] w fun e w' => e = .returned (.agg (viewCells (vwF t m))) ∧ Ext [] w w' := by
  have E : Ext [] w w := Ext.refl _ _
  have Hm := Lib.hid hm
  clear hm
  have o1 := ok.S1
  have o2 := ok.S3
  have o3 := ok.A1
  have o4 := ok.A3
  have o5 := ok.T1
  have o6 := ok.T3
  obtain ⟨g1, g2, g3⟩ := h1
  unfold tpV
  refine calls_has 47 Try.func120 rfl Try.ntmps120 (Nat.le_of_ble_eq_true rfl) ?_
  intro fa F
  refine wp_seq_k fun K1 hK1 => ?_
  refine wp_region_lit ?_
  refine sq_new F rfl (by decide) rfl (R_box rfl (F.at rfl)) ?_; clear F fa; intro fa w1 F hw
  obtain ⟨n2, hn⟩ : ∃ n, n = w.heap.size := ⟨_, rfl⟩
  rw [← hn] at F
  have s2 : w.heap.size ≤ n2 := Nat.le_of_eq hn.symm
  have l2_E : w.heap.size ≤ n2 := by rw [hn]; exact E.size
  replace E := ext_alloc E hw
  have q2 := new_row hw hn
  clear hw hn
  refine sq_new F rfl (by decide) rfl (R_box rfl (F.at rfl)) ?_; clear F fa; intro fa w2 F hw
  obtain ⟨n3, hn⟩ : ∃ n, n = w1.heap.size := ⟨_, rfl⟩
  rw [← hn] at F
  have s3 : w1.heap.size ≤ n3 := Nat.le_of_eq hn.symm
  have l3_E : w.heap.size ≤ n3 := by rw [hn]; exact E.size
  have m3_2 : n2 < n3 := by rw [hn]; exact blk_lt q2
  replace q2 := keep_alloc hw q2
  replace E := ext_alloc E hw
  have q3 := new_row hw hn
  clear hw hn
  refine sq_new F rfl (by decide) rfl (R_alloc rfl Try.zeroValue146) ?_; clear F fa; intro fa w3 F hw
  obtain ⟨n4, hn⟩ : ∃ n, n = w2.heap.size := ⟨_, rfl⟩
  rw [← hn] at F
  have s4 : w2.heap.size ≤ n4 := Nat.le_of_eq hn.symm
  have l4_E : w.heap.size ≤ n4 := by rw [hn]; exact E.size
  have m4_2 : n2 < n4 := by rw [hn]; exact blk_lt q2
  have m4_3 : n3 < n4 := by rw [hn]; exact blk_lt q3
  replace q2 := keep_alloc hw q2
  replace q3 := keep_alloc hw q3
  replace E := ext_alloc E hw
  have q4 := new_row hw hn
  clear hw hn
  refine wpList_nil ?_
  refine hK1 _ _ ?_
  clear hK1
  refine wp_seq_k fun K2 hK2 => ?_
  refine wp_region_lit ?_
  refine sq_new F rfl (by decide) rfl (R_alloc rfl Try.zeroValue146) ?_; clear F fa; intro fa w4 F hw
  obtain ⟨n5, hn⟩ : ∃ n, n = w3.heap.size := ⟨_, rfl⟩
  rw [← hn] at F
  have s5 : w3.heap.size ≤ n5 := Nat.le_of_eq hn.symm
  have l5_E : w.heap.size ≤ n5 := by rw [hn]; exact E.size
  have m5_2 : n2 < n5 := by rw [hn]; exact blk_lt q2
  have m5_3 : n3 < n5 := by rw [hn]; exact blk_lt q3
  have m5_4 : n4 < n5 := by rw [hn]; exact blk_lt q4
  replace q2 := keep_alloc hw q2
  replace q3 := keep_alloc hw q3
  replace q4 := keep_alloc hw q4
  replace E := ext_alloc E hw
  have q5 := new_row hw hn
  clear hw hn
  refine wpList_nil ?_
  replace q5 : w4.heap[n5]? = some (.cells (viewCells fun _ => (0, 0)) 146 (0, 0)) := q5
  refine hK2 _ _ ?_
  clear hK2
  refine wp_seq_k fun K3 hK3 => ?_
  refine wp_seq_k fun K4 hK4 => ?_
  refine wp_region_lit ?_
  refine F.vl (R_field rfl (F.at rfl) Try.underlying100 rfl (n := 0) (sz := 11) rfl (by kernel_rfl) (by decide)) ?_; clear F fa; intro fa F
  refine F.vl (R_field rfl (F.at rfl) Try.underlying28 rfl (n := 0) (sz := 1) rfl (by kernel_rfl) (by decide)) ?_; clear F fa; intro fa F
  refine F.vl (R_load rfl (F.at rfl) Try.underlying3 rfl ((cells_of_block q2 0).trans (get0))) ?_; clear F fa; intro fa F
  refine F.vl (R_move rfl (ev_c fa _)) ?_; clear F fa; intro fa F
  refine wpList_nil ?_
  refine hK4 _ _ ?_
  clear hK4
  refine wp_block ?_
  have F0 := F.sub (.c 2 rfl (.c 3 rfl (.c 4 rfl (.c 5 rfl (.c 11 rfl .n)))))
  refine lp_for F0 (t.S.toNat) (fun i Lv W => ∃ v : Nat → Int × Int, Lv = [(12, .int .i64 ((i : Nat) : Int))] ∧ Ext [] w W ∧ W.heap[n2]? = some (.cells #[.int .i64 t.S, .int .i64 t.A, .int .i64 t.T, .int .i64 t.bl, .int .i64 t.bm, .int .i64 t.pl, .int .i64 t.pm, .int .i64 t.sl, gv, rv, lv] 100 (0, 0)) ∧ W.heap[n3]? = some (.cells (matCells m) 105 (0, 0)) ∧ W.heap[n4]? = some (.cells #[.int .i64 0, .int .i64 0, .int .i64 0, .int .i64 0, .int .i64 0, .int .i64 0, .int .i64 0, .int .i64 0, .int .i64 0, .int .i64 0, .int .i64 0, .int .i64 0, .int .i64 0, .int .i64 0, .int .i64 0, .int .i64 0, .int .i64 0, .int .i64 0, .int .i64 0, .int .i64 0, .int .i64 0, .int .i64 0, .int .i64 0, .int .i64 0] 146 (0, 0)) ∧ W.heap[n5]? = some (.cells (viewCells v) 146 (0, 0)) ∧ Hid (∀ k, k < 12 → v k = vwC t m i 0 k)) ⟨_, ⟨fun _ => (0, 0), rfl, E, q2, q3, q4, q5, Lib.hid (fun k hk => by rw [vwC, if_neg (by omega)])⟩, F.sub (.c 12 rfl (.c 2 rfl (.c 3 rfl (.c 4 rfl (.c 5 rfl (.c 11 rfl .n))))))⟩ ?_
  clear F F0
  clear E q2 q3 q4 q5
  rintro i _ fa w5 hi1 ⟨v, rfl, E, q2, q3, q4, q5, hv⟩ F
  refine wp_seq_k fun K5 hK5 => ?_
  refine wp_region_lit ?_
  refine F.vl (R_lss rfl (F.at rfl) (F.at rfl)) ?_; clear F fa; intro fa F
  refine wpList_nil ?_
  refine hK5 _ _ ?_
  clear hK5
  refine wp_seq_k fun K6 hK6 => ?_
  refine cd_if F rfl (fun hc13 => ?_) (fun hc13 => ?_)
  · skip
    refine wp_skip ?_
    refine hK6 _ _ ?_
    clear hK6
    refine wp_seq_k fun K7 hK7 => ?_
    refine wp_block ?_
    refine wp_seq_k fun K8 hK8 => ?_
    refine wp_region_lit ?_
    refine F.mv ?_; clear F fa; intro fa F
    refine F.as ?_; clear F fa; intro fa F
    refine wpList_nil ?_
    refine hK8 _ _ ?_
    clear hK8
    refine wp_seq_k fun K9 hK9 => ?_
    refine wp_region_lit ?_
    refine F.vl (R_field rfl (F.at rfl) Try.underlying100 rfl (n := 0) (sz := 11) rfl (by kernel_rfl) (by decide)) ?_; clear F fa; intro fa F
    refine F.vl (R_field rfl (F.at rfl) Try.underlying28 rfl (n := 1) (sz := 1) rfl (by kernel_rfl) (by decide)) ?_; clear F fa; intro fa F
    refine F.vl (R_load rfl (F.at rfl) Try.underlying3 rfl ((cells_of_block q2 1).trans (getS (get0)))) ?_; clear F fa; intro fa F
    refine F.vl (R_move rfl (ev_c fa _)) ?_; clear F fa; intro fa F
    refine wpList_nil ?_
    refine hK9 _ _ ?_
    clear hK9
    refine wp_block ?_
    have F0 := F.sub (.c 2 rfl (.c 3 rfl (.c 4 rfl (.c 5 rfl (.c 6 rfl (.c 11 rfl (.c 12 rfl (.c 17 rfl .n))))))))
    refine lp_for F0 (t.A.toNat) (fun j Lv W => ∃ v : Nat → Int × Int, Lv = [(18, .int .i64 ((j : Nat) : Int))] ∧ Ext [] w W ∧ W.heap[n2]? = some (.cells #[.int .i64 t.S, .int .i64 t.A, .int .i64 t.T, .int .i64 t.bl, .int .i64 t.bm, .int .i64 t.pl, .int .i64 t.pm, .int .i64 t.sl, gv, rv, lv] 100 (0, 0)) ∧ W.heap[n3]? = some (.cells (matCells m) 105 (0, 0)) ∧ W.heap[n4]? = some (.cells #[.int .i64 0, .int .i64 0, .int .i64 0, .int .i64 0, .int .i64 0, .int .i64 0, .int .i64 0, .int .i64 0, .int .i64 0, .int .i64 0, .int .i64 0, .int .i64 0, .int .i64 0, .int .i64 0, .int .i64 0, .int .i64 0, .int .i64 0, .int .i64 0, .int .i64 0, .int .i64 0, .int .i64 0, .int .i64 0, .int .i64 0, .int .i64 0] 146 (0, 0)) ∧ W.heap[n5]? = some (.cells (viewCells v) 146 (0, 0)) ∧ Hid (∀ k, k < 12 → v k = vwC t m i j k)) ⟨_, ⟨_, rfl, E, q2, q3, q4, q5, hv⟩, F.sub (.c 18 rfl (.c 2 rfl (.c 3 rfl (.c 4 rfl (.c 5 rfl (.c 6 rfl (.c 11 rfl (.c 12 rfl (.c 17 rfl .n)))))))))⟩ ?_
    clear F F0
    clear E q2 q3 q4 q5
    rintro j _ fa w6 hi2 ⟨v, rfl, E, q2, q3, q4, q5, hv⟩ F
    refine wp_seq_k fun K10 hK10 => ?_
    refine wp_region_lit ?_
    refine F.vl (R_lss rfl (F.at rfl) (F.at rfl)) ?_; clear F fa; intro fa F
    refine wpList_nil ?_
    refine hK10 _ _ ?_
    clear hK10
    refine wp_seq_k fun K11 hK11 => ?_
    refine cd_if F rfl (fun hc19 => ?_) (fun hc19 => ?_)
    · skip
      refine wp_skip ?_
      refine hK11 _ _ ?_
      clear hK11
      refine wp_seq_k fun K12 hK12 => ?_
      refine wp_block ?_
      refine wp_seq_k fun K13 hK13 => ?_
      refine wp_region_lit ?_
      refine F.mv ?_; clear F fa; intro fa F
      refine F.as ?_; clear F fa; intro fa F
      refine wpList_nil ?_
      refine hK13 _ _ ?_
      clear hK13
      have hnc : nodeC (i : Int) (j : Int) = i * 3 + j + 1 := by unfold nodeC; omega
      refine region_x (Ext [] w6) (some 10) follows fun w7 hh eh => ?_
      have q2_ := q2
      replace q2 := keep_same hh q2
      have q3_ := q3
      replace q3 := keep_same hh q3
      have q4_ := q4
      replace q4 := keep_same hh q4
      have q5_ := q5
      replace q5 := keep_same hh q5
      have E_ := E
      have zEw7 := E.size
      replace E := ext_same E eh
      have eT := eh
      clear hh eh
      refine F.x (i := 0) rfl (fun w' => R_move rfl (F.at rfl)) (fun _ => eT) ?_; clear F fa; intro fa F
      refine F.x (i := 1) rfl (fun w' => R_move rfl (F.at rfl)) (fun _ => eT) ?_; clear F fa; intro fa F
      refine F.xr (i := 4) rfl (fun w' hS => R_loadBlk rfl (F.at rfl) Try.underlying105 rfl (by rw [matCells_size]; kernel_rfl) (hS.keep q3_ (by simp))) (fun _ => eT) ?_; clear F fa; intro fa F
      refine F.x (i := 5) rfl (fun w' => R_move rfl (F.at rfl)) (fun _ => eT) ?_; clear F fa; intro fa F
      refine F.x (i := 6) rfl (fun w' => R_move rfl (F.at rfl)) (fun _ => eT) ?_; clear F fa; intro fa F
      refine ax_only (i := 2) (by kernel_rfl) (op_call F rfl rfl (by decide) rfl (R_callV rfl rfl Try.call92 (mpS (F.at rfl) (mpS (F.at rfl) mp0))) (cell_n i j (by omega) (by omega) _) fun e w' hR => ?_)
      obtain ⟨rfl, rfl⟩ := hR
      refine ⟨_, rfl, ?_⟩; clear F fa; intro fa F
      refine ⟨fun _ => eT, ?_⟩
      refine F.x (i := 3) rfl (fun w' => R_sub rfl (F.at rfl) (ev_c fa _) (by omega) (by omega)) (fun _ => eT) ?_; clear F fa; intro fa F
      refine ax_only (i := 7) (by kernel_rfl) (op_call F rfl rfl (by decide) rfl (R_callV rfl rfl Try.call92 (mpS (F.at rfl) (mpS (F.at rfl) mp0))) (cell_n i j (by omega) (by omega) _) fun e w' hR => ?_)
      obtain ⟨rfl, rfl⟩ := hR
      refine ⟨_, rfl, ?_⟩; clear F fa; intro fa F
      refine ⟨fun _ => eT, ?_⟩
      refine ax_only (i := 8) (by kernel_rfl) (op_call F rfl rfl (by decide) rfl (R_callV rfl rfl Try.call91 (mpS (F.at rfl) (mpS (ev_c fa _) (mpS (F.at rfl) mp0)))) (apart_n m 0 (nodeC (i : Int) (j : Int)) (by omega) (by omega) (Hm.out _ _ (by omega) (by omega)) _) fun e w8 hR => ?_)
      obtain ⟨rfl, e9⟩ := hR
      refine ⟨_, rfl, ?_⟩; clear F fa; intro fa F
      replace q2 := (e9).keep0 q2
      replace q3 := (e9).keep0 q3
      replace q4 := (e9).keep0 q4
      replace q5 := (e9).keep0 q5
      replace E := ext_same E (e9)
      replace eT := ext_same eT (e9)
      clear e9
      refine ⟨fun _ => eT, ?_⟩
      refine F.x (i := 9) rfl (fun w' => (R_ixV (i * 3 + j) rfl (F.at rfl) (F.at rfl) (by omega) (by omega))) (fun _ => eT) ?_; clear F fa; intro fa F
      refine ax_only (i := 10) (by kernel_rfl) (op_to rfl rfl rfl (R_storeV rfl (F.at rfl) (F.at rfl) q5 (by omega)) ?_); intro w9 hw
      replace q2 := keep_cells hw q2 (by omega)
      replace q3 := keep_cells hw q3 (by omega)
      replace q4 := keep_cells hw q4 (by omega)
      replace q5 := put_view hw q5 (by omega)
      replace E := ext_cells E hw (fun h => by first | exact absurd h (by omega) | simp)
      clear hw
      refine ⟨gone (by kernel_rfl), ?_⟩
      refine ax_done (by kernel_rfl) ?_ _
      clear eT q2_ q3_ q4_ q5_ E_
      have hv2 : Hid (∀ k, k < 12 → updV v (i * 3 + j) (-(m (nodeC (i : Int) (j : Int)) 0), m 0 (nodeC (i : Int) (j : Int))) k = vwC t m i (j + 1) k) := Lib.hid fun k hk => vwC_next (by omega) (by omega) o2 o4 hv.out hk
      refine hK12 _ _ ?_
      clear hK12
      refine wp_region_lit ?_
      refine F.vl (R_add rfl (F.at rfl) (ev_c fa _) (by omega) (by omega)) ?_; clear F fa; intro fa F
      refine F.mv ?_; clear F fa; intro fa F
      refine wpList_nil ?_
      show _ ∧ _
      exact ⟨by omega, _, ⟨_, rfl, E, q2, q3, q4, q5, hv2⟩, F.sub (.c 18 rfl (.c 2 rfl (.c 3 rfl (.c 4 rfl (.c 5 rfl (.c 6 rfl (.c 11 rfl (.c 12 rfl (.c 17 rfl .n)))))))))⟩
    · skip
      refine wp_exit ?_
      have hv3 : Hid (∀ k, k < 12 → v k = vwC t m (i + 1) 0 k) := Lib.hid fun k hk => (hv.out k hk).trans (vwC_row (by omega))
      refine hK7 _ _ ?_
      clear hK7
      refine wp_region_lit ?_
      refine F.vl (R_add rfl (F.at rfl) (ev_c fa _) (by omega) (by omega)) ?_; clear F fa; intro fa F
      refine F.mv ?_; clear F fa; intro fa F
      refine wpList_nil ?_
      show _ ∧ _
      exact ⟨by omega, _, ⟨_, rfl, E, q2, q3, q4, q5, hv3⟩, F.sub (.c 12 rfl (.c 2 rfl (.c 3 rfl (.c 4 rfl (.c 5 rfl (.c 11 rfl .n))))))⟩
  · skip
    refine wp_exit ?_
    refine hK3 _ _ ?_
    clear hK3
    refine wp_seq_k fun K14 hK14 => ?_
    refine wp_seq_k fun K15 hK15 => ?_
    refine wp_region_lit ?_
    refine F.vl (R_field rfl (F.at rfl) Try.underlying100 rfl (n := 0) (sz := 11) rfl (by kernel_rfl) (by decide)) ?_; clear F fa; intro fa F
    refine F.vl (R_field rfl (F.at rfl) Try.underlying28 rfl (n := 2) (sz := 1) rfl (by kernel_rfl) (by decide)) ?_; clear F fa; intro fa F
    refine F.vl (R_load rfl (F.at rfl) Try.underlying3 rfl ((cells_of_block q2 2).trans (getS (getS (get0))))) ?_; clear F fa; intro fa F
    refine F.vl (R_move rfl (ev_c fa _)) ?_; clear F fa; intro fa F
    refine wpList_nil ?_
    refine hK15 _ _ ?_
    clear hK15
    refine wp_block ?_
    have F0 := F.sub (.c 3 rfl (.c 4 rfl (.c 5 rfl (.c 35 rfl .n))))
    refine lp_for F0 (t.T.toNat) (fun i Lv W => ∃ v : Nat → Int × Int, Lv = [(36, .int .i64 ((i : Nat) : Int))] ∧ Ext [] w W ∧ W.heap[n2]? = some (.cells #[.int .i64 t.S, .int .i64 t.A, .int .i64 t.T, .int .i64 t.bl, .int .i64 t.bm, .int .i64 t.pl, .int .i64 t.pm, .int .i64 t.sl, gv, rv, lv] 100 (0, 0)) ∧ W.heap[n3]? = some (.cells (matCells m) 105 (0, 0)) ∧ W.heap[n4]? = some (.cells #[.int .i64 0, .int .i64 0, .int .i64 0, .int .i64 0, .int .i64 0, .int .i64 0, .int .i64 0, .int .i64 0, .int .i64 0, .int .i64 0, .int .i64 0, .int .i64 0, .int .i64 0, .int .i64 0, .int .i64 0, .int .i64 0, .int .i64 0, .int .i64 0, .int .i64 0, .int .i64 0, .int .i64 0, .int .i64 0, .int .i64 0, .int .i64 0] 146 (0, 0)) ∧ W.heap[n5]? = some (.cells (viewCells v) 146 (0, 0)) ∧ Hid (∀ k, k < 12 → v k = vwT t m i k)) ⟨_, ⟨_, rfl, E, q2, q3, q4, q5, Lib.hid (fun k hk => (hv.out k hk).trans (vwC_end (by omega) o2))⟩, F.sub (.c 36 rfl (.c 3 rfl (.c 4 rfl (.c 5 rfl (.c 35 rfl .n)))))⟩ ?_
    clear F F0
    clear E q2 q3 q4 q5
    rintro i _ fa w10 hi3 ⟨v, rfl, E, q2, q3, q4, q5, hv⟩ F
    refine wp_seq_k fun K16 hK16 => ?_
    refine wp_region_lit ?_
    refine F.vl (R_lss rfl (F.at rfl) (F.at rfl)) ?_; clear F fa; intro fa F
    refine wpList_nil ?_
    refine hK16 _ _ ?_
    clear hK16
    refine wp_seq_k fun K17 hK17 => ?_
    refine cd_if F rfl (fun hc37 => ?_) (fun hc37 => ?_)
    · skip
      refine wp_skip ?_
      refine hK17 _ _ ?_
      clear hK17
      refine wp_seq_k fun K18 hK18 => ?_
      refine wp_block ?_
      refine wp_seq_k fun K19 hK19 => ?_
      refine wp_region_lit ?_
      refine F.mv ?_; clear F fa; intro fa F
      refine F.as ?_; clear F fa; intro fa F
      refine wpList_nil ?_
      refine hK19 _ _ ?_
      clear hK19
      refine wp_region_lit ?_
      refine F.mv ?_; clear F fa; intro fa F
      refine F.vl (R_add rfl (ev_c fa _) (F.at rfl) (by omega) (by omega)) ?_; clear F fa; intro fa F
      refine F.vl (R_loadBlk rfl (F.at rfl) Try.underlying105 rfl (by rw [matCells_size]; kernel_rfl) q3) ?_; clear F fa; intro fa F
      refine F.mv ?_; clear F fa; intro fa F
      refine sq_call F rfl (by decide) rfl (R_callV rfl rfl Try.call97 (mpS (F.at rfl) (mpS (F.at rfl) mp0))) (pull_any m (i : Int) _ (by omega) (by omega) (Hm.out _ _ (by omega) (by omega)).1 (Hm.out _ _ (by omega) (by omega)).2) fun e w11 hR => ?_
      obtain ⟨rfl, e9⟩ := hR
      refine ⟨_, rfl, ?_⟩; clear F fa; intro fa F
      replace q2 := ((Ext.of_below e9)).keep0 q2
      replace q3 := ((Ext.of_below e9)).keep0 q3
      replace q4 := ((Ext.of_below e9)).keep0 q4
      replace q5 := ((Ext.of_below e9)).keep0 q5
      replace E := ext_same E ((Ext.of_below e9))
      refine F.vl ((R_ixV (9 + i) rfl (F.at rfl) (F.at rfl) (by omega) (by omega))) ?_; clear F fa; intro fa F
      refine sq_to rfl rfl (R_storeV rfl (F.at rfl) (F.at rfl) q5 (by omega)) ?_; intro w12 hw
      replace q2 := keep_cells hw q2 (by omega)
      replace q3 := keep_cells hw q3 (by omega)
      replace q4 := keep_cells hw q4 (by omega)
      replace q5 := put_view hw q5 (by omega)
      replace E := ext_cells E hw (fun h => by first | exact absurd h (by omega) | simp)
      clear hw
      refine wpList_nil ?_
      have hv2 : Hid (∀ k, k < 12 → updV v (9 + i) (-(m 0 (10 + (i : Int)).toNat), m (10 + (i : Int)).toNat 0) k = vwT t m (i + 1) k) := Lib.hid fun k hk => vwT_next (by omega) hv.out hk
      refine hK18 _ _ ?_
      clear hK18
      refine wp_region_lit ?_
      refine F.vl (R_add rfl (F.at rfl) (ev_c fa _) (by omega) (by omega)) ?_; clear F fa; intro fa F
      refine F.mv ?_; clear F fa; intro fa F
      refine wpList_nil ?_
      show _ ∧ _
      exact ⟨by omega, _, ⟨_, rfl, E, q2, q3, q4, q5, hv2⟩, F.sub (.c 36 rfl (.c 3 rfl (.c 4 rfl (.c 5 rfl (.c 35 rfl .n)))))⟩
    · skip
      refine wp_exit ?_
      have hve := view_congr (fun k hk => (hv.out k hk).trans (vwT_end (by omega)))
      refine hK14 _ _ ?_
      clear hK14
      refine wp_seq_k fun K20 hK20 => ?_
      refine wp_region_lit ?_
      refine F.vl (R_loadBlk rfl (F.at rfl) Try.underlying146 rfl (by kernel_rfl) q5) ?_; clear F fa; intro fa F
      refine sq_to rfl rfl (R_storeRow rfl (F.at rfl) (F.at rfl) (by kernel_rfl) (view_one _) q4 rfl) ?_; intro w13 hw
      replace q2 := keep_cells hw q2 (by omega)
      replace q3 := keep_cells hw q3 (by omega)
      replace q4 := put_row hw q4 rfl
      replace q5 := keep_cells hw q5 (by omega)
      replace E := ext_cells E hw (fun h => by first | exact absurd h (by omega) | simp)
      clear hw
      refine wpList_nil ?_
      rw [hve] at q4
      refine hK20 _ _ ?_
      clear hK20
      refine wp_ret ?_
      (try simp only [Exit.inBlock, Exit.then])
      refine rt_v F (rs_c F rfl rfl Try.underlying146 rfl (by kernel_rfl) q4) ?_
      exact ⟨rfl, E⟩
theorem seq_split {P : Program} {Q : Exit → Act → World → Prop} {x y : Code} {K1 : Act → World → Prop} (h : ∀ a w, (Code.seq x y).wp P Q a w → K1 a w) : ∃ K2 : Act → World → Prop, (∀ a w, y.wp P Q a w → K2 a w) ∧ ∀ a w, x.wp P (Exit.then K2 Q) a w → K1 a w :=
  ⟨fun a w => y.wp P Q a w, fun a w h => h, fun a w k => h a w (wp_seq k)⟩
theorem solved_okV {t : Tp} (ok : t.Ok) (h8 : t.rd.length ≤ 8) {gv rv lv : Value} {W : World} (ht : IsTp W gv rv lv t) :
    Calls Try.prog 90 #[tpV t gv rv lv, .slice none 0 0, .slice none 0 0, .slice none 0 0] W fun e w' => e = .returned (.tuple #[tpV t gv rv lv, .agg (matCells (bdV t 0)), .int .i64 (qe t)]) ∧ Ext [] W w' := by
  have c := solved_any t gv rv lv noX (fun _ => none) (fun _ => 0) W ht (by have := ok.grl; have := ok.S3; omega) (by omega) (by have := ok.lkl; omega) (fun i hi => rows_nil _ _ _) (fun i hi => by simp [noX])
  have hc := check_of ok h8
  have h1 : openE t noX = 0 := (open_noX t).trans hc
  have h2 : solvedE t noX = qe t := by
    unfold solvedE qe
    rw [if_neg (by omega)]
  rw [openV_ok h1, show solvedM t noX = bdV t 0 from if_pos h1, h2] at c
  exact c
theorem pow_lt8 : ∀ i : Nat, i < 8 → ((2 ^ i : Nat) : Int) < 65536 := by decide
theorem with_zero : ∀ i : Nat, i < 8 → (((0 : Int).toNat ||| 2 ^ ((i : Int).toNat) : Nat) : Int) = ((2 ^ i : Nat) : Int) := by decide
/-- Whether the bounds are the same without a reading. -/
def idlB (t : Tp) (i : Nat) : Bool := eqV (vwF t (bdV t ((2 ^ i : Nat) : Int))) (vwF t (bdV t 0))
set_option maxRecDepth 100000 in
set_option maxHeartbeats 1000000 in
theorem idle_live {t : Tp} (hL : t.Live) (ga ra la : Option Addr) (gc rc lc : Nat) (w : World) (ht : IsTp w (.slice ga t.gr.length gc) (.slice ra t.rd.length rc) (.slice la t.lk.length lc) t) :
    Calls Try.prog 70 #[tpV t (.slice ga t.gr.length gc) (.slice ra t.rd.length rc) (.slice la t.lk.length lc)] w fun e w' => ∃ (R : List Int) (a : Option Addr) (c : Nat), e = .returned (.tuple #[.slice a R.length c, .int .i64 0]) ∧
      (∀ k : Nat, (k : Int) ∈ R ↔ k < t.rd.length ∧ idlB t k = true) ∧ R.length ≤ t.rd.length ∧ IsRows w' (.slice a R.length c) 1 (R.map intRow) ∧ Ext [] w w' := by
  have E : Ext [] w w := Ext.refl _ _
  have HT := Lib.hid ht
  clear ht
  have ok := hL.ok
  have h8 := hL.rd8
  have hbt := hL.bdB
  have Hbig := Lib.hid (fun (out : Int) p q (hp : p < 13) (hq : q < 13) => bd_big ok out hp hq)
  have ho : w.ownsRow w.heap.size 3 1 (.slice none 0 0) 0 (ivs []) := World.ownsRow_nil _ _ _ _
  unfold tpV
  refine calls_has 48 Try.func70 rfl Try.ntmps70 (Nat.le_of_ble_eq_true rfl) ?_
  intro fa F
  refine wp_seq_k fun K1 hK1 => ?_
  refine wp_region_lit ?_
  refine sq_new F rfl (by decide) rfl (R_box rfl (F.at rfl)) ?_; clear F fa; intro fa w1 F hw
  obtain ⟨n1, hn⟩ : ∃ n, n = w.heap.size := ⟨_, rfl⟩
  rw [← hn] at F
  have s1 : w.heap.size ≤ n1 := Nat.le_of_eq hn.symm
  have l1_E : w.heap.size ≤ n1 := by rw [hn]; exact E.size
  have o1_ho := Lib.hid (own_ne_new ho hn)
  replace ho := owns_alloc hw ho
  replace E := ext_alloc E hw
  have q1 := new_row hw hn
  clear hw hn
  refine F.vl (R_assign rfl (ev_c fa _)) ?_; clear F fa; intro fa F
  refine F.vl (R_assign rfl (ev_c fa _)) ?_; clear F fa; intro fa F
  refine wpList_nil ?_
  refine hK1 _ _ ?_
  clear hK1
  refine wp_seq_k fun K2 hK2 => ?_
  refine wp_region_lit ?_
  refine F.vl (R_loadBlk rfl (F.at rfl) Try.underlying28 rfl (by kernel_rfl) q1) ?_; clear F fa; intro fa F
  refine sq_call F rfl (by decide) rfl (R_callV rfl rfl Try.call90 (mpS (F.at rfl) (mpS (ev_c fa _) (mpS (ev_c fa _) (mpS (ev_c fa _) mp0))))) (solved_okV ok h8 (HT.out.ext E (by simp))) fun e w2 hR => ?_
  obtain ⟨rfl, e9⟩ := hR
  refine ⟨_, rfl, ?_⟩; clear F fa; intro fa F
  replace ho := owns_ext ho (e9) (by simp)
  replace q1 := (e9).keep0 q1
  replace E := ext_same E (e9)
  clear e9
  rw [show qe t = 0 from if_pos hbt] at F
  refine F.mv ?_; clear F fa; intro fa F
  refine F.vl (R_extract rfl (F.at rfl) (get0)) ?_; clear F fa; intro fa F
  refine F.vl (R_extract rfl (F.at rfl) (getS (get0))) ?_; clear F fa; intro fa F
  refine F.vl (R_extract rfl (F.at rfl) (getS (getS (get0)))) ?_; clear F fa; intro fa F
  refine sq_new F rfl (by decide) rfl (R_alloc rfl Try.zeroValue100) ?_; clear F fa; intro fa w3 F hw
  obtain ⟨n4, hn⟩ : ∃ n, n = w2.heap.size := ⟨_, rfl⟩
  rw [← hn] at F
  have s4 : w2.heap.size ≤ n4 := Nat.le_of_eq hn.symm
  have l4_E : w.heap.size ≤ n4 := by rw [hn]; exact E.size
  have m4_1 : n1 < n4 := by rw [hn]; exact blk_lt q1
  have o4_ho := Lib.hid (own_ne_new ho hn)
  replace ho := owns_alloc hw ho
  replace q1 := keep_alloc hw q1
  replace E := ext_alloc E hw
  have q4 := new_row hw hn
  clear hw hn
  refine sq_new F rfl (by decide) rfl (R_alloc rfl Try.zeroValue105) ?_; clear F fa; intro fa w4 F hw
  obtain ⟨n5, hn⟩ : ∃ n, n = w3.heap.size := ⟨_, rfl⟩
  rw [← hn] at F
  have s5 : w3.heap.size ≤ n5 := Nat.le_of_eq hn.symm
  have l5_E : w.heap.size ≤ n5 := by rw [hn]; exact E.size
  have m5_1 : n1 < n5 := by rw [hn]; exact blk_lt q1
  have m5_4 : n4 < n5 := by rw [hn]; exact blk_lt q4
  have o5_ho := Lib.hid (own_ne_new ho hn)
  replace ho := owns_alloc hw ho
  replace q1 := keep_alloc hw q1
  replace q4 := keep_alloc hw q4
  replace E := ext_alloc E hw
  have q5 := new_row hw hn
  clear hw hn
  refine sq_to rfl rfl (R_storeRow rfl (F.at rfl) (F.at rfl) (by kernel_rfl) (by first | (simp [Value.oneCell']; done) | (simp [Value.oneCell', grRow, rdRow, lkRow]; done)) q4 rfl) ?_; intro w5 hw
  replace ho := owns_cellsX hw ho (own_ne_type ho q4 (by decide))
  replace q1 := keep_cells hw q1 (by omega)
  replace q4 := put_row hw q4 rfl
  replace q5 := keep_cells hw q5 (by omega)
  replace E := ext_cells E hw (fun h => by first | exact absurd h (by omega) | simp)
  clear hw
  refine sq_to rfl rfl (R_storeRow rfl (F.at rfl) (F.at rfl) (by rw [matCells_size]; kernel_rfl) (by rw [← matList_toArray]; exact all_oneCell_toArray (matList_one _)) q5 (by show Try.zeroCells105.size = _; rw [Try.zeroCells105_size, matCells_size])) ?_; intro w6 hw
  replace ho := owns_cellsX hw ho (own_ne_type ho q5 (by decide))
  replace q1 := keep_cells hw q1 (by omega)
  replace q4 := keep_cells hw q4 (by omega)
  replace q5 := put_row hw q5 (by show Try.zeroCells105.size = _; rw [Try.zeroCells105_size, matCells_size])
  replace E := ext_cells E hw (fun h => by first | exact absurd h (by omega) | simp)
  clear hw
  refine F.as ?_; clear F fa; intro fa F
  refine wpList_nil ?_
  refine hK2 _ _ ?_
  clear hK2
  refine wp_seq_k fun K3 hK3 => ?_
  refine wp_seq_k fun K4 hK4 => ?_
  refine wp_region_lit ?_
  refine F.mv ?_; clear F fa; intro fa F
  refine F.vl (R_neqB (b := false) rfl (F.at rfl) (ev_c fa _) (by decide)) ?_; clear F fa; intro fa F
  refine wpList_nil ?_
  refine hK4 _ _ ?_
  clear hK4
  refine cd_F F rfl ?_
  refine wp_skip ?_
  refine hK3 _ _ ?_
  clear hK3
  refine wp_seq_k fun K5 hK5 => ?_
  refine wp_region_lit ?_
  refine F.vl (R_loadBlk rfl (F.at rfl) Try.underlying100 rfl (by kernel_rfl) q4) ?_; clear F fa; intro fa F
  refine F.vl (R_loadBlk rfl (F.at rfl) Try.underlying105 rfl (by rw [matCells_size]; kernel_rfl) q5) ?_; clear F fa; intro fa F
  refine sq_call F rfl (by decide) rfl (R_callV rfl rfl Try.call120 (mpS (F.at rfl) (mpS (F.at rfl) mp0))) (view_any ok (bdV t 0) (Hbig.out 0) _ _ _ ⟨rfl, rfl, rfl⟩ _) fun e w7 hR => ?_
  obtain ⟨rfl, e9⟩ := hR
  refine ⟨_, rfl, ?_⟩; clear F fa; intro fa F
  replace ho := owns_ext ho (e9) (by simp)
  replace q1 := (e9).keep0 q1
  replace q4 := (e9).keep0 q4
  replace q5 := (e9).keep0 q5
  replace E := ext_same E (e9)
  clear e9
  refine sq_new F rfl (by decide) rfl (R_alloc rfl Try.zeroValue146) ?_; clear F fa; intro fa w8 F hw
  obtain ⟨n7, hn⟩ : ∃ n, n = w7.heap.size := ⟨_, rfl⟩
  rw [← hn] at F
  have s7 : w7.heap.size ≤ n7 := Nat.le_of_eq hn.symm
  have l7_E : w.heap.size ≤ n7 := by rw [hn]; exact E.size
  have m7_1 : n1 < n7 := by rw [hn]; exact blk_lt q1
  have m7_4 : n4 < n7 := by rw [hn]; exact blk_lt q4
  have m7_5 : n5 < n7 := by rw [hn]; exact blk_lt q5
  have o7_ho := Lib.hid (own_ne_new ho hn)
  replace ho := owns_alloc hw ho
  replace q1 := keep_alloc hw q1
  replace q4 := keep_alloc hw q4
  replace q5 := keep_alloc hw q5
  replace E := ext_alloc E hw
  have q7 := new_row hw hn
  clear hw hn
  refine sq_to rfl rfl (R_storeRow rfl (F.at rfl) (F.at rfl) (by kernel_rfl) (view_one _) q7 rfl) ?_; intro w9 hw
  replace ho := owns_cellsX hw ho (own_ne_type ho q7 (by decide))
  replace q1 := keep_cells hw q1 (by omega)
  replace q4 := keep_cells hw q4 (by omega)
  replace q5 := keep_cells hw q5 (by omega)
  replace q7 := put_row hw q7 rfl
  replace E := ext_cells E hw (fun h => by first | exact absurd h (by omega) | simp)
  clear hw
  refine wpList_nil ?_
  refine hK5 _ _ ?_
  clear hK5
  refine wp_seq_k fun K6 hK6 => ?_
  refine wp_region_lit ?_
  refine F.vl (R_assign rfl (ev_c fa _)) ?_; clear F fa; intro fa F
  refine wpList_nil ?_
  refine hK6 _ _ ?_
  clear hK6
  refine wp_seq_k fun K7 hK7 => ?_
  refine wp_seq_k fun K8 hK8 => ?_
  refine wp_region_lit ?_
  refine F.vl (R_field rfl (F.at rfl) Try.underlying28 rfl (n := 9) (sz := 1) rfl (by kernel_rfl) (by decide)) ?_; clear F fa; intro fa F
  refine F.vl (R_load rfl (F.at rfl) Try.underlying25 rfl ((cells_of_block q1 9).trans (getS (getS (getS (getS (getS (getS (getS (getS (getS (get0)))))))))))) ?_; clear F fa; intro fa F
  refine F.vl (R_len rfl rfl (F.at rfl) Try.underlying25) ?_; clear F fa; intro fa F
  refine F.vl (R_move rfl (ev_c fa _)) ?_; clear F fa; intro fa F
  refine wpList_nil ?_
  refine hK8 _ _ ?_
  clear hK8
  refine wp_block ?_
  have F0 := F.sub (.c 4 rfl (.c 7 rfl (.c 26 rfl .n)))
  refine lp_for F0 (t.rd.length) (fun i Lv W => ∃ va : Option Addr, ∃ vc : Nat, ∃ R : List Int, Lv = [(8, .slice va R.length vc), (27, .int .i64 ((i : Nat) : Int))] ∧ Ext [] w W ∧ W.heap[n4]? = some (.cells #[.int .i64 t.S, .int .i64 t.A, .int .i64 t.T, .int .i64 t.bl, .int .i64 t.bm, .int .i64 t.pl, .int .i64 t.pm, .int .i64 t.sl, .slice ga t.gr.length gc, .slice ra t.rd.length rc, .slice la t.lk.length lc] 100 (0, 0)) ∧ W.heap[n7]? = some (.cells (viewCells (vwF t (bdV t 0))) 146 (0, 0)) ∧ W.ownsRow w.heap.size 3 1 (.slice va R.length vc) R.length (ivs R) ∧ Hid (∀ k : Nat, (k : Int) ∈ R ↔ k < i ∧ idlB t k = true) ∧ R.length ≤ i) ⟨_, ⟨none, 0, [], rfl, E, q4, q7, ho, Lib.hid (fun k => ⟨fun h => (by simp at h), fun h => absurd h.1 (by omega)⟩), Nat.le_refl _⟩, F.sub (.c 8 rfl (.c 27 rfl (.c 4 rfl (.c 7 rfl (.c 26 rfl .n)))))⟩ ?_
  clear F F0
  clear E q4 q7
  clear ho
  rintro i _ fa w10 hi1 ⟨va, vc, R, rfl, E, q4, q7, ho, hR, hRl⟩ F
  refine wp_seq_k fun K9 hK9 => ?_
  refine wp_region_lit ?_
  refine F.vl (R_lss rfl (F.at rfl) (F.at rfl)) ?_; clear F fa; intro fa F
  refine wpList_nil ?_
  refine hK9 _ _ ?_
  clear hK9
  refine wp_seq_k fun K10 hK10 => ?_
  refine cd_if F rfl (fun hc28 => ?_) (fun hc28 => ?_)
  · skip
    refine wp_skip ?_
    refine hK10 _ _ ?_
    clear hK10
    refine wp_seq_k fun K11 hK11 => ?_
    refine wp_block ?_
    refine wp_seq_k fun K12 hK12 => ?_
    refine wp_region_lit ?_
    refine F.mv ?_; clear F fa; intro fa F
    refine F.as ?_; clear F fa; intro fa F
    refine wpList_nil ?_
    refine hK12 _ _ ?_
    clear hK12
    refine wp_seq_k fun K13 hK13 => ?_
    have hp1 := pow_lt8 i (by omega)
    have hp0 : (0 : Int) ≤ ((2 ^ i : Nat) : Int) := Int.natCast_nonneg _
    suffices hcut : ∀ (n10 : Nat) (fa : Act) (w21 : World), Has 48 fa [(4, .pointer (some ⟨n4, 0, none⟩)), (7, .pointer (some ⟨n7, 0, none⟩)), (8, .slice va R.length vc), (9, .int .i64 ((i : Nat) : Int)), (10, .pointer (some ⟨n10, 0, none⟩)), (26, .int .i64 ((t.rd.length : Nat) : Int)), (27, .int .i64 ((i : Nat) : Int))] → w21.heap[n4]? = some (.cells #[.int .i64 t.S, .int .i64 t.A, .int .i64 t.T, .int .i64 t.bl, .int .i64 t.bm, .int .i64 t.pl, .int .i64 t.pm, .int .i64 t.sl, .slice ga t.gr.length gc, .slice ra t.rd.length rc, .slice la t.lk.length lc] 100 (0, 0)) → w21.heap[n7]? = some (.cells (viewCells (vwF t (bdV t 0))) 146 (0, 0)) → w21.heap[n10]? = some (.cells (matCells (bdV t ((2 ^ i : Nat) : Int))) 105 (0, 0)) → Ext [] w w21 → w.heap.size ≤ n10 → n4 ≠ n10 → n7 ≠ n10 → w21.ownsRow w.heap.size 3 1 (.slice va R.length vc) R.length (ivs R) → K13 fa w21 by
      refine region_x (Ext [] w10) none follows fun w11 hh eh => ?_
      have q4_ := q4
      replace q4 := keep_same hh q4
      have q7_ := q7
      replace q7 := keep_same hh q7
      have E_ := E
      have zEw11 := E.size
      replace E := ext_same E eh
      replace ho := owns_same hh ho
      have eT := eh
      clear hh eh
      refine F.xr (i := 0) rfl (fun w' hS => R_loadBlk rfl (F.at rfl) Try.underlying100 rfl (by kernel_rfl) (hS.keep q4_ (by simp))) (fun _ => eT) ?_; clear F fa; intro fa F
      refine F.x (i := 1) rfl (fun w' => R_move rfl (F.at rfl)) (fun _ => eT) ?_; clear F fa; intro fa F
      refine ax_pair (i := 2) (j := 7) (by kernel_rfl) ?_ ?_
      · skip
        refine (op_call F rfl rfl (by decide) rfl (R_callV rfl rfl Try.call121 (mpS (ev_c fa _) (mpS (F.at rfl) mp0))) (with_any 0 (i : Int) _ (by omega) (by omega) (by omega) (by omega)) fun e w' hR => ?_)
        obtain ⟨rfl, rfl⟩ := hR
        refine ⟨_, rfl, ?_⟩; clear F fa; intro fa F
        refine ⟨fun _ => eT, ?_⟩
        rw [with_zero i (by omega)] at F
        refine ax_pair (i := 3) (j := 7) (by kernel_rfl) ?_ ?_
        · skip
          refine (op_call F rfl rfl (by decide) rfl (R_callV rfl rfl Try.call80 (mpS (F.at rfl) (mpS (F.at rfl) mp0))) (solve_v t ok _ _ _ ((2 ^ i : Nat) : Int) hp0 hp1 _ (HT.out.ext E (by simp))) fun e w12 hR => ?_)
          obtain ⟨rfl, e9⟩ := hR
          refine ⟨_, rfl, ?_⟩; clear F fa; intro fa F
          replace ho := owns_ext ho (e9) (by simp)
          replace q4 := (e9).keep0 q4
          replace q7 := (e9).keep0 q7
          replace E := ext_same E (e9)
          replace eT := ext_same eT (e9)
          clear e9
          refine ⟨fun _ => eT, ?_⟩
          refine F.x (i := 4) rfl (fun w' => R_move rfl (F.at rfl)) (fun _ => eT) ?_; clear F fa; intro fa F
          refine F.x (i := 5) rfl (fun w' => R_extract rfl (F.at rfl) (get0)) (fun _ => eT) ?_; clear F fa; intro fa F
          refine F.x (i := 6) rfl (fun w' => R_extract rfl (F.at rfl) (getS (get0))) (fun _ => eT) ?_; clear F fa; intro fa F
          refine ax_only (i := 7) (by kernel_rfl) (op_new F rfl rfl (by decide) rfl (R_alloc rfl Try.zeroValue105) ?_); clear F fa; intro fa w13 F hw
          obtain ⟨n10, hn⟩ : ∃ n, n = w12.heap.size := ⟨_, rfl⟩
          rw [← hn] at F
          have s10 : w12.heap.size ≤ n10 := Nat.le_of_eq hn.symm
          have l10_E : w.heap.size ≤ n10 := by rw [hn]; exact E.size
          have lT10 : w10.heap.size ≤ n10 := by rw [hn]; exact eT.size
          have m10_4 : n4 < n10 := by rw [hn]; exact blk_lt q4
          have m10_7 : n7 < n10 := by rw [hn]; exact blk_lt q7
          have o10_ho := Lib.hid (own_ne_new ho hn)
          replace ho := owns_alloc hw ho
          replace q4 := keep_alloc hw q4
          replace q7 := keep_alloc hw q7
          replace E := ext_alloc E hw
          replace eT := ext_alloc eT hw
          have q10 := new_row hw hn
          clear hw hn
          refine ⟨fun _ => eT, ?_⟩
          refine ax_only (i := 8) (by kernel_rfl) (op_to rfl rfl rfl (R_storeRow rfl (F.at rfl) (F.at rfl) (by rw [matCells_size]; kernel_rfl) (by rw [← matList_toArray]; exact all_oneCell_toArray (matList_one _)) q10 (by show Try.zeroCells105.size = _; rw [Try.zeroCells105_size, matCells_size])) ?_); intro w14 hw
          replace ho := owns_cellsX hw ho (own_ne_type ho q10 (by decide))
          replace q4 := keep_cells hw q4 (by omega)
          replace q7 := keep_cells hw q7 (by omega)
          replace q10 := put_row hw q10 (by show Try.zeroCells105.size = _; rw [Try.zeroCells105_size, matCells_size])
          replace E := ext_cells E hw (fun h => by first | exact absurd h (by omega) | simp)
          replace eT := ext_cells eT hw (fun h => by first | exact absurd h (by omega) | simp)
          clear hw
          refine ⟨fun _ => eT, ?_⟩
          refine F.x (i := 9) rfl (fun w' => R_assign rfl (F.at rfl)) (fun _ => eT) ?_; clear F fa; intro fa F
          refine ax_done (by kernel_rfl) ?_ _
          exact hcut _ _ _ (F.sub (.c 4 rfl (.c 7 rfl (.c 8 rfl (.c 9 rfl (.c 10 rfl (.c 26 rfl (.c 27 rfl .n)))))))) q4 q7 q10 E (by omega) (by omega) (by omega) ho
        · skip
          refine (op_new F rfl rfl (by decide) rfl (R_alloc rfl Try.zeroValue105) ?_); clear F fa; intro fa w15 F hw
          obtain ⟨n10, hn⟩ : ∃ n, n = w11.heap.size := ⟨_, rfl⟩
          rw [← hn] at F
          have s10 : w11.heap.size ≤ n10 := Nat.le_of_eq hn.symm
          have l10_E : w.heap.size ≤ n10 := by rw [hn]; exact E.size
          have lT10 : w10.heap.size ≤ n10 := by rw [hn]; exact eT.size
          have m10_4 : n4 < n10 := by rw [hn]; exact blk_lt q4
          have m10_7 : n7 < n10 := by rw [hn]; exact blk_lt q7
          have o10_ho := Lib.hid (own_ne_new ho hn)
          replace ho := owns_alloc hw ho
          replace q4 := keep_alloc hw q4
          replace q7 := keep_alloc hw q7
          replace E := ext_alloc E hw
          replace eT := ext_alloc eT hw
          have q10 := new_row hw hn
          clear hw hn
          refine ⟨fun _ => eT, ?_⟩
          refine ax_only (i := 3) (by kernel_rfl) (op_call F rfl rfl (by decide) rfl (R_callV rfl rfl Try.call80 (mpS (F.at rfl) (mpS (F.at rfl) mp0))) (solve_v t ok _ _ _ ((2 ^ i : Nat) : Int) hp0 hp1 _ (HT.out.ext E (by simp))) fun e w16 hR => ?_)
          obtain ⟨rfl, e9⟩ := hR
          refine ⟨_, rfl, ?_⟩; clear F fa; intro fa F
          replace ho := owns_ext ho (e9) (by simp)
          replace q4 := (e9).keep0 q4
          replace q7 := (e9).keep0 q7
          replace q10 := (e9).keep0 q10
          replace E := ext_same E (e9)
          replace eT := ext_same eT (e9)
          clear e9
          refine ⟨fun _ => eT, ?_⟩
          refine F.x (i := 4) rfl (fun w' => R_move rfl (F.at rfl)) (fun _ => eT) ?_; clear F fa; intro fa F
          refine F.x (i := 5) rfl (fun w' => R_extract rfl (F.at rfl) (get0)) (fun _ => eT) ?_; clear F fa; intro fa F
          refine F.x (i := 6) rfl (fun w' => R_extract rfl (F.at rfl) (getS (get0))) (fun _ => eT) ?_; clear F fa; intro fa F
          refine ax_only (i := 8) (by kernel_rfl) (op_to rfl rfl rfl (R_storeRow rfl (F.at rfl) (F.at rfl) (by rw [matCells_size]; kernel_rfl) (by rw [← matList_toArray]; exact all_oneCell_toArray (matList_one _)) q10 (by show Try.zeroCells105.size = _; rw [Try.zeroCells105_size, matCells_size])) ?_); intro w17 hw
          replace ho := owns_cellsX hw ho (own_ne_type ho q10 (by decide))
          replace q4 := keep_cells hw q4 (by omega)
          replace q7 := keep_cells hw q7 (by omega)
          replace q10 := put_row hw q10 (by show Try.zeroCells105.size = _; rw [Try.zeroCells105_size, matCells_size])
          replace E := ext_cells E hw (fun h => by first | exact absurd h (by omega) | simp)
          replace eT := ext_cells eT hw (fun h => by first | exact absurd h (by omega) | simp)
          clear hw
          refine ⟨fun _ => eT, ?_⟩
          refine F.x (i := 9) rfl (fun w' => R_assign rfl (F.at rfl)) (fun _ => eT) ?_; clear F fa; intro fa F
          refine ax_done (by kernel_rfl) ?_ _
          exact hcut _ _ _ (F.sub (.c 4 rfl (.c 7 rfl (.c 8 rfl (.c 9 rfl (.c 10 rfl (.c 26 rfl (.c 27 rfl .n)))))))) q4 q7 q10 E (by omega) (by omega) (by omega) ho
      · skip
        refine (op_new F rfl rfl (by decide) rfl (R_alloc rfl Try.zeroValue105) ?_); clear F fa; intro fa w18 F hw
        obtain ⟨n10, hn⟩ : ∃ n, n = w11.heap.size := ⟨_, rfl⟩
        rw [← hn] at F
        have s10 : w11.heap.size ≤ n10 := Nat.le_of_eq hn.symm
        have l10_E : w.heap.size ≤ n10 := by rw [hn]; exact E.size
        have lT10 : w10.heap.size ≤ n10 := by rw [hn]; exact eT.size
        have m10_4 : n4 < n10 := by rw [hn]; exact blk_lt q4
        have m10_7 : n7 < n10 := by rw [hn]; exact blk_lt q7
        have o10_ho := Lib.hid (own_ne_new ho hn)
        replace ho := owns_alloc hw ho
        replace q4 := keep_alloc hw q4
        replace q7 := keep_alloc hw q7
        replace E := ext_alloc E hw
        replace eT := ext_alloc eT hw
        have q10 := new_row hw hn
        clear hw hn
        refine ⟨fun _ => eT, ?_⟩
        refine ax_only (i := 2) (by kernel_rfl) (op_call F rfl rfl (by decide) rfl (R_callV rfl rfl Try.call121 (mpS (ev_c fa _) (mpS (F.at rfl) mp0))) (with_any 0 (i : Int) _ (by omega) (by omega) (by omega) (by omega)) fun e w' hR => ?_)
        obtain ⟨rfl, rfl⟩ := hR
        refine ⟨_, rfl, ?_⟩; clear F fa; intro fa F
        refine ⟨fun _ => eT, ?_⟩
        rw [with_zero i (by omega)] at F
        refine ax_only (i := 3) (by kernel_rfl) (op_call F rfl rfl (by decide) rfl (R_callV rfl rfl Try.call80 (mpS (F.at rfl) (mpS (F.at rfl) mp0))) (solve_v t ok _ _ _ ((2 ^ i : Nat) : Int) hp0 hp1 _ (HT.out.ext E (by simp))) fun e w19 hR => ?_)
        obtain ⟨rfl, e9⟩ := hR
        refine ⟨_, rfl, ?_⟩; clear F fa; intro fa F
        replace ho := owns_ext ho (e9) (by simp)
        replace q4 := (e9).keep0 q4
        replace q7 := (e9).keep0 q7
        replace q10 := (e9).keep0 q10
        replace E := ext_same E (e9)
        replace eT := ext_same eT (e9)
        clear e9
        refine ⟨fun _ => eT, ?_⟩
        refine F.x (i := 4) rfl (fun w' => R_move rfl (F.at rfl)) (fun _ => eT) ?_; clear F fa; intro fa F
        refine F.x (i := 5) rfl (fun w' => R_extract rfl (F.at rfl) (get0)) (fun _ => eT) ?_; clear F fa; intro fa F
        refine F.x (i := 6) rfl (fun w' => R_extract rfl (F.at rfl) (getS (get0))) (fun _ => eT) ?_; clear F fa; intro fa F
        refine ax_only (i := 8) (by kernel_rfl) (op_to rfl rfl rfl (R_storeRow rfl (F.at rfl) (F.at rfl) (by rw [matCells_size]; kernel_rfl) (by rw [← matList_toArray]; exact all_oneCell_toArray (matList_one _)) q10 (by show Try.zeroCells105.size = _; rw [Try.zeroCells105_size, matCells_size])) ?_); intro w20 hw
        replace ho := owns_cellsX hw ho (own_ne_type ho q10 (by decide))
        replace q4 := keep_cells hw q4 (by omega)
        replace q7 := keep_cells hw q7 (by omega)
        replace q10 := put_row hw q10 (by show Try.zeroCells105.size = _; rw [Try.zeroCells105_size, matCells_size])
        replace E := ext_cells E hw (fun h => by first | exact absurd h (by omega) | simp)
        replace eT := ext_cells eT hw (fun h => by first | exact absurd h (by omega) | simp)
        clear hw
        refine ⟨fun _ => eT, ?_⟩
        refine F.x (i := 9) rfl (fun w' => R_assign rfl (F.at rfl)) (fun _ => eT) ?_; clear F fa; intro fa F
        refine ax_done (by kernel_rfl) ?_ _
        exact hcut _ _ _ (F.sub (.c 4 rfl (.c 7 rfl (.c 8 rfl (.c 9 rfl (.c 10 rfl (.c 26 rfl (.c 27 rfl .n)))))))) q4 q7 q10 E (by omega) (by omega) (by omega) ho
    clear F q4 q7 E ho fa
    intro n10  fa w21 F q4 q7 q10 E l10_E m10_4 m10_7 ho
    refine hK13 _ _ ?_
    clear hK13
    refine wp_seq_k fun K14 hK14 => ?_
    refine region_x (Ext [] w21) none follows fun w22 hh eh => ?_
    have q4_ := q4
    replace q4 := keep_same hh q4
    have q7_ := q7
    replace q7 := keep_same hh q7
    have q10_ := q10
    replace q10 := keep_same hh q10
    have E_ := E
    have zEw22 := E.size
    replace E := ext_same E eh
    replace ho := owns_same hh ho
    have eT := eh
    clear hh eh
    refine F.xr (i := 0) rfl (fun w' hS => R_loadBlk rfl (F.at rfl) Try.underlying100 rfl (by kernel_rfl) (hS.keep q4_ (by simp))) (fun _ => eT) ?_; clear F fa; intro fa F
    refine F.xr (i := 1) rfl (fun w' hS => R_loadBlk rfl (F.at rfl) Try.underlying105 rfl (by rw [matCells_size]; kernel_rfl) (hS.keep q10_ (by simp))) (fun _ => eT) ?_; clear F fa; intro fa F
    refine F.xr (i := 3) rfl (fun w' hS => R_loadBlk rfl (F.at rfl) Try.underlying146 rfl (by kernel_rfl) (hS.keep q7_ (by simp))) (fun _ => eT) ?_; clear F fa; intro fa F
    refine ax_only (i := 2) (by kernel_rfl) (op_call F rfl rfl (by decide) rfl (R_callV rfl rfl Try.call120 (mpS (F.at rfl) (mpS (F.at rfl) mp0))) (view_any ok (bdV t ((2 ^ i : Nat) : Int)) (Hbig.out _) _ _ _ ⟨rfl, rfl, rfl⟩ _) fun e w23 hR => ?_)
    obtain ⟨rfl, e9⟩ := hR
    refine ⟨_, rfl, ?_⟩; clear F fa; intro fa F
    replace ho := owns_ext ho (e9) (by simp)
    replace q4 := (e9).keep0 q4
    replace q7 := (e9).keep0 q7
    replace q10 := (e9).keep0 q10
    replace E := ext_same E (e9)
    replace eT := ext_same eT (e9)
    clear e9
    refine ⟨fun _ => eT, ?_⟩
    refine F.x (i := 4) rfl (fun w' => (R_eqlView rfl (F.at rfl) (F.at rfl))) (fun _ => eT) ?_; clear F fa; intro fa F
    refine ax_done (by kernel_rfl) ?_ _
    clear eT q4_ q7_ q10_ E_
    refine hK14 _ _ ?_
    clear hK14
    refine cd_b F rfl (fun hc41 => ?_) (fun hc41 => ?_)
    · skip
      refine wp_region_lit ?_
      refine F.mv ?_; clear F fa; intro fa F
      refine F.mv ?_; clear F fa; intro fa F
      refine sq_new F rfl (by decide) rfl (R_buildSliceV rfl (prS (F.at rfl) pr0) Try.underlying29 (size := 1) (by kernel_rfl) (by decide) (by decide) Try.zeroValue3 (cells := #[.int .i64 ((i : Nat) : Int)]) (by kernel_rfl)) ?_; clear F fa; intro fa w24 F hw
      obtain ⟨n44, hn⟩ : ∃ n, n = w23.heap.size := ⟨_, rfl⟩
      rw [← hn] at F
      have s44 : w23.heap.size ≤ n44 := Nat.le_of_eq hn.symm
      have l44_E : w.heap.size ≤ n44 := by rw [hn]; exact E.size
      have m44_4 : n4 < n44 := by rw [hn]; exact blk_lt q4
      have m44_7 : n7 < n44 := by rw [hn]; exact blk_lt q7
      have m44_10 : n10 < n44 := by rw [hn]; exact blk_lt q10
      have o44_ho := Lib.hid (own_ne_new ho hn)
      replace ho := owns_alloc hw ho
      replace q4 := keep_alloc hw q4
      replace q7 := keep_alloc hw q7
      replace q10 := keep_alloc hw q10
      replace E := ext_alloc E hw
      have q44 := new_block hw hn
      clear hw hn
      have hEs := E.size
      refine sq_some F rfl (by decide) rfl (append_run rfl (w.heap.size) (e := 3) (size := 1) (bytes := 8) Try.underlying29 (by kernel_rfl) (by decide) (F.at rfl) ho (F.at rfl) q44 rfl (by simp [Value.oneCell']) (by omega) (by omega) (by omega)) ?_; clear F fa; rintro fa v' w25 F ⟨hown', hg⟩
      obtain ⟨va45, vc45, rfl⟩ := owns_slice hown'
      replace q4 := keep_type ho hg q4 (by decide)
      replace q7 := keep_type ho hg q7 (by decide)
      replace q10 := keep_type ho hg q10 (by decide)
      replace E := ext_appendX E ho hg (by omega)
      replace ho := hown'
      clear hg
      obtain ⟨P2, hP2e⟩ : ∃ P2, P2 = R ++ [((i : Nat) : Int)] := ⟨_, rfl⟩
      have hPl3 : R.length + 1 = P2.length := by rw [hP2e, List.length_append]; rfl
      have hRl2 : P2.length ≤ i + 1 := by omega
      have hR2 : Hid (∀ k : Nat, (k : Int) ∈ P2 ↔ k < i + 1 ∧ idlB t k = true) := Lib.hid fun k => by rw [hP2e, List.mem_append, List.mem_singleton, hR.out k]; exact ⟨fun h => h.elim (fun h => ⟨by omega, h.2⟩) (fun e => by obtain rfl : k = i := (by omega); exact ⟨by omega, hc41⟩), fun h => if e : k = i then .inr (by rw [e]) else .inl ⟨by omega, h.2⟩⟩
      rw [ivs_snoc1, ← hP2e, hPl3] at ho
      rw [hPl3] at F
      refine F.as ?_; clear F fa; intro fa F
      refine wpList_nil ?_
      refine hK11 _ _ ?_
      clear hK11
      refine wp_region_lit ?_
      refine F.vl (R_add rfl (F.at rfl) (ev_c fa _) (by omega) (by omega)) ?_; clear F fa; intro fa F
      refine F.mv ?_; clear F fa; intro fa F
      refine wpList_nil ?_
      show _ ∧ _
      exact ⟨by omega, _, ⟨_, _, _, rfl, E, q4, q7, ho, hR2, hRl2⟩, F.sub (.c 8 rfl (.c 27 rfl (.c 4 rfl (.c 7 rfl (.c 26 rfl .n)))))⟩
    · skip
      have hRl2 : R.length ≤ i + 1 := by omega
      have hR2 : Hid (∀ k : Nat, (k : Int) ∈ R ↔ k < i + 1 ∧ idlB t k = true) := Lib.hid fun k => (hR.out k).trans ⟨fun h => ⟨by omega, h.2⟩, fun h => ⟨(if e : k = i then (by subst e; rw [show idlB t k = false from hc41] at h; exact absurd h.2 (by decide)) else by omega), h.2⟩⟩
      refine wp_skip ?_
      refine hK11 _ _ ?_
      clear hK11
      refine wp_region_lit ?_
      refine F.vl (R_add rfl (F.at rfl) (ev_c fa _) (by omega) (by omega)) ?_; clear F fa; intro fa F
      refine F.mv ?_; clear F fa; intro fa F
      refine wpList_nil ?_
      show _ ∧ _
      exact ⟨by omega, _, ⟨_, _, _, rfl, E, q4, q7, ho, hR2, hRl2⟩, F.sub (.c 8 rfl (.c 27 rfl (.c 4 rfl (.c 7 rfl (.c 26 rfl .n)))))⟩
  · skip
    refine wp_exit ?_
    refine hK7 _ _ ?_
    clear hK7
    refine wp_seq_k fun K15 hK15 => ?_
    refine wp_region_lit ?_
    refine F.mv ?_; clear F fa; intro fa F
    refine F.as ?_; clear F fa; intro fa F
    refine F.vl (R_assign rfl (ev_c fa _)) ?_; clear F fa; intro fa F
    refine wpList_nil ?_
    refine hK15 _ _ ?_
    clear hK15
    refine wp_ret ?_
    (try simp only [Exit.inBlock, Exit.then])
    refine rt_v F (rs_2 F rfl rfl rfl) ?_
    exact ⟨R, va, vc, rfl, fun k => (hR.out k).trans ⟨fun h => ⟨by omega, h.2⟩, fun h => ⟨by omega, h.2⟩⟩, by omega, rows_of_owns (xs := R) (row := intRow) (by rw [← ivs_flat]; exact ho) (fun _ => rfl), E⟩
end Go.Proofs.Ytholfdgebdlgjaa
