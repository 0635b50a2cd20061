/- The program's Need. Conditions: all arguments are valid. -/
import Derived.Test.YtdjeecgddbjbeaaDju
import Derived.Test.YtdjeecgddbjbeaaDrp
namespace Go.Proofs.Ytdjeecgddbjbeaa
open Go.RowKit
set_option linter.unusedVariables false
set_option linter.unusedSimpArgs false
/-- A vat with another tolerance. -/
def Vm.tolN (x : Vm) (n : Int) : Vm := { x with tol := n }
theorem VOk.tolN {x : Vm} (h : VOk x) {n : Int} (h0 : 0 ≤ n) (h12 : n ≤ 12) : VOk (x.tolN n) :=
  { h with
    chk := by
      have e := h.chk
      unfold chkE at e ⊢
      show (if outB x.B 1 3 = true then _ else _) = (0 : Int)
      have ho : outB n 0 12 = false := outB_no.2 ⟨h0, h12⟩
      have hx : outB x.tol 0 12 = false := outB_no.2 ⟨h.t0, h.t12⟩
      rw [show (x.tolN n).tol = n from rfl, ho]
      rw [hx] at e
      exact e
    t0 := h0
    t12 := h12 }
theorem Vm.At.tolN {x : Vm} {w : World} (h : x.At w) (n : Int) : (x.tolN n).At w := ⟨h.d, h.l⟩
/-- What Need answers. -/
def NeedPost (x : Vm) (s ls : List Int) (w : World) (e : Ending) (w' : World) : Prop := ∃ n : Nat, ∃ er : Int, e = .returned (.tuple #[.int .i64 (n : Nat), .int .i64 er]) ∧
  ((er = 0 ∧ n ≤ 12 ∧ matL (x.tolN (n : Nat)) (val s) ls ≠ [] ∧ ∀ k : Nat, k < n → matL (x.tolN (k : Nat)) (val s) ls = []) ∨ (er = 11 ∧ n = 0 ∧ ∀ k : Nat, k ≤ 12 → matL (x.tolN (k : Nat)) (val s) ls = [])) ∧ Ext [] w w'
set_option maxRecDepth 100000 in
set_option maxHeartbeats 2000000 in
theorem xNeed_ok (x : Vm) (hv : VOk x) (s : List Int) (hs : SmpOk x s) (ls : List Int) (hl : LmpsOk x ls) (hll : ls.length ≤ 1000) (a b : Option Addr) (c d : Nat) (w : World) (h : x.At w) (hr : IsRows w (.slice a s.length c) 1 (s.map intRow)) (hq : IsRows w (.slice b ls.length d) 1 (ls.map intRow)) :
    Calls Try.prog 41 #[.agg #[.int .i64 x.B, .slice x.da x.D.length x.dc, .slice x.la x.L.length x.lc, .int .i64 x.tol], .slice a s.length c, .slice b ls.length d] w (NeedPost x s ls w) := by
  have E : Ext [] w w := Ext.refl _ _
  have HX := Lib.hid h
  have HV := Lib.hid hv
  have HR := Lib.hid hr
  have HQ := Lib.hid hq
  have HL := Lib.hid hl
  have HS := Lib.hid hs
  clear h hv hr hq hl hs
  refine calls_hasM 32 Try.func41 rfl Try.ntmps41 (Nat.le_of_ble_eq_true rfl) ?_
  intro fa F
  refine wp_seq_k fun K1 hK1 => ?_
  refine wp_region_lit ?_
  refine sq_new F rfl (by decide) rfl (R_box rfl (F.at rfl)) ?_; clear F fa; intro fa w1 F hw
  obtain ⟨n3, hn⟩ : ∃ n, n = w.heap.size := ⟨_, rfl⟩
  rw [← hn] at F
  have s3 : w.heap.size ≤ n3 := Nat.le_of_eq hn.symm
  have l3_E : w.heap.size ≤ n3 := by rw [hn]; exact E.size
  replace E := ext_alloc E hw
  have q3 := new_row hw hn
  clear hw hn
  refine F.vl (R_assign rfl (ev_c fa _)) ?_; clear F fa; intro fa F
  refine sq_new F rfl (by decide) rfl (R_alloc rfl Try.zeroValue35) ?_; clear F fa; intro fa w2 F hw
  obtain ⟨n7, hn⟩ : ∃ n, n = w1.heap.size := ⟨_, rfl⟩
  rw [← hn] at F
  have s7 : w1.heap.size ≤ n7 := Nat.le_of_eq hn.symm
  have l7_E : w.heap.size ≤ n7 := by rw [hn]; exact E.size
  have m7_3 : n3 < n7 := by rw [hn]; exact blk_lt q3
  replace q3 := keep_alloc hw q3
  replace E := ext_alloc E hw
  have q7 := new_one hw rfl hn
  clear hw hn
  refine wpList_nil ?_
  refine hK1 _ _ ?_
  clear hK1
  refine wp_scope_late 0 (by exact rfl) fun JJ HJJ => ?_
  refine wp_seq_k fun K2 hK2 => ?_
  refine wp_region_lit ?_
  refine sq_defer F rfl rfl (R_defer rfl rfl (mpS (F.at rfl) mp0)) ?_; clear F fa; intro fa F
  refine wpList_nil ?_
  refine hK2 _ _ ?_
  clear hK2
  refine wp_seq_k fun K3 hK3 => ?_
  refine wp_region_lit ?_
  refine F.vl (R_loadBlk rfl (F.at rfl) Try.underlying24 rfl (by kernel_rfl) q3) ?_; clear F fa; intro fa F
  refine sq_call F rfl (by decide) rfl (R_callV rfl rfl Try.call54 (mpS (F.at rfl) mp0)) (begin_ok x HV.out _ (HX.out.ext E)) fun e w3 hR => ?_
  obtain ⟨rfl, e9⟩ := hR
  refine ⟨_, rfl, ?_⟩; clear F fa; intro fa F
  replace q3 := (e9).keep0 q3
  replace q7 := (e9).keep0 q7
  replace E := ext_same E (e9)
  clear e9
  refine sq_new F rfl (by decide) rfl (R_alloc rfl Try.zeroValue80) ?_; clear F fa; intro fa w4 F hw
  obtain ⟨n8, hn⟩ : ∃ n, n = w3.heap.size := ⟨_, rfl⟩
  rw [← hn] at F
  have s8 : w3.heap.size ≤ n8 := Nat.le_of_eq hn.symm
  have l8_E : w.heap.size ≤ n8 := by rw [hn]; exact E.size
  have m8_3 : n3 < n8 := by rw [hn]; exact blk_lt q3
  have m8_7 : n7 < n8 := by rw [hn]; exact blk_lt q7
  replace q3 := keep_alloc hw q3
  replace q7 := keep_alloc hw q7
  replace E := ext_alloc E hw
  have q8 := new_row hw hn
  clear hw hn
  refine sq_to rfl rfl (R_storeRow rfl (F.at rfl) (F.at rfl) (by kernel_rfl) (by first | (simp [Value.oneCell']; done) | (simp [Value.oneCell', id]; done)) q8 rfl) ?_; intro w5 hw
  replace q3 := keep_cells hw q3 (by omega)
  replace q7 := keep_cells hw q7 (by omega)
  replace q8 := put_row hw q8 rfl
  replace E := ext_cells E hw (fun h => by first | exact absurd h (by omega) | simp)
  clear hw
  refine wpList_nil ?_
  refine hK3 _ _ ?_
  clear hK3
  refine wp_seq_k fun K4 hK4 => ?_
  refine wp_region_lit ?_
  refine F.vl (R_loadBlk rfl (F.at rfl) Try.underlying80 rfl (by kernel_rfl) q8) ?_; clear F fa; intro fa F
  refine F.mv ?_; clear F fa; intro fa F
  refine sq_call F rfl (by decide) rfl (R_callV rfl rfl Try.call56 (mpS (F.at rfl) (mpS (F.at rfl) mp0))) (sample_ok x HV.out s HS.out a c _ (HR.out.ext E (by simp))) fun e w6 hR => ?_
  obtain ⟨rfl, e9⟩ := hR
  refine ⟨_, rfl, ?_⟩; clear F fa; intro fa F
  replace q3 := (e9).keep0 q3
  replace q7 := (e9).keep0 q7
  replace q8 := (e9).keep0 q8
  replace E := ext_same E (e9)
  clear e9
  refine wpList_nil ?_
  refine hK4 _ _ ?_
  clear hK4
  refine wp_seq_k fun K5 hK5 => ?_
  refine wp_region_lit ?_
  refine F.vl (R_loadBlk rfl (F.at rfl) Try.underlying80 rfl (by kernel_rfl) q8) ?_; clear F fa; intro fa F
  refine F.mv ?_; clear F fa; intro fa F
  refine sq_call F rfl (by decide) rfl (R_callV rfl rfl Try.call57 (mpS (F.at rfl) (mpS (F.at rfl) mp0))) (lamps_ok x HV.out ls HL.out hll b d _ (HX.out.ext E) (HQ.out.ext E (by simp))) fun e w7 hR => ?_
  obtain ⟨rfl, e9⟩ := hR
  refine ⟨_, rfl, ?_⟩; clear F fa; intro fa F
  replace q3 := (e9).keep0 q3
  replace q7 := (e9).keep0 q7
  replace q8 := (e9).keep0 q8
  replace E := ext_same E (e9)
  clear e9
  refine wpList_nil ?_
  refine hK5 _ _ ?_
  clear hK5
  refine wp_seq_k fun K6 hK6 => ?_
  refine wp_region_lit ?_
  refine F.vl (R_assign rfl (ev_c fa _)) ?_; clear F fa; intro fa F
  refine wpList_nil ?_
  refine hK6 _ _ ?_
  clear hK6
  refine wp_seq_k fun K7 hK7 => ?_
  refine wp_label ?_
  refine hK7 _ _ ?_
  clear hK7
  refine HJJ (fun kk fa W => ∃ i : Nat, i + kk = 12 ∧ ∃ tl : Int, Has 32 [{ target := .fn (.func 53) #[], args := #[.pointer (some ⟨n7, 0, none⟩)] }] fa [(1, .slice a s.length c), (2, .slice b ls.length d), (7, .pointer (some ⟨n7, 0, none⟩)), (8, .pointer (some ⟨n8, 0, none⟩)), (9, .int .i64 ((i : Nat) : Int))] ∧ W.heap[n3]? = some (.cells #[.int .i64 x.B, .slice x.da x.D.length x.dc, .slice x.la x.L.length x.lc, .int .i64 x.tol] 24 (0, 0)) ∧ W.heap[n7]? = some (.cells #[.int .i64 0] 35 (0, 0)) ∧ W.heap[n8]? = some (.cells #[.int .i64 x.B, .slice x.da x.D.length x.dc, .slice x.la x.L.length x.lc, .int .i64 tl] 80 (0, 0)) ∧ Ext [] w W ∧ RowKit.Hid (∀ k : Nat, k < i → matL (x.tolN (k : Nat)) (val s) ls = [])) ?_ (12) _ _ ⟨0, by omega, x.tol, F.sub (.c 1 rfl (.c 2 rfl (.c 7 rfl (.c 8 rfl (.c 9 rfl .n))))), q3, q7, q8, E, Lib.hid (fun k hk => absurd hk (by omega))⟩
  clear F q3 q7 q8 E fa
  rintro kk fa w8 ⟨i, hik, tl, F, q3, q7, q8, E, HN⟩
  refine wp_seq_k fun K8 hK8 => ?_
  refine wp_region_lit ?_
  refine F.mv ?_; clear F fa; intro fa F
  refine F.vl (R_field rfl (F.at rfl) Try.underlying80 rfl (n := 0) (sz := 4) rfl (by kernel_rfl) (by decide)) ?_; clear F fa; intro fa F
  refine F.vl (R_field rfl (F.at rfl) Try.underlying24 rfl (n := 3) (sz := 1) rfl (by kernel_rfl) (by decide)) ?_; clear F fa; intro fa F
  refine sq_to rfl rfl (R_store rfl (F.at rfl) (F.at rfl) rfl (by kernel_rfl) ((cells_of_block q8 3).trans (getS (getS (getS (get0))))) (free_of_block q8 3)) ?_; intro w9 hw
  replace q3 := keep_cell hw q3 (by omega)
  replace q7 := keep_cell hw q7 (by omega)
  replace q8 := put_cell hw q8 (by simp only [List.setIfInBounds_toArray, List.set_cons_succ, List.set_cons_zero]; exact rfl)
  replace E := ext_cell E hw (fun h => by first | exact absurd h (by omega) | simp)
  clear hw
  refine wpList_nil ?_
  refine hK8 _ _ ?_
  clear hK8
  refine wp_seq_k fun K9 hK9 => ?_
  refine wp_seq_k fun K10 hK10 => ?_
  refine wp_region_lit ?_
  refine F.vl (R_loadBlk rfl (F.at rfl) Try.underlying80 rfl (by kernel_rfl) q8) ?_; clear F fa; intro fa F
  refine F.mv ?_; clear F fa; intro fa F
  refine F.mv ?_; clear F fa; intro fa F
  refine sq_call F rfl (by decide) rfl (R_callV rfl rfl Try.call94 (mpS (F.at rfl) (mpS (F.at rfl) (mpS (F.at rfl) mp0)))) (matching_ok (x.tolN (i : Nat)) (HV.out.tolN (by omega) (by omega)) s HS.out ls HL.out.2.1 hll a b c d _ ((HX.out.ext E).tolN _) (HR.out.ext E (by simp)) (HQ.out.ext E (by simp))) fun e w10 hR => ?_
  obtain ⟨ma, mc, rfl, om, e9⟩ := hR
  refine ⟨_, rfl, ?_⟩; clear F fa; intro fa F
  replace q3 := (e9).keep0 q3
  replace q7 := (e9).keep0 q7
  replace q8 := (e9).keep0 q8
  replace E := ext_same E (e9)
  clear e9
  refine F.vl (R_len rfl rfl (F.at rfl) Try.underlying102) ?_; clear F fa; intro fa F
  refine F.vl (R_gtr rfl (F.at rfl) (ev_c fa _)) ?_; clear F fa; intro fa F
  refine wpList_nil ?_
  refine hK10 _ _ ?_
  clear hK10
  refine cd_if F rfl (fun hc26 => ?_) (fun hc26 => ?_)
  · skip
    refine wp_seq_k fun K11 hK11 => ?_
    refine wp_region_lit ?_
    refine F.mv ?_; clear F fa; intro fa F
    refine F.as ?_; clear F fa; intro fa F
    refine sq_to rfl rfl (R_store rfl (F.at rfl) (ev_c fa _) rfl (by kernel_rfl) ((cells_of_block q7 0).trans (get0)) (free_of_block q7 0)) ?_; intro w11 hw
    replace q3 := keep_cell hw q3 (by omega)
    replace q7 := put_cell hw q7 (by simp only [List.setIfInBounds_toArray, List.set_cons_succ, List.set_cons_zero]; exact rfl)
    replace q8 := keep_cell hw q8 (by omega)
    replace E := ext_cell E hw (fun h => by first | exact absurd h (by omega) | simp)
    clear hw
    refine wpList_nil ?_
    refine hK11 _ _ ?_
    clear hK11
    refine wp_ret ?_
    (try simp only [Exit.inBlock, Exit.then, reduceIte])
    refine rtM_v F ?_
    refine lv_caught ?_
    refine lv_nil (rs_tc F rfl rfl rfl Try.underlying35 rfl q7) ?_
    exact ⟨i, 0, rfl, Or.inl ⟨rfl, by omega, fun h0 => (by rw [h0] at hc26; simp at hc26), HN.out⟩, E⟩
  · skip
    have HN2 : RowKit.Hid (matL (x.tolN (i : Nat)) (val s) ls = []) := Lib.hid (List.length_eq_zero_iff.1 (by omega))
    refine wp_skip ?_
    refine hK9 _ _ ?_
    clear hK9
    refine wp_seq_k fun K12 hK12 => ?_
    refine wp_seq_k fun K13 hK13 => ?_
    refine wp_region_lit ?_
    refine F.mv ?_; clear F fa; intro fa F
    refine F.vl (R_add rfl (F.at rfl) (ev_c fa _) (by omega) (by omega)) ?_; clear F fa; intro fa F
    refine F.as ?_; clear F fa; intro fa F
    refine wpList_nil ?_
    refine hK13 _ _ ?_
    clear hK13
    refine wp_seq_k fun K14 hK14 => ?_
    refine wp_region_lit ?_
    refine F.mv ?_; clear F fa; intro fa F
    refine F.vl (R_leq rfl (F.at rfl) (ev_c fa _)) ?_; clear F fa; intro fa F
    refine wpList_nil ?_
    refine hK14 _ _ ?_
    clear hK14
    refine cd_if F rfl (fun hc31 => ?_) (fun hc31 => ?_)
    · skip
      refine wp_goto ?_
      (try simp only [Exit.inBlock, Exit.then, Exit.jump, reduceIte])
      exact ⟨by trivial, 12 - (i + 1), by omega, i + 1, by omega, _, F.sub (.c 1 rfl (.c 2 rfl (.c 7 rfl (.c 8 rfl (.c 9 rfl .n))))), q3, q7, q8, E, Lib.hid (fun k hk => (by rcases Nat.lt_or_ge k i with h | h; exact HN.out k h; rw [show k = i by omega]; exact HN2.out))⟩
    · skip
      refine wp_skip ?_
      refine hK12 _ _ ?_
      clear hK12
      refine wp_seq_k fun K15 hK15 => ?_
      refine wp_region_lit ?_
      refine F.vl (R_assign rfl (ev_c fa _)) ?_; clear F fa; intro fa F
      refine sq_to rfl rfl (R_store rfl (F.at rfl) (ev_c fa _) rfl (by kernel_rfl) ((cells_of_block q7 0).trans (get0)) (free_of_block q7 0)) ?_; intro w12 hw
      replace q3 := keep_cell hw q3 (by omega)
      replace q7 := put_cell hw q7 (by simp only [List.setIfInBounds_toArray, List.set_cons_succ, List.set_cons_zero]; exact rfl)
      replace q8 := keep_cell hw q8 (by omega)
      replace E := ext_cell E hw (fun h => by first | exact absurd h (by omega) | simp)
      clear hw
      refine wpList_nil ?_
      refine hK15 _ _ ?_
      clear hK15
      refine wp_ret ?_
      (try simp only [Exit.inBlock, Exit.then, reduceIte])
      refine rtM_v F ?_
      refine lv_caught ?_
      refine lv_nil (rs_tc F rfl rfl rfl Try.underlying35 rfl q7) ?_
      exact ⟨0, 11, rfl, Or.inr ⟨rfl, rfl, fun k hk => (by rcases Nat.lt_or_ge k i with h | h; exact HN.out k h; rw [show k = i by omega]; exact HN2.out)⟩, E⟩
end Go.Proofs.Ytdjeecgddbjbeaa
