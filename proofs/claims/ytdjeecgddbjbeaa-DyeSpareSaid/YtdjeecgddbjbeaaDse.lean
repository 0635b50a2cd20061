/- Sets of stuffs. Conditions: the set is below 64. -/
import Derived.Test.YtdjeecgddbjbeaaDtl
namespace Go.Proofs.Ytdjeecgddbjbeaa
open Go.RowKit
set_option linter.unusedVariables false
set_option linter.unusedSimpArgs false
section
variable {P : Program} {ρ : Operand → Value} {o : Oper} {w : World}
theorem R_and {x y : Operand} {t t' : TypeId} {k : IntKind} {n m : Int} (ho : o.op = .binOp .and t x y t') (hx : ρ x = .int k n) (hy : ρ y = .int k m) : (execOp ρ o).run P w = .ok (.value (.int k (bits .and k n m))) w := by
  unfold execOp
  simp [ho, hx, hy, binOp, Op.intBits, eqGuard, go_sem]
  rfl
theorem R_or {x y : Operand} {t t' : TypeId} {k : IntKind} {n m : Int} (ho : o.op = .binOp .or t x y t') (hx : ρ x = .int k n) (hy : ρ y = .int k m) : (execOp ρ o).run P w = .ok (.value (.int k (bits .or k n m))) w := by
  unfold execOp
  simp [ho, hx, hy, binOp, Op.intBits, eqGuard, go_sem]
  rfl
theorem R_shl {x y : Operand} {t t' : TypeId} {k k' : IntKind} {n : Int} {m : Nat} (ho : o.op = .binOp .shl t x y t') (hx : ρ x = .int k n) (hy : ρ y = .int k' m) : (execOp ρ o).run P w = .ok (.value (.int k (k.wrap (n * 2 ^ min m k.bits)))) w := by
  unfold execOp
  have hm : ¬ ((m : Int) < 0) := by omega
  simp [ho, hx, hy, binOp, Op.shift, eqGuard, hm, go_sem]
theorem R_indexStr {y : Operand} {t : TypeId} {s : ByteArray} {i : Int} {b : UInt8} {k : IntKind} (ho : o.op = .index t (.const (.string s)) y) (hx : ρ (.const (.string s)) = .string s) (hy : ρ y = .int k i) (hu : P.underlying t = some .string) (h0 : 0 ≤ i) (hb : s[i.toNat]? = some b) : (execOp ρ o).run P w = .ok (.value (.int .u8 b.toNat)) w := by
  unfold execOp
  simp [ho, hx, hy, Instr.index, asIntOf, run_underlying hu, h0, hb, go_sem]
end
theorem has8 : ∀ s, s < 64 → ∀ n, n < 8 → bits .and .u8 (((s : Nat) : Int).fdiv (2 ^ min n IntKind.u8.bits)) 1 = if s.testBit n then 1 else 0 := by decide +kernel
theorem shl8 : ∀ n, n < 7 → IntKind.u8.wrap (1 * 2 ^ min n IntKind.u8.bits) = ((2 ^ n : Nat) : Int) := by decide +kernel
theorem or8 : ∀ s, s < 64 → ∀ n, n < 6 → bits .or .u8 ((s : Nat) : Int) ((2 ^ n : Nat) : Int) = ((s ||| 2 ^ n : Nat) : Int) := by decide +kernel
/-- A set is a part of another. -/
def subB (s f : Nat) : Bool := (List.range 6).all fun n => !s.testBit n || f.testBit n
theorem not8 : ∀ s, s < 64 → ∀ f, f < 64 → decide (bits .andNot .u8 ((s : Nat) : Int) ((f : Nat) : Int) = 0) = subB s f := by decide +kernel
theorem or_lt : ∀ s, s < 64 → ∀ n, n < 6 → s ||| 2 ^ n < 64 := by decide +kernel
theorem add8 : ∀ s, s < 64 → IntKind.u8.wrap (((s : Nat) : Int) + 1) = ((s + 1 : Nat) : Int) := by decide +kernel
def setList (s : Nat) : List Int := ((List.range 6).filter s.testBit).map fun n => ((n : Nat) : Int)
def setLen (s : Nat) : Nat := ((List.range 6).filter s.testBit).length
theorem has_ok (s n : Nat) (hs : s < 64) (hn : n < 8) (w : World) : Calls Try.prog 111 #[.int .u8 ((s : Nat) : Int), .int .i64 ((n : Nat) : Int)] w fun e w' => e = .returned (.bool (s.testBit n)) ∧ Ext [] w w' := by
  have E : Ext [] w w := Ext.refl _ _
  refine calls_has 10 Try.func111 rfl Try.ntmps111 (Nat.le_of_ble_eq_true rfl) ?_
  intro fa F
  refine wp_seq_k fun K1 hK1 => ?_
  refine wp_region_lit ?_
  refine F.vl (R_assign rfl (ev_c fa _)) ?_; clear F fa; intro fa F
  refine wpList_nil ?_
  refine hK1 _ _ ?_
  clear hK1
  refine wp_seq_k fun K2 hK2 => ?_
  refine wp_region_lit ?_
  refine F.mv ?_; clear F fa; intro fa F
  refine F.mv ?_; clear F fa; intro fa F
  refine F.vl ((R_shr rfl (F.at rfl) (F.at rfl))) ?_; clear F fa; intro fa F
  refine F.vl ((R_and rfl (F.at rfl) (ev_c fa _))) ?_; clear F fa; intro fa F
  refine F.vl (R_eqlD rfl (F.at rfl) (ev_c fa _)) ?_; clear F fa; intro fa F
  refine F.as ?_; clear F fa; intro fa F
  refine wpList_nil ?_
  refine hK2 _ _ ?_
  clear hK2
  refine wp_ret ?_
  (try simp only [Exit.inBlock, Exit.then, reduceIte])
  refine rt_v F (rs_1 F rfl rfl) ?_
  exact ⟨ret_bool (by rw [has8 s hs n hn]; cases s.testBit n <;> rfl), E⟩
theorem take_filter {s k : Nat} (h : k < 6) : (((List.range 6).take (k + 1)).filter s.testBit) = ((List.range 6).take k).filter s.testBit ++ if s.testBit k then [k] else [] := by
  rw [take_range h, List.filter_append]
  by_cases hb : s.testBit k = true <;> simp [hb]
set_option maxRecDepth 100000 in
theorem list_ok (s : Nat) (hs : s < 64) (w : World) : Calls Try.prog 75 #[.int .u8 ((s : Nat) : Int)] w fun e w' => ∃ a c, e = .returned (.slice a (setList s).length c) ∧ w'.ownsRow w.heap.size 3 1 (.slice a (setList s).length c) (setList s).length (ivs (setList s)) ∧ Ext [] w w' := by
  have E : Ext [] w w := Ext.refl _ _
  have oo : w.ownsRow w.heap.size 3 1 (.slice none 0 0) 0 (ivs ((((List.range 6).take 0).filter s.testBit).map fun n => ((n : Nat) : Int))) := World.ownsRow_nil _ _ _ _
  refine calls_has 17 Try.func75 rfl Try.ntmps75 (Nat.le_of_ble_eq_true rfl) ?_
  intro fa F
  refine wp_seq_k fun K1 hK1 => ?_
  refine wp_region_lit ?_
  refine F.vl (R_assign rfl (ev_c fa _)) ?_; clear F fa; intro fa F
  refine wpList_nil ?_
  refine hK1 _ _ ?_
  clear hK1
  refine wp_seq_k fun K2 hK2 => ?_
  refine wp_region_lit ?_
  refine F.vl (R_assign rfl (ev_c fa _)) ?_; clear F fa; intro fa F
  refine wpList_nil ?_
  refine hK2 _ _ ?_
  clear hK2
  refine wp_seq_k fun K3 hK3 => ?_
  refine wp_seq_k fun K4 hK4 => ?_
  refine wp_region_lit ?_
  refine F.vl (R_move rfl (ev_c fa _)) ?_; clear F fa; intro fa F
  refine wpList_nil ?_
  refine hK4 _ _ ?_
  clear hK4
  refine wp_block ?_
  have F0 := F.sub (.c 0 rfl .n)
  refine lp_for F0 (6) (fun i Lv W => ∃ va : Option Addr, ∃ k : Nat, ∃ vc : Nat, Lv = [(3, .slice va k vc), (5, .int .i64 ((i : Nat) : Int))] ∧ Ext [] w W ∧ W.ownsRow w.heap.size 3 1 (.slice va k vc) k (ivs ((((List.range 6).take i).filter s.testBit).map fun n => ((n : Nat) : Int))) ∧ k = ((((List.range 6).take i).filter s.testBit).map fun n => ((n : Nat) : Int)).length ∧ k ≤ i) ⟨_, ⟨none, 0, 0, rfl, E, oo, rfl, (Nat.le_refl _)⟩, F.sub (.c 3 rfl (.c 5 rfl (.c 0 rfl .n)))⟩ ?_
  clear F F0
  clear E
  clear oo
  rintro i _ fa w1 hi1 ⟨va, k, vc, rfl, E, oo, hkl, hk6⟩ F
  refine wp_seq_k fun K5 hK5 => ?_
  refine wp_region_lit ?_
  refine F.vl (R_lss rfl (F.at rfl) (ev_c fa _)) ?_; clear F fa; intro fa F
  refine wpList_nil ?_
  refine hK5 _ _ ?_
  clear hK5
  refine wp_seq_k fun K6 hK6 => ?_
  refine cd_if F rfl (fun hc6 => ?_) (fun hc6 => ?_)
  · skip
    refine wp_skip ?_
    refine hK6 _ _ ?_
    clear hK6
    refine wp_seq_k fun K7 hK7 => ?_
    refine wp_block ?_
    refine wp_seq_k fun K8 hK8 => ?_
    refine wp_region_lit ?_
    refine F.mv ?_; clear F fa; intro fa F
    refine F.as ?_; clear F fa; intro fa F
    refine wpList_nil ?_
    refine hK8 _ _ ?_
    clear hK8
    refine wp_seq_k fun K9 hK9 => ?_
    refine wp_region_lit ?_
    refine F.mv ?_; clear F fa; intro fa F
    refine F.mv ?_; clear F fa; intro fa F
    refine sq_call F rfl (by decide) rfl (R_callV rfl rfl Try.call111 (mpS (F.at rfl) (mpS (F.at rfl) mp0))) (has_ok s i hs (by omega) _) fun e w2 hR => ?_
    obtain ⟨rfl, e9⟩ := hR
    refine ⟨_, rfl, ?_⟩; clear F fa; intro fa F
    replace oo := owns_ext oo (e9) (by simp)
    replace E := ext_same E (e9)
    clear e9
    refine wpList_nil ?_
    refine hK9 _ _ ?_
    clear hK9
    refine cd_b F rfl (fun hc10 => ?_) (fun hc10 => ?_)
    · skip
      have hst := take_filter (s := s) (show i < 6 by omega)
      rw [if_pos hc10] at hst
      refine wp_region_lit ?_
      refine F.mv ?_; clear F fa; intro fa F
      refine F.mv ?_; clear F fa; intro fa F
      refine sq_new F rfl (by decide) rfl (R_buildSliceV rfl (prS (F.at rfl) pr0) Try.underlying25 (size := 1) (by kernel_rfl) (by decide) (by decide) Try.zeroValue3 (cells := #[.int .i64 ((i : Nat) : Int)]) (by kernel_rfl)) ?_; clear F fa; intro fa w3 F hw
      obtain ⟨n13, hn⟩ : ∃ n, n = w2.heap.size := ⟨_, rfl⟩
      rw [← hn] at F
      have s13 : w2.heap.size ≤ n13 := Nat.le_of_eq hn.symm
      have l13_E : w.heap.size ≤ n13 := by rw [hn]; exact E.size
      have o13_oo := Lib.hid (own_ne_new oo hn)
      replace oo := owns_alloc hw oo
      replace E := ext_alloc E hw
      have q13 := new_block hw hn
      clear hw hn
      have hEs := E.size
      refine sq_some F rfl (by decide) rfl (append_run rfl (w.heap.size) (e := 3) (size := 1) (bytes := 8) Try.underlying25 (by kernel_rfl) (by decide) (F.at rfl) oo (F.at rfl) q13 rfl (by simp [Value.oneCell']) (by omega) (by omega) (by omega)) ?_; clear F fa; rintro fa v' w4 F ⟨hown', hg⟩
      obtain ⟨va14, vc14, rfl⟩ := owns_slice hown'
      replace E := ext_appendX E oo hg (by omega)
      replace oo := hown'
      clear hg
      rw [ivs_snoc1, show ((((List.range 6).take i).filter s.testBit).map fun n => ((n : Nat) : Int)) ++ [((i : Nat) : Int)] = (((List.range 6).take (i + 1)).filter s.testBit).map fun n => ((n : Nat) : Int) by rw [hst, List.map_append]; rfl] at oo
      replace hkl : k + 1 = ((((List.range 6).take (i + 1)).filter s.testBit).map fun n => ((n : Nat) : Int)).length := by rw [hst, List.map_append, List.length_append, ← hkl]; rfl
      refine F.as ?_; clear F fa; intro fa F
      refine wpList_nil ?_
      refine hK7 _ _ ?_
      clear hK7
      refine wp_region_lit ?_
      refine F.vl (R_add rfl (F.at rfl) (ev_c fa _) (by omega) (by omega)) ?_; clear F fa; intro fa F
      refine F.mv ?_; clear F fa; intro fa F
      refine wpList_nil ?_
      show _ ∧ _
      exact ⟨by omega, _, ⟨_, _, _, rfl, E, oo, hkl, (by omega)⟩, F.sub (.c 3 rfl (.c 5 rfl (.c 0 rfl .n)))⟩
    · skip
      have hst := take_filter (s := s) (show i < 6 by omega)
      rw [if_neg (by rw [hc10]; decide), List.append_nil] at hst
      rw [← hst] at oo hkl
      refine wp_skip ?_
      refine hK7 _ _ ?_
      clear hK7
      refine wp_region_lit ?_
      refine F.vl (R_add rfl (F.at rfl) (ev_c fa _) (by omega) (by omega)) ?_; clear F fa; intro fa F
      refine F.mv ?_; clear F fa; intro fa F
      refine wpList_nil ?_
      show _ ∧ _
      exact ⟨by omega, _, ⟨_, _, _, rfl, E, oo, hkl, (by omega)⟩, F.sub (.c 3 rfl (.c 5 rfl (.c 0 rfl .n)))⟩
  · skip
    refine wp_exit ?_
    rw [List.take_of_length_le (show (List.range 6).length ≤ i by rw [List.length_range]; omega)] at oo hkl
    replace hkl : k = (setList s).length := hkl
    replace oo : w1.ownsRow w.heap.size 3 1 (.slice va k vc) k (ivs (setList s)) := oo
    refine hK3 _ _ ?_
    clear hK3
    refine wp_seq_k fun K10 hK10 => ?_
    refine wp_region_lit ?_
    refine F.mv ?_; clear F fa; intro fa F
    refine F.as ?_; clear F fa; intro fa F
    refine wpList_nil ?_
    refine hK10 _ _ ?_
    clear hK10
    refine wp_ret ?_
    (try simp only [Exit.inBlock, Exit.then, reduceIte])
    refine rt_v F (rs_1 F rfl rfl) ?_
    rw [← hkl]
    exact ⟨va, vc, rfl, oo, E⟩
/-- The table of the numbers of ones. -/
def onesT : ByteArray := { data := (([0, 1, 1, 2, 1, 2, 2, 3, 1, 2, 2, 3, 2, 3, 3, 4, 1, 2, 2, 3, 2, 3, 3, 4, 2, 3, 3, 4, 3, 4, 4, 5, 1, 2, 2, 3, 2, 3, 3, 4, 2, 3, 3, 4, 3, 4, 4, 5, 2, 3, 3, 4, 3, 4, 4, 5, 3, 4, 4, 5, 4, 5, 5, 6].append [1, 2, 2, 3, 2, 3, 3, 4, 2, 3, 3, 4, 3, 4, 4, 5, 2, 3, 3, 4, 3, 4, 4, 5, 3, 4, 4, 5, 4, 5, 5, 6, 2, 3, 3, 4, 3, 4, 4, 5, 3, 4, 4, 5, 4, 5, 5, 6, 3, 4, 4, 5, 4, 5, 5, 6, 4, 5, 5, 6, 5, 6, 6, 7]).append ([1, 2, 2, 3, 2, 3, 3, 4, 2, 3, 3, 4, 3, 4, 4, 5, 2, 3, 3, 4, 3, 4, 4, 5, 3, 4, 4, 5, 4, 5, 5, 6, 2, 3, 3, 4, 3, 4, 4, 5, 3, 4, 4, 5, 4, 5, 5, 6, 3, 4, 4, 5, 4, 5, 5, 6, 4, 5, 5, 6, 5, 6, 6, 7].append [2, 3, 3, 4, 3, 4, 4, 5, 3, 4, 4, 5, 4, 5, 5, 6, 3, 4, 4, 5, 4, 5, 5, 6, 4, 5, 5, 6, 5, 6, 6, 7, 3, 4, 4, 5, 4, 5, 5, 6, 4, 5, 5, 6, 5, 6, 6, 7, 4, 5, 5, 6, 5, 6, 6, 7, 5, 6, 6, 7, 6, 7, 7, 8])).toArray }
theorem ones_hb : ∀ s, s < 64 → onesT[(((s : Nat) : Int)).toNat]? = some (UInt8.ofNat (setLen s)) := by decide +kernel
theorem ones_val : ∀ s, s < 64 → IntKind.i64.wrap (((UInt8.ofNat (setLen s)).toNat : Nat) : Int) = ((setLen s : Nat) : Int) := by decide +kernel
set_option maxRecDepth 100000 in
theorem ones_any (s : Nat) (hs : s < 64) (w : World) : Calls Try.prog 112 #[.int .u8 ((s : Nat) : Int)] w fun e w' => e = .returned (.int .i64 ((setLen s : Nat) : Int)) ∧ Ext [] w w' := by
  have E : Ext [] w w := Ext.refl _ _
  refine calls_has 6 Try.func112 rfl Try.ntmps112 (Nat.le_of_ble_eq_true rfl) ?_
  intro fa F
  refine wp_seq_k fun K1 hK1 => ?_
  refine wp_region_lit ?_
  refine F.vl (R_assign rfl (ev_c fa _)) ?_; clear F fa; intro fa F
  refine wpList_nil ?_
  refine hK1 _ _ ?_
  clear hK1
  refine wp_seq_k fun K2 hK2 => ?_
  refine wp_region_lit ?_
  refine F.mv ?_; clear F fa; intro fa F
  refine F.vl ((R_indexStr (s := onesT) rfl (ev_c fa _) (F.at rfl) Try.underlying9 (by omega) (ones_hb s hs))) ?_; clear F fa; intro fa F
  refine F.vl ((R_convert rfl (F.at rfl) Try.underlying5 Try.underlying3)) ?_; clear F fa; intro fa F
  refine F.as ?_; clear F fa; intro fa F
  refine wpList_nil ?_
  refine hK2 _ _ ?_
  clear hK2
  refine wp_ret ?_
  (try simp only [Exit.inBlock, Exit.then, reduceIte])
  refine rt_v F (rs_1 F rfl rfl) ?_
  exact ⟨ret_int (ones_val s hs), E⟩
theorem count_ok (s : Nat) (hs : s < 64) (w : World) : Calls Try.prog 76 #[.int .u8 ((s : Nat) : Int)] w fun e w' => e = .returned (.int .i64 ((setLen s : Nat) : Int)) ∧ Ext [] w w' := by
  have E : Ext [] w w := Ext.refl _ _
  refine calls_has 5 Try.func76 rfl Try.ntmps76 (Nat.le_of_ble_eq_true rfl) ?_
  intro fa F
  refine wp_seq_k fun K1 hK1 => ?_
  refine wp_region_lit ?_
  refine F.vl (R_assign rfl (ev_c fa _)) ?_; clear F fa; intro fa F
  refine wpList_nil ?_
  refine hK1 _ _ ?_
  clear hK1
  refine wp_seq_k fun K2 hK2 => ?_
  refine wp_region_lit ?_
  refine F.mv ?_; clear F fa; intro fa F
  refine sq_call F rfl (by decide) rfl (R_callV rfl rfl Try.call112 (mpS (F.at rfl) mp0)) (ones_any s hs _) fun e w1 hR => ?_
  obtain ⟨rfl, e9⟩ := hR
  refine ⟨_, rfl, ?_⟩; clear F fa; intro fa F
  replace E := ext_same E (e9)
  clear e9
  refine F.as ?_; clear F fa; intro fa F
  refine wpList_nil ?_
  refine hK2 _ _ ?_
  clear hK2
  refine wp_ret ?_
  (try simp only [Exit.inBlock, Exit.then, reduceIte])
  refine rt_v F (rs_1 F rfl rfl) ?_
  exact ⟨rfl, E⟩
end Go.Proofs.Ytdjeecgddbjbeaa
