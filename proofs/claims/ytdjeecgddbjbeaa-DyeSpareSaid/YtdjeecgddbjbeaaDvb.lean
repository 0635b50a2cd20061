/- The program's vats at work: begin, weights, sums. Conditions: the vat is valid. -/
import Derived.Test.YtdjeecgddbjbeaaDtb
namespace Go.Proofs.Ytdjeecgddbjbeaa
open Go.RowKit
set_option linter.unusedVariables false
set_option linter.unusedSimpArgs false
/-- A valid vat. -/
structure VOk (x : Vm) : Prop where
  chk : chkE x.B (x.D.map (·.2)) (x.L.map (·.2)) x.tol = 0
  b1 : 1 ≤ x.B
  b3 : x.B ≤ 3
  d1 : 1 ≤ x.D.length
  d4 : x.D.length ≤ 4
  dl : ∀ p ∈ x.D, (p.2.length : Int) = x.B ∧ ∀ n ∈ p.2, 0 ≤ n ∧ n ≤ 9
  l1 : 1 ≤ x.L.length
  l3 : x.L.length ≤ 3
  ll : ∀ p ∈ x.L, (p.2.length : Int) = x.B ∧ ∀ n ∈ p.2, 0 ≤ n ∧ n ≤ 3
  t0 : 0 ≤ x.tol
  t12 : x.tol ≤ 12
theorem VOk.sd {x : Vm} (h : VOk x) : SmallL x.D := ⟨by have := h.d4; omega, fun p hp => by have := (h.dl p hp).1; have := h.b3; omega⟩
theorem VOk.sl {x : Vm} (h : VOk x) : SmallL x.L := ⟨by have := h.l3; omega, fun p hp => by have := (h.ll p hp).1; have := h.b3; omega⟩
theorem must_ok (w : World) : Calls Try.prog 97 #[.int .i64 0] w fun e w' => e = .returned (.tuple #[]) ∧ Ext [] w w' := by
  have E : Ext [] w w := Ext.refl _ _
  refine calls_has 6 Try.func97 rfl Try.ntmps97 (Nat.le_of_ble_eq_true rfl) ?_
  intro fa F
  refine wp_seq_k fun K1 hK1 => ?_
  refine wp_region_lit ?_
  refine F.mv ?_; clear F fa; intro fa F
  refine F.vl (R_neqB (b := false) rfl (F.at rfl) (ev_c fa _) (by decide)) ?_; clear F fa; intro fa F
  refine wpList_nil ?_
  refine hK1 _ _ ?_
  clear hK1
  refine cd_F F rfl ?_
  refine wp_skip ?_
  (try simp only [Exit.inBlock, Exit.then, reduceIte])
  refine rt_vn F (rs_0 rfl) ?_
  exact ⟨rfl, E⟩
set_option maxRecDepth 100000 in
theorem begin_ok (x : Vm) (hv : VOk x) (w : World) (h : x.At w) : Calls Try.prog 54 #[.agg #[.int .i64 x.B, .slice x.da x.D.length x.dc, .slice x.la x.L.length x.lc, .int .i64 x.tol]] w fun e w' => e = .returned (.agg #[.int .i64 x.B, .slice x.da x.D.length x.dc, .slice x.la x.L.length x.lc, .int .i64 x.tol]) ∧ Ext [] w w' := by
  have E : Ext [] w w := Ext.refl _ _
  have HX := Lib.hid h
  have HV := Lib.hid hv
  clear h hv
  refine calls_has 8 Try.func54 rfl Try.ntmps54 (Nat.le_of_ble_eq_true rfl) ?_
  intro fa F
  refine wp_seq_k fun K1 hK1 => ?_
  refine wp_region_lit ?_
  refine sq_new F rfl (by decide) rfl (R_box rfl (F.at rfl)) ?_; clear F fa; intro fa w1 F hw
  obtain ⟨n1, hn⟩ : ∃ n, n = w.heap.size := ⟨_, rfl⟩
  rw [← hn] at F
  have s1 : w.heap.size ≤ n1 := Nat.le_of_eq hn.symm
  have l1_E : w.heap.size ≤ n1 := by rw [hn]; exact E.size
  replace E := ext_alloc E hw
  have q1 := new_row hw hn
  clear hw hn
  refine sq_new F rfl (by decide) rfl (R_alloc rfl Try.zeroValue80) ?_; clear F fa; intro fa w2 F hw
  obtain ⟨n2, hn⟩ : ∃ n, n = w1.heap.size := ⟨_, rfl⟩
  rw [← hn] at F
  have s2 : w1.heap.size ≤ n2 := Nat.le_of_eq hn.symm
  have l2_E : w.heap.size ≤ n2 := by rw [hn]; exact E.size
  have m2_1 : n1 < n2 := by rw [hn]; exact blk_lt q1
  replace q1 := keep_alloc hw q1
  replace E := ext_alloc E hw
  have q2 := new_row hw hn
  clear hw hn
  refine wpList_nil ?_
  refine hK1 _ _ ?_
  clear hK1
  refine wp_seq_k fun K2 hK2 => ?_
  refine wp_region_lit ?_
  refine F.vl (R_loadBlk rfl (F.at rfl) Try.underlying24 rfl (by kernel_rfl) q1) ?_; clear F fa; intro fa F
  refine sq_call F rfl (by decide) rfl (R_callV rfl rfl Try.call98 (mpS (F.at rfl) mp0)) (vcheck_any x _ (HX.out.ext E) HV.out.sd HV.out.sl) fun e w3 hR => ?_
  obtain ⟨rfl, e9⟩ := hR
  refine ⟨_, rfl, ?_⟩; clear F fa; intro fa F
  replace q1 := (e9).keep0 q1
  replace q2 := (e9).keep0 q2
  replace E := ext_same E (e9)
  clear e9
  rw [HV.out.chk] at F
  refine sq_call F rfl (by decide) rfl (R_callV rfl rfl Try.call97 (mpS (F.at rfl) mp0)) (must_ok _) fun e w4 hR => ?_
  obtain ⟨rfl, e9⟩ := hR
  refine ⟨_, rfl, ?_⟩; clear F fa; intro fa F
  replace q1 := (e9).keep0 q1
  replace q2 := (e9).keep0 q2
  replace E := ext_same E (e9)
  clear e9
  refine wpList_nil ?_
  refine hK2 _ _ ?_
  clear hK2
  refine wp_seq_k fun K3 hK3 => ?_
  refine wp_region_lit ?_
  refine F.vl (R_loadBlk rfl (F.at rfl) Try.underlying24 rfl (by kernel_rfl) q1) ?_; clear F fa; intro fa F
  refine F.vl (R_buildV rfl (prS (F.at rfl) pr0) (cells := #[.int .i64 x.B, .slice x.da x.D.length x.dc, .slice x.la x.L.length x.lc, .int .i64 x.tol]) (by kernel_rfl)) ?_; clear F fa; intro fa F
  refine sq_to rfl rfl (R_storeRow rfl (F.at rfl) (F.at rfl) (by kernel_rfl) (by first | (simp [Value.oneCell']; done) | (simp [Value.oneCell', id]; done)) q2 rfl) ?_; intro w5 hw
  replace q1 := keep_cells hw q1 (by omega)
  replace q2 := put_row hw q2 rfl
  replace E := ext_cells E hw (fun h => by first | exact absurd h (by omega) | simp)
  clear hw
  refine wpList_nil ?_
  refine hK3 _ _ ?_
  clear hK3
  refine wp_ret ?_
  (try simp only [Exit.inBlock, Exit.then, reduceIte])
  refine rt_v F (rs_c F rfl rfl Try.underlying80 rfl (by kernel_rfl) q2) ?_
  exact ⟨rfl, E⟩
set_option maxRecDepth 100000 in
theorem lamp_ok (x : Vm) (hv : VOk x) (n : Int) (h0 : 0 ≤ n) (h1 : n < x.L.length) (w : World) : Calls Try.prog 82 #[.agg #[.int .i64 x.B, .slice x.da x.D.length x.dc, .slice x.la x.L.length x.lc, .int .i64 x.tol], .int .i64 n] w fun e w' => e = .returned (.tuple #[]) ∧ Ext [] w w' := by
  have E : Ext [] w w := Ext.refl _ _
  have ho : outB n 0 (((x.L.length : Nat) : Int) - 1) = false := outB_no.2 (by omega)
  have hl3 := hv.l3
  refine calls_has 12 Try.func82 rfl Try.ntmps82 (Nat.le_of_ble_eq_true rfl) ?_
  intro fa F
  refine wp_seq_k fun K1 hK1 => ?_
  refine wp_region_lit ?_
  refine sq_new F rfl (by decide) rfl (R_box rfl (F.at rfl)) ?_; clear F fa; intro fa w1 F hw
  obtain ⟨n2, hn⟩ : ∃ n, n = w.heap.size := ⟨_, rfl⟩
  rw [← hn] at F
  have s2 : w.heap.size ≤ n2 := Nat.le_of_eq hn.symm
  have l2_E : w.heap.size ≤ n2 := by rw [hn]; exact E.size
  replace E := ext_alloc E hw
  have q2 := new_row hw hn
  clear hw hn
  refine wpList_nil ?_
  refine hK1 _ _ ?_
  clear hK1
  refine wp_seq_k fun K2 hK2 => ?_
  refine wp_region_lit ?_
  refine F.mv ?_; clear F fa; intro fa F
  refine F.vl (R_field rfl (F.at rfl) Try.underlying80 rfl (n := 0) (sz := 4) rfl (by kernel_rfl) (by decide)) ?_; clear F fa; intro fa F
  refine F.vl (R_field rfl (F.at rfl) Try.underlying24 rfl (n := 2) (sz := 1) rfl (by kernel_rfl) (by decide)) ?_; clear F fa; intro fa F
  refine F.vl (R_load rfl (F.at rfl) Try.underlying22 rfl ((cells_of_block q2 2).trans (getS (getS (get0))))) ?_; clear F fa; intro fa F
  refine F.vl (R_len rfl rfl (F.at rfl) Try.underlying22) ?_; clear F fa; intro fa F
  refine F.vl (R_sub rfl (F.at rfl) (ev_c fa _) (by omega) (by omega)) ?_; clear F fa; intro fa F
  refine sq_call F rfl (by decide) rfl (R_callV rfl rfl Try.call99 (mpS (F.at rfl) (mpS (ev_c fa _) (mpS (F.at rfl) mp0)))) (outside_any n 0 (((x.L.length : Nat) : Int) - 1) _) fun e w2 hR => ?_
  obtain ⟨rfl, e9⟩ := hR
  refine ⟨_, rfl, ?_⟩; clear F fa; intro fa F
  replace q2 := (e9).keep0 q2
  replace E := ext_same E (e9)
  clear e9
  refine wpList_nil ?_
  refine hK2 _ _ ?_
  clear hK2
  refine cd_Fb F rfl (ho) ?_
  refine wp_skip ?_
  (try simp only [Exit.inBlock, Exit.then, reduceIte])
  refine rt_vn F (rs_0 rfl) ?_
  exact ⟨rfl, E⟩
/-- Numbers under weights. -/
def dotE (a s : Nat → Int) (n : Nat) : Int := sumTo (fun i => a i * s i) n
theorem mul_bd {a b : Int} (a0 : 0 ≤ a) (a1 : a ≤ 10) (b0 : 0 ≤ b) (b1 : b ≤ 100000) : 0 ≤ a * b ∧ a * b ≤ 1000000 := by
  refine ⟨Int.mul_nonneg a0 b0, ?_⟩
  have h1 : a * b ≤ 10 * b := Int.mul_le_mul_of_nonneg_right a1 b0
  omega
/-- The weights of a lamp, the tones of a dye. -/
def Vm.lamp (x : Vm) (k : Nat) : List Int := (x.L.getD k (.bool true, [])).2
def Vm.dye (x : Vm) (k : Nat) : List Int := (x.D.getD k (.bool true, [])).2
set_option maxRecDepth 100000 in
theorem weigh_ok (x : Vm) (hv : VOk x) (k : Nat) (hk : k < x.L.length) (s : List Int) (hs : (s.length : Int) = x.B) (hb : ∀ n ∈ s, 0 ≤ n ∧ n ≤ 100000) (a : Option Addr) (c : Nat) (w : World) (h : x.At w) (hr : IsRows w (.slice a s.length c) 1 (s.map intRow)) :
    Calls Try.prog 86 #[.agg #[.int .i64 x.B, .slice x.da x.D.length x.dc, .slice x.la x.L.length x.lc, .int .i64 x.tol], .int .i64 ((k : Nat) : Int), .slice a s.length c] w fun e w' => e = .returned (.int .i64 (dotE (val (x.lamp k)) (val s) s.length)) ∧ Ext [] w w' := by
  have E : Ext [] w w := Ext.refl _ _
  have HL := Lib.hid h.l.1
  have HS := Lib.hid (slAt_of_rows hr 0)
  obtain ⟨la, lca, hla, hlr⟩ := h.l.2 _ (getD_mem (.bool true, []) hk)
  obtain ⟨hll, hln⟩ := hv.ll _ (getD_mem (.bool true, []) hk)
  have HLR := Lib.hid (slAt_of_rows hlr 0)
  have HLN := Lib.hid hln
  have HB := Lib.hid hb
  have hl3 := hv.l3
  have hb3 := hv.b3
  clear h hr hv hlr hln hb
  refine calls_has 32 Try.func86 rfl Try.ntmps86 (Nat.le_of_ble_eq_true rfl) ?_
  intro fa F
  refine wp_seq_k fun K1 hK1 => ?_
  refine wp_region_lit ?_
  refine sq_new F rfl (by decide) rfl (R_box rfl (F.at rfl)) ?_; clear F fa; intro fa w1 F hw
  obtain ⟨n3, hn⟩ : ∃ n, n = w.heap.size := ⟨_, rfl⟩
  rw [← hn] at F
  have s3 : w.heap.size ≤ n3 := Nat.le_of_eq hn.symm
  have l3_E : w.heap.size ≤ n3 := by rw [hn]; exact E.size
  replace E := ext_alloc E hw
  have q3 := new_row hw hn
  clear hw hn
  refine F.vl (R_assign rfl (ev_c fa _)) ?_; clear F fa; intro fa F
  refine wpList_nil ?_
  refine hK1 _ _ ?_
  clear hK1
  refine wp_seq_k fun K2 hK2 => ?_
  refine wp_region_lit ?_
  refine F.vl (R_assign rfl (ev_c fa _)) ?_; clear F fa; intro fa F
  rw [show (0 : Int) = sumTo (fun i => val (x.lamp k) i * val s i) 0 from rfl] at F
  refine wpList_nil ?_
  refine hK2 _ _ ?_
  clear hK2
  refine wp_seq_k fun K3 hK3 => ?_
  refine wp_seq_k fun K4 hK4 => ?_
  refine wp_region_lit ?_
  refine F.vl (R_field rfl (F.at rfl) Try.underlying80 rfl (n := 0) (sz := 4) rfl (by kernel_rfl) (by decide)) ?_; clear F fa; intro fa F
  refine F.vl (R_field rfl (F.at rfl) Try.underlying24 rfl (n := 2) (sz := 1) rfl (by kernel_rfl) (by decide)) ?_; clear F fa; intro fa F
  refine F.vl (R_load rfl (F.at rfl) Try.underlying22 rfl ((cells_of_block q3 2).trans (getS (getS (get0))))) ?_; clear F fa; intro fa F
  refine F.mv ?_; clear F fa; intro fa F
  obtain ⟨xb5, xo5, xa5, xr5⟩ := HL.out k (by omega)
  refine F.vl (R_ixSlice (sz := 1) rfl ((F.at rfl).trans (xa5 _ _)) (F.at rfl) Try.underlying22 (by kernel_rfl) (by omega) (by omega)) ?_; clear F fa; intro fa F
  refine F.vl (R_load rfl (F.at rfl) Try.underlying25 rfl (xr5 _ E 0 _ rfl)) ?_; clear F fa; intro fa F
  rw [hla] at F
  refine F.vl (R_len rfl rfl (F.at rfl) Try.underlying25) ?_; clear F fa; intro fa F
  refine F.vl (R_move rfl (ev_c fa _)) ?_; clear F fa; intro fa F
  refine wpList_nil ?_
  refine hK4 _ _ ?_
  clear hK4
  refine wp_block ?_
  have F0 := F.sub (.c 2 rfl (.c 15 rfl (.c 16 rfl .n)))
  refine lp_for F0 (s.length) (fun i Lv W => Lv = [(7, .int .i64 (sumTo (fun i => val (x.lamp k) i * val s i) i)), (17, .int .i64 ((i : Nat) : Int))] ∧ Ext [] w1 W ∧ 0 ≤ sumTo (fun i => val (x.lamp k) i * val s i) i ∧ sumTo (fun i => val (x.lamp k) i * val s i) i ≤ 1000000 * (i : Int)) ⟨_, ⟨rfl, Ext.refl _ _, (by simp [sumTo]), (by simp [sumTo])⟩, F.sub (.c 7 rfl (.c 17 rfl (.c 2 rfl (.c 15 rfl (.c 16 rfl .n)))))⟩ ?_
  clear F F0
  rintro i _ fa w2 hi1 ⟨rfl, EL1, hs0, hs1⟩ F
  have q3 := EL1.keep0 q3
  have E := E.nil EL1
  refine wp_seq_k fun K6 hK6 => ?_
  refine wp_region_lit ?_
  refine F.vl (R_lss rfl (F.at rfl) (F.at rfl)) ?_; clear F fa; intro fa F
  refine wpList_nil ?_
  refine hK6 _ _ ?_
  clear hK6
  refine wp_seq_k fun K7 hK7 => ?_
  refine cd_if F rfl (fun hc18 => ?_) (fun hc18 => ?_)
  · skip
    refine wp_skip ?_
    refine hK7 _ _ ?_
    clear hK7
    refine wp_seq_k fun K8 hK8 => ?_
    refine wp_block ?_
    refine wp_seq_k fun K9 hK9 => ?_
    refine wp_region_lit ?_
    refine F.mv ?_; clear F fa; intro fa F
    obtain ⟨xb10, xo10, xa10, xr10⟩ := HLR.out i (by omega)
    refine F.vl (R_ixSlice (sz := 1) rfl ((F.at rfl).trans (xa10 _ _)) (F.at rfl) Try.underlying25 (by kernel_rfl) (by omega) (by omega)) ?_; clear F fa; intro fa F
    refine F.vl (R_load rfl (F.at rfl) Try.underlying3 rfl (xr10 _ E 0 _ rfl)) ?_; clear F fa; intro fa F
    refine F.as ?_; clear F fa; intro fa F
    refine F.as ?_; clear F fa; intro fa F
    refine wpList_nil ?_
    refine hK9 _ _ ?_
    clear hK9
    obtain ⟨hf0, hf1⟩ := HLN.out _ (getD_mem (l := (x.L.getD k (.bool true, [])).2) (i := i) 0 (by omega))
    obtain ⟨hg0, hg1⟩ := HB.out _ (getD_mem (l := s) (i := i) 0 (by omega))
    obtain ⟨hm0, hm1⟩ := mul_bd hf0 (by omega) hg0 hg1
    refine wp_region_lit ?_
    refine F.mv ?_; clear F fa; intro fa F
    refine F.mv ?_; clear F fa; intro fa F
    refine F.mv ?_; clear F fa; intro fa F
    refine F.mv ?_; clear F fa; intro fa F
    obtain ⟨xb11, xo11, xa11, xr11⟩ := HS.out i (by omega)
    refine F.vl (R_ixSlice (sz := 1) rfl ((F.at rfl).trans (xa11 _ _)) (F.at rfl) Try.underlying25 (by kernel_rfl) (by omega) (by omega)) ?_; clear F fa; intro fa F
    refine F.vl (R_load rfl (F.at rfl) Try.underlying3 rfl (xr11 _ E 0 _ rfl)) ?_; clear F fa; intro fa F
    refine F.vl (R_mul rfl (F.at rfl) (F.at rfl) (by omega) (by omega)) ?_; clear F fa; intro fa F
    refine F.vl (R_add rfl (F.at rfl) (F.at rfl) (by omega) (by omega)) ?_; clear F fa; intro fa F
    rw [show sumTo (fun i => val (x.lamp k) i * val s i) i + (x.L.getD k (.bool true, [])).2.getD i 0 * s.getD i 0 = sumTo (fun i => val (x.lamp k) i * val s i) (i + 1) from rfl] at F
    refine F.as ?_; clear F fa; intro fa F
    refine wpList_nil ?_
    refine hK8 _ _ ?_
    clear hK8
    refine wp_region_lit ?_
    refine F.vl (R_add rfl (F.at rfl) (ev_c fa _) (by omega) (by omega)) ?_; clear F fa; intro fa F
    refine F.mv ?_; clear F fa; intro fa F
    refine wpList_nil ?_
    show _ ∧ _
    exact ⟨by omega, _, ⟨rfl, EL1, (by rw [sumTo]; simp only [val, Vm.lamp] at *; omega), (by rw [sumTo]; simp only [val, Vm.lamp] at *; omega)⟩, F.sub (.c 7 rfl (.c 17 rfl (.c 2 rfl (.c 15 rfl (.c 16 rfl .n)))))⟩
  · skip
    refine wp_exit ?_
    refine hK3 _ _ ?_
    clear hK3
    refine wp_seq_k fun K12 hK12 => ?_
    refine wp_region_lit ?_
    refine F.mv ?_; clear F fa; intro fa F
    refine F.as ?_; clear F fa; intro fa F
    refine wpList_nil ?_
    refine hK12 _ _ ?_
    clear hK12
    refine wp_ret ?_
    (try simp only [Exit.inBlock, Exit.then, reduceIte])
    refine rt_v F (rs_1 F rfl rfl) ?_
    have hi : i = s.length := (by omega)
    exact ⟨ret_int (by rw [hi, dotE]), E⟩
end Go.Proofs.Ytdjeecgddbjbeaa
