/- The program's alike, and its looks at arguments that are valid. Conditions: the vat is valid. -/
import Derived.Test.YtdjeecgddbjbeaaDvd
namespace Go.Proofs.Ytdjeecgddbjbeaa
open Go.RowKit
set_option linter.unusedVariables false
set_option linter.unusedSimpArgs false
set_option maxRecDepth 100000 in
set_option maxHeartbeats 1000000 in
theorem alike_ok (x : Vm) (hv : VOk x) (k : Nat) (hk : k < x.L.length) (f g : Nat → Int) (hf : TubS f) (hg : TubS g) (w : World) (h : x.At w) :
    Calls Try.prog 74 #[.agg #[.int .i64 x.B, .slice x.da x.D.length x.dc, .slice x.la x.L.length x.lc, .int .i64 x.tol], .int .i64 ((k : Nat) : Int), .agg (tubC f), .agg (tubC g)] w fun e w' => e = .returned (.bool (alkE x k f g)) ∧ Ext [] w w' := by
  have E : Ext [] w w := Ext.refl _ _
  have HX := Lib.hid h
  have HV := Lib.hid hv
  have HF := Lib.hid hf
  have HG := Lib.hid hg
  have hb1 := hv.b1
  have hb3 := hv.b3
  obtain ⟨bn, hbn⟩ : ∃ bn : Nat, x.B = bn := ⟨x.B.toNat, by omega⟩
  have hbn2 : x.B.toNat = bn := by omega
  have h1 := dot_bd hv hk (fun j => tn_bd hv hf j) (n := bn) (by omega)
  have h2 := dot_bd hv hk (fun j => tn_bd hv hg j) (n := bn) (by omega)
  have h3 := prt_bd hf
  have h4 := prt_bd hg
  have h5 := mul_bd2 h4.1 h4.2 h1.1 h1.2 (C := 51840) (by omega)
  have h6 := mul_bd2 h3.1 h3.2 h2.1 h2.2 (C := 51840) (by omega)
  have h7 := mul_bd2 hv.t0 hv.t12 h3.1 h3.2 (C := 288) (by omega)
  have h8 := mul_bd2 h7.1 h7.2 h4.1 h4.2 (C := 6912) (by omega)
  have hal : alkE x k f g = decide (max (prt g * dotE (val (x.lamp k)) (tnE x f) bn - prt f * dotE (val (x.lamp k)) (tnE x g) bn) (-(prt g * dotE (val (x.lamp k)) (tnE x f) bn - prt f * dotE (val (x.lamp k)) (tnE x g) bn)) ≤ x.tol * prt f * prt g) := by rw [alkE, alkV, hbn2]
  rw [hal]
  clear h hv hf hg hal
  refine calls_has 41 Try.func74 rfl Try.ntmps74 (Nat.le_of_ble_eq_true rfl) ?_
  intro fa F
  refine wp_seq_k fun K1 hK1 => ?_
  refine wp_region_lit ?_
  refine sq_new F rfl (by decide) rfl (R_box rfl (F.at rfl)) ?_; clear F fa; intro fa w1 F hw
  obtain ⟨n4, hn⟩ : ∃ n, n = w.heap.size := ⟨_, rfl⟩
  rw [← hn] at F
  have s4 : w.heap.size ≤ n4 := Nat.le_of_eq hn.symm
  have l4_E : w.heap.size ≤ n4 := by rw [hn]; exact E.size
  replace E := ext_alloc E hw
  have q4 := new_row hw hn
  clear hw hn
  refine sq_new F rfl (by decide) rfl (R_box rfl (F.at rfl)) ?_; clear F fa; intro fa w2 F hw
  obtain ⟨n6, hn⟩ : ∃ n, n = w1.heap.size := ⟨_, rfl⟩
  rw [← hn] at F
  have s6 : w1.heap.size ≤ n6 := Nat.le_of_eq hn.symm
  have l6_E : w.heap.size ≤ n6 := by rw [hn]; exact E.size
  have m6_4 : n4 < n6 := by rw [hn]; exact blk_lt q4
  replace q4 := keep_alloc hw q4
  replace E := ext_alloc E hw
  have q6 := new_row hw hn
  clear hw hn
  refine sq_new F rfl (by decide) rfl (R_box rfl (F.at rfl)) ?_; clear F fa; intro fa w3 F hw
  obtain ⟨n7, hn⟩ : ∃ n, n = w2.heap.size := ⟨_, rfl⟩
  rw [← hn] at F
  have s7 : w2.heap.size ≤ n7 := Nat.le_of_eq hn.symm
  have l7_E : w.heap.size ≤ n7 := by rw [hn]; exact E.size
  have m7_4 : n4 < n7 := by rw [hn]; exact blk_lt q4
  have m7_6 : n6 < n7 := by rw [hn]; exact blk_lt q6
  replace q4 := keep_alloc hw q4
  replace q6 := keep_alloc hw q6
  replace E := ext_alloc E hw
  have q7 := new_row hw hn
  clear hw hn
  refine F.vl (R_assign rfl (ev_c fa _)) ?_; clear F fa; intro fa F
  refine wpList_nil ?_
  refine hK1 _ _ ?_
  clear hK1
  refine wp_seq_k fun K2 hK2 => ?_
  refine region_x (Ext [] w3) none follows fun w4 hh eh => ?_
  have q4_ := q4
  replace q4 := keep_same hh q4
  have q6_ := q6
  replace q6 := keep_same hh q6
  have q7_ := q7
  replace q7 := keep_same hh q7
  have E_ := E
  have zEw4 := E.size
  replace E := ext_same E eh
  have eT := eh
  clear hh eh
  refine F.xr (i := 0) rfl (fun w' hS => R_loadBlk rfl (F.at rfl) Try.underlying83 rfl (by kernel_rfl) (hS.keep q6_ (by simp))) (fun _ => eT) ?_; clear F fa; intro fa F
  refine F.xr (i := 2) rfl (fun w' hS => R_loadBlk rfl (F.at rfl) Try.underlying83 rfl (by kernel_rfl) (hS.keep q7_ (by simp))) (fun _ => eT) ?_; clear F fa; intro fa F
  refine ax_only (i := 1) (by kernel_rfl) (op_call F rfl rfl (by decide) rfl (R_callV rfl rfl Try.call61 (mpS (F.at rfl) mp0)) (parts_any f HF.out.ok _) fun e w5 hR => ?_)
  obtain ⟨rfl, e9⟩ := hR
  refine ⟨_, rfl, ?_⟩; clear F fa; intro fa F
  replace q4 := (e9).keep0 q4
  replace q6 := (e9).keep0 q6
  replace q7 := (e9).keep0 q7
  replace E := ext_same E (e9)
  replace eT := ext_same eT (e9)
  clear e9
  refine ⟨fun _ => eT, ?_⟩
  refine ax_only (i := 3) (by kernel_rfl) (op_call F rfl rfl (by decide) rfl (R_callV rfl rfl Try.call61 (mpS (F.at rfl) mp0)) (parts_any g HG.out.ok _) fun e w6 hR => ?_)
  obtain ⟨rfl, e9⟩ := hR
  refine ⟨_, rfl, ?_⟩; clear F fa; intro fa F
  replace q4 := (e9).keep0 q4
  replace q6 := (e9).keep0 q6
  replace q7 := (e9).keep0 q7
  replace E := ext_same E (e9)
  replace eT := ext_same eT (e9)
  clear e9
  refine ⟨fun _ => eT, ?_⟩
  refine F.x (i := 4) rfl (fun w' => R_assign rfl (F.at rfl)) (fun _ => eT) ?_; clear F fa; intro fa F
  refine F.x (i := 5) rfl (fun w' => R_assign rfl (F.at rfl)) (fun _ => eT) ?_; clear F fa; intro fa F
  refine ax_done (by kernel_rfl) ?_ _
  clear eT q4_ q6_ q7_ E_
  refine hK2 _ _ ?_
  clear hK2
  refine wp_seq_k fun K3 hK3 => ?_
  refine region_x (Ext [] w6) none follows fun w7 hh eh => ?_
  have q4_ := q4
  replace q4 := keep_same hh q4
  have q6_ := q6
  replace q6 := keep_same hh q6
  have q7_ := q7
  replace q7 := keep_same hh q7
  have E_ := E
  have zEw7 := E.size
  replace E := ext_same E eh
  have eT := eh
  clear hh eh
  refine F.x (i := 0) rfl (fun w' => R_move rfl (F.at rfl)) (fun _ => eT) ?_; clear F fa; intro fa F
  refine F.xr (i := 1) rfl (fun w' hS => R_loadBlk rfl (F.at rfl) Try.underlying80 rfl (by kernel_rfl) (hS.keep q4_ (by simp))) (fun _ => eT) ?_; clear F fa; intro fa F
  refine F.x (i := 2) rfl (fun w' => R_move rfl (F.at rfl)) (fun _ => eT) ?_; clear F fa; intro fa F
  refine F.xr (i := 3) rfl (fun w' hS => R_loadBlk rfl (F.at rfl) Try.underlying80 rfl (by kernel_rfl) (hS.keep q4_ (by simp))) (fun _ => eT) ?_; clear F fa; intro fa F
  refine F.xr (i := 4) rfl (fun w' hS => R_loadBlk rfl (F.at rfl) Try.underlying83 rfl (by kernel_rfl) (hS.keep q6_ (by simp))) (fun _ => eT) ?_; clear F fa; intro fa F
  refine F.x (i := 8) rfl (fun w' => R_move rfl (F.at rfl)) (fun _ => eT) ?_; clear F fa; intro fa F
  refine F.xr (i := 9) rfl (fun w' hS => R_loadBlk rfl (F.at rfl) Try.underlying80 rfl (by kernel_rfl) (hS.keep q4_ (by simp))) (fun _ => eT) ?_; clear F fa; intro fa F
  refine F.x (i := 10) rfl (fun w' => R_move rfl (F.at rfl)) (fun _ => eT) ?_; clear F fa; intro fa F
  refine F.xr (i := 11) rfl (fun w' hS => R_loadBlk rfl (F.at rfl) Try.underlying80 rfl (by kernel_rfl) (hS.keep q4_ (by simp))) (fun _ => eT) ?_; clear F fa; intro fa F
  refine F.xr (i := 12) rfl (fun w' hS => R_loadBlk rfl (F.at rfl) Try.underlying83 rfl (by kernel_rfl) (hS.keep q7_ (by simp))) (fun _ => eT) ?_; clear F fa; intro fa F
  refine F.x (i := 18) rfl (fun w' => R_field rfl (F.at rfl) Try.underlying80 rfl (n := 0) (sz := 4) rfl (by kernel_rfl) (by decide)) (fun _ => eT) ?_; clear F fa; intro fa F
  refine F.x (i := 19) rfl (fun w' => R_field rfl (F.at rfl) Try.underlying24 rfl (n := 3) (sz := 1) rfl (by kernel_rfl) (by decide)) (fun _ => eT) ?_; clear F fa; intro fa F
  refine F.xr (i := 20) rfl (fun w' hS => R_load rfl (F.at rfl) Try.underlying3 rfl ((cells_of_block (hS.keep q4_ (by simp)) 3).trans (getS (getS (getS (get0)))))) (fun _ => eT) ?_; clear F fa; intro fa F
  refine F.x (i := 21) rfl (fun w' => R_move rfl (F.at rfl)) (fun _ => eT) ?_; clear F fa; intro fa F
  refine F.x (i := 22) rfl (fun w' => R_mul rfl (F.at rfl) (F.at rfl) (by omega) (by omega)) (fun _ => eT) ?_; clear F fa; intro fa F
  refine F.x (i := 23) rfl (fun w' => R_move rfl (F.at rfl)) (fun _ => eT) ?_; clear F fa; intro fa F
  refine F.x (i := 24) rfl (fun w' => R_mul rfl (F.at rfl) (F.at rfl) (by omega) (by omega)) (fun _ => eT) ?_; clear F fa; intro fa F
  refine ax_only (i := 5) (by kernel_rfl) (op_call F rfl rfl (by decide) rfl (R_callV rfl rfl Try.call87 (mpS (F.at rfl) (mpS (F.at rfl) mp0))) (sums_ok x HV.out bn hbn f HF.out _ (HX.out.ext E)) fun e w8 hR => ?_)
  obtain ⟨a20, rfl, oo, e9⟩ := hR
  refine ⟨_, rfl, ?_⟩; clear F fa; intro fa F
  replace q4 := (e9).keep0 q4
  replace q6 := (e9).keep0 q6
  replace q7 := (e9).keep0 q7
  replace E := ext_same E (e9)
  replace eT := ext_same eT (e9)
  clear e9
  refine ⟨fun _ => eT, ?_⟩
  have hrw := rows_of_owns (xs := sumL x f bn) (row := intRow) (by rw [← ivs_flat, show (sumL x f bn).length = bn by simp [sumL]]; exact oo) (fun _ => rfl)
  have hll : (sumL x f bn).length = bn := by simp [sumL]
  have hwe := weigh_ok x HV.out k hk (sumL x f bn) (by rw [hll]; omega) (fun n hn => by have := sumL_bd HV.out HF.out bn n hn; omega) a20 bn w8 (HX.out.ext E) (by rw [hll]; exact hrw)
  rw [dot_sumL, hll] at hwe
  refine ax_only (i := 6) (by kernel_rfl) (op_call F rfl rfl (by decide) rfl (R_callV rfl rfl Try.call86 (mpS (F.at rfl) (mpS (F.at rfl) (mpS (F.at rfl) mp0)))) (hwe) fun e w9 hR => ?_)
  obtain ⟨rfl, e9⟩ := hR
  refine ⟨_, rfl, ?_⟩; clear F fa; intro fa F
  replace q4 := (e9).keep0 q4
  replace q6 := (e9).keep0 q6
  replace q7 := (e9).keep0 q7
  replace E := ext_same E (e9)
  replace eT := ext_same eT (e9)
  clear e9
  refine ⟨fun _ => eT, ?_⟩
  clear oo hrw hwe
  refine F.x (i := 7) rfl (fun w' => R_mul rfl (F.at rfl) (F.at rfl) (by omega) (by omega)) (fun _ => eT) ?_; clear F fa; intro fa F
  refine ax_only (i := 13) (by kernel_rfl) (op_call F rfl rfl (by decide) rfl (R_callV rfl rfl Try.call87 (mpS (F.at rfl) (mpS (F.at rfl) mp0))) (sums_ok x HV.out bn hbn g HG.out _ (HX.out.ext E)) fun e w10 hR => ?_)
  obtain ⟨a28, rfl, oo, e9⟩ := hR
  refine ⟨_, rfl, ?_⟩; clear F fa; intro fa F
  replace q4 := (e9).keep0 q4
  replace q6 := (e9).keep0 q6
  replace q7 := (e9).keep0 q7
  replace E := ext_same E (e9)
  replace eT := ext_same eT (e9)
  clear e9
  refine ⟨fun _ => eT, ?_⟩
  have hrw := rows_of_owns (xs := sumL x g bn) (row := intRow) (by rw [← ivs_flat, show (sumL x g bn).length = bn by simp [sumL]]; exact oo) (fun _ => rfl)
  have hll : (sumL x g bn).length = bn := by simp [sumL]
  have hwe := weigh_ok x HV.out k hk (sumL x g bn) (by rw [hll]; omega) (fun n hn => by have := sumL_bd HV.out HG.out bn n hn; omega) a28 bn w10 (HX.out.ext E) (by rw [hll]; exact hrw)
  rw [dot_sumL, hll] at hwe
  refine ax_only (i := 14) (by kernel_rfl) (op_call F rfl rfl (by decide) rfl (R_callV rfl rfl Try.call86 (mpS (F.at rfl) (mpS (F.at rfl) (mpS (F.at rfl) mp0)))) (hwe) fun e w11 hR => ?_)
  obtain ⟨rfl, e9⟩ := hR
  refine ⟨_, rfl, ?_⟩; clear F fa; intro fa F
  replace q4 := (e9).keep0 q4
  replace q6 := (e9).keep0 q6
  replace q7 := (e9).keep0 q7
  replace E := ext_same E (e9)
  replace eT := ext_same eT (e9)
  clear e9
  refine ⟨fun _ => eT, ?_⟩
  clear oo hrw hwe
  refine F.x (i := 15) rfl (fun w' => R_mul rfl (F.at rfl) (F.at rfl) (by omega) (by omega)) (fun _ => eT) ?_; clear F fa; intro fa F
  refine F.x (i := 16) rfl (fun w' => R_sub rfl (F.at rfl) (F.at rfl) (by omega) (by omega)) (fun _ => eT) ?_; clear F fa; intro fa F
  refine ax_only (i := 17) (by kernel_rfl) (op_call F rfl rfl (by decide) rfl (R_callV rfl rfl Try.call104 (mpS (F.at rfl) mp0)) (apart_any (prt g * dotE (val (x.lamp k)) (tnE x f) bn - prt f * dotE (val (x.lamp k)) (tnE x g) bn) (by omega) (by omega) _) fun e w12 hR => ?_)
  obtain ⟨rfl, e9⟩ := hR
  refine ⟨_, rfl, ?_⟩; clear F fa; intro fa F
  replace q4 := (e9).keep0 q4
  replace q6 := (e9).keep0 q6
  replace q7 := (e9).keep0 q7
  replace E := ext_same E (e9)
  replace eT := ext_same eT (e9)
  clear e9
  refine ⟨fun _ => eT, ?_⟩
  refine F.x (i := 25) rfl (fun w' => R_leq rfl (F.at rfl) (F.at rfl)) (fun _ => eT) ?_; clear F fa; intro fa F
  refine F.x (i := 26) rfl (fun w' => R_assign rfl (F.at rfl)) (fun _ => eT) ?_; clear F fa; intro fa F
  refine ax_done (by kernel_rfl) ?_ _
  clear eT q4_ q6_ q7_ E_
  refine hK3 _ _ ?_
  clear hK3
  refine wp_ret ?_
  (try simp only [Exit.inBlock, Exit.then, reduceIte])
  refine rt_v F (rs_1 F rfl rfl) ?_
  exact ⟨rfl, E⟩
theorem numE_ok {l : List Int} {m hi : Int} (h1 : (l.length : Int) = m) (h2 : ∀ n ∈ l, 0 ≤ n ∧ n ≤ hi) : numE l m hi = 0 := by
  rw [numE, if_neg (by omega), if_pos]
  rw [List.all_eq_true]
  intro n hn
  have := outB_no.2 (h2 n hn)
  rw [this]; rfl
set_option maxRecDepth 100000 in
theorem sample_ok (x : Vm) (hv : VOk x) (s : List Int) (hs : SmpOk x s) (a : Option Addr) (c : Nat) (w : World) (hr : IsRows w (.slice a s.length c) 1 (s.map intRow)) :
    Calls Try.prog 56 #[.agg #[.int .i64 x.B, .slice x.da x.D.length x.dc, .slice x.la x.L.length x.lc, .int .i64 x.tol], .slice a s.length c] w fun e w' => e = .returned (.tuple #[]) ∧ Ext [] w w' := by
  have E : Ext [] w w := Ext.refl _ _
  have hz := numE_ok hs.1 hs.2
  have hlen := hs.1
  have hb3 := hv.b3
  have HR := Lib.hid hr
  clear hr hs
  refine calls_has 30 Try.func56 rfl Try.ntmps56 (Nat.le_of_ble_eq_true rfl) ?_
  intro fa F
  refine wp_seq_k fun K1 hK1 => ?_
  refine wp_region_lit ?_
  refine sq_new F rfl (by decide) rfl (R_box rfl (F.at rfl)) ?_; clear F fa; intro fa w1 F hw
  obtain ⟨n2, hn⟩ : ∃ n, n = w.heap.size := ⟨_, rfl⟩
  rw [← hn] at F
  have s2 : w.heap.size ≤ n2 := Nat.le_of_eq hn.symm
  have l2_E : w.heap.size ≤ n2 := by rw [hn]; exact E.size
  replace E := ext_alloc E hw
  have q2 := new_row hw hn
  clear hw hn
  refine wpList_nil ?_
  refine hK1 _ _ ?_
  clear hK1
  refine wp_seq_k fun K2 hK2 => ?_
  refine wp_seq_k fun K3 hK3 => ?_
  refine wp_region_lit ?_
  refine F.mv ?_; clear F fa; intro fa F
  refine F.vl (R_len rfl rfl (F.at rfl) Try.underlying25) ?_; clear F fa; intro fa F
  refine F.vl (R_field rfl (F.at rfl) Try.underlying80 rfl (n := 0) (sz := 4) rfl (by kernel_rfl) (by decide)) ?_; clear F fa; intro fa F
  refine F.vl (R_field rfl (F.at rfl) Try.underlying24 rfl (n := 0) (sz := 1) rfl (by kernel_rfl) (by decide)) ?_; clear F fa; intro fa F
  refine F.vl (R_load rfl (F.at rfl) Try.underlying3 rfl ((cells_of_block q2 0).trans (get0))) ?_; clear F fa; intro fa F
  refine F.vl (R_lss rfl (F.at rfl) (F.at rfl)) ?_; clear F fa; intro fa F
  refine wpList_nil ?_
  refine hK3 _ _ ?_
  clear hK3
  refine cd_Fb F rfl (decide_eq_false (by omega)) ?_
  refine wp_skip ?_
  refine hK2 _ _ ?_
  clear hK2
  refine wp_seq_k fun K4 hK4 => ?_
  refine wp_seq_k fun K5 hK5 => ?_
  refine wp_region_lit ?_
  refine F.mv ?_; clear F fa; intro fa F
  refine F.vl (R_len rfl rfl (F.at rfl) Try.underlying25) ?_; clear F fa; intro fa F
  refine F.vl (R_field rfl (F.at rfl) Try.underlying80 rfl (n := 0) (sz := 4) rfl (by kernel_rfl) (by decide)) ?_; clear F fa; intro fa F
  refine F.vl (R_field rfl (F.at rfl) Try.underlying24 rfl (n := 0) (sz := 1) rfl (by kernel_rfl) (by decide)) ?_; clear F fa; intro fa F
  refine F.vl (R_load rfl (F.at rfl) Try.underlying3 rfl ((cells_of_block q2 0).trans (get0))) ?_; clear F fa; intro fa F
  refine F.vl (R_gtr rfl (F.at rfl) (F.at rfl)) ?_; clear F fa; intro fa F
  refine wpList_nil ?_
  refine hK5 _ _ ?_
  clear hK5
  refine cd_Fb F rfl (decide_eq_false (by omega)) ?_
  refine wp_skip ?_
  refine hK4 _ _ ?_
  clear hK4
  refine wp_seq_k fun K6 hK6 => ?_
  refine wp_region_lit ?_
  refine F.mv ?_; clear F fa; intro fa F
  refine F.vl (R_field rfl (F.at rfl) Try.underlying80 rfl (n := 0) (sz := 4) rfl (by kernel_rfl) (by decide)) ?_; clear F fa; intro fa F
  refine F.vl (R_field rfl (F.at rfl) Try.underlying24 rfl (n := 0) (sz := 1) rfl (by kernel_rfl) (by decide)) ?_; clear F fa; intro fa F
  refine F.vl (R_load rfl (F.at rfl) Try.underlying3 rfl ((cells_of_block q2 0).trans (get0))) ?_; clear F fa; intro fa F
  refine sq_call F rfl (by decide) rfl (R_callV rfl rfl Try.call101 (mpS (F.at rfl) (mpS (F.at rfl) (mpS (ev_c fa _) mp0)))) (numbers_any s x.B 9 a c _ (HR.out.ext E (by simp)) (by omega) (by omega)) fun e w2 hR => ?_
  obtain ⟨rfl, e9⟩ := hR
  refine ⟨_, rfl, ?_⟩; clear F fa; intro fa F
  replace q2 := (e9).keep0 q2
  replace E := ext_same E (e9)
  clear e9
  rw [hz] at F
  refine F.mv ?_; clear F fa; intro fa F
  refine F.vl (R_extract rfl (F.at rfl) (get0)) ?_; clear F fa; intro fa F
  refine F.vl (R_extract rfl (F.at rfl) (getS (get0))) ?_; clear F fa; intro fa F
  refine F.as ?_; clear F fa; intro fa F
  refine F.as ?_; clear F fa; intro fa F
  refine wpList_nil ?_
  refine hK6 _ _ ?_
  clear hK6
  refine wp_region_lit ?_
  refine F.mv ?_; clear F fa; intro fa F
  refine sq_call F rfl (by decide) rfl (R_callV rfl rfl Try.call97 (mpS (F.at rfl) mp0)) (must_ok _) fun e w3 hR => ?_
  obtain ⟨rfl, e9⟩ := hR
  refine ⟨_, rfl, ?_⟩; clear F fa; intro fa F
  replace q2 := (e9).keep0 q2
  replace E := ext_same E (e9)
  clear e9
  refine wpList_nil ?_
  (try simp only [Exit.inBlock, Exit.then, reduceIte])
  refine rt_vn F (rs_0 rfl) ?_
  exact ⟨rfl, E⟩
/-- Numbers of lamps that are looked at without a fault. -/
def LmpsOk (x : Vm) (ls : List Int) : Prop := 1 ≤ ls.length ∧ LmpOk x ls ∧ ∀ i, 0 < i → i < ls.length → ls.getD (i - 1) 0 < ls.getD i 0
set_option maxRecDepth 100000 in
theorem lamps_ok (x : Vm) (hv : VOk x) (ls : List Int) (hs : LmpsOk x ls) (hll : ls.length ≤ 1000) (a : Option Addr) (c : Nat) (w : World) (h : x.At w) (hr : IsRows w (.slice a ls.length c) 1 (ls.map intRow)) :
    Calls Try.prog 57 #[.agg #[.int .i64 x.B, .slice x.da x.D.length x.dc, .slice x.la x.L.length x.lc, .int .i64 x.tol], .slice a ls.length c] w fun e w' => e = .returned (.tuple #[]) ∧ Ext [] w w' := by
  have E : Ext [] w w := Ext.refl _ _
  obtain ⟨h1, h2, h3⟩ := hs
  have HX := Lib.hid h
  have HV := Lib.hid hv
  have H2 := Lib.hid h2
  have H3 := Lib.hid h3
  have HS := Lib.hid (slAt_of_rows hr 0)
  clear hr h2 h3 h hv
  refine calls_has 33 Try.func57 rfl Try.ntmps57 (Nat.le_of_ble_eq_true rfl) ?_
  intro fa F
  refine wp_seq_k fun K1 hK1 => ?_
  refine wp_region_lit ?_
  refine sq_new F rfl (by decide) rfl (R_box rfl (F.at rfl)) ?_; clear F fa; intro fa w1 F hw
  obtain ⟨n2, hn⟩ : ∃ n, n = w.heap.size := ⟨_, rfl⟩
  rw [← hn] at F
  have s2 : w.heap.size ≤ n2 := Nat.le_of_eq hn.symm
  have l2_E : w.heap.size ≤ n2 := by rw [hn]; exact E.size
  replace E := ext_alloc E hw
  have q2 := new_row hw hn
  clear hw hn
  refine wpList_nil ?_
  refine hK1 _ _ ?_
  clear hK1
  refine wp_seq_k fun K2 hK2 => ?_
  refine wp_seq_k fun K3 hK3 => ?_
  refine wp_region_lit ?_
  refine F.mv ?_; clear F fa; intro fa F
  refine F.vl (R_len rfl rfl (F.at rfl) Try.underlying25) ?_; clear F fa; intro fa F
  refine F.vl (R_eqlD rfl (F.at rfl) (ev_c fa _)) ?_; clear F fa; intro fa F
  refine wpList_nil ?_
  refine hK3 _ _ ?_
  clear hK3
  refine cd_Fb F rfl (decide_eq_false (by omega)) ?_
  refine wp_skip ?_
  refine hK2 _ _ ?_
  clear hK2
  refine wp_seq_k fun K4 hK4 => ?_
  refine wp_region_lit ?_
  refine F.mv ?_; clear F fa; intro fa F
  refine F.vl (R_len rfl rfl (F.at rfl) Try.underlying25) ?_; clear F fa; intro fa F
  refine F.vl (R_move rfl (ev_c fa _)) ?_; clear F fa; intro fa F
  refine wpList_nil ?_
  refine hK4 _ _ ?_
  clear hK4
  refine wp_block ?_
  have F0 := F.sub (.c 1 rfl (.c 2 rfl (.c 10 rfl (.c 11 rfl .n))))
  refine lp_for F0 (ls.length) (fun i Lv W => Lv = [(12, .int .i64 ((i : Nat) : Int))] ∧ Ext [] w W ∧ W.heap[n2]? = some (.cells #[.int .i64 x.B, .slice x.da x.D.length x.dc, .slice x.la x.L.length x.lc, .int .i64 x.tol] 80 (0, 0))) ⟨_, ⟨rfl, E, q2⟩, F.sub (.c 12 rfl (.c 1 rfl (.c 2 rfl (.c 10 rfl (.c 11 rfl .n)))))⟩ ?_
  clear F F0
  clear E q2
  rintro i _ fa w2 hi1 ⟨rfl, E, q2⟩ F
  refine wp_seq_k fun K5 hK5 => ?_
  refine wp_region_lit ?_
  refine F.vl (R_lss rfl (F.at rfl) (F.at rfl)) ?_; clear F fa; intro fa F
  refine wpList_nil ?_
  refine hK5 _ _ ?_
  clear hK5
  refine wp_seq_k fun K6 hK6 => ?_
  refine cd_if F rfl (fun hc13 => ?_) (fun hc13 => ?_)
  · skip
    refine wp_skip ?_
    refine hK6 _ _ ?_
    clear hK6
    refine wp_seq_k fun K7 hK7 => ?_
    refine wp_block ?_
    refine wp_seq_k fun K8 hK8 => ?_
    refine wp_region_lit ?_
    refine F.mv ?_; clear F fa; intro fa F
    obtain ⟨xb9, xo9, xa9, xr9⟩ := HS.out i (by omega)
    refine F.vl (R_ixSlice (sz := 1) rfl ((F.at rfl).trans (xa9 _ _)) (F.at rfl) Try.underlying25 (by kernel_rfl) (by omega) (by omega)) ?_; clear F fa; intro fa F
    refine F.vl (R_load rfl (F.at rfl) Try.underlying3 rfl (xr9 _ E 0 _ rfl)) ?_; clear F fa; intro fa F
    refine F.as ?_; clear F fa; intro fa F
    refine F.as ?_; clear F fa; intro fa F
    refine wpList_nil ?_
    refine hK8 _ _ ?_
    clear hK8
    refine wp_seq_k fun K10 hK10 => ?_
    obtain ⟨hk0, hk1⟩ := H2.out _ (getD_mem (l := ls) (i := i) 0 (by omega))
    refine wp_region_lit ?_
    refine F.vl (R_loadBlk rfl (F.at rfl) Try.underlying80 rfl (by kernel_rfl) q2) ?_; clear F fa; intro fa F
    refine F.mv ?_; clear F fa; intro fa F
    refine sq_call F rfl (by decide) rfl (R_callV rfl rfl Try.call82 (mpS (F.at rfl) (mpS (F.at rfl) mp0))) (lamp_ok x HV.out (ls.getD i 0) hk0 hk1 _) fun e w3 hR => ?_
    obtain ⟨rfl, e9⟩ := hR
    refine ⟨_, rfl, ?_⟩; clear F fa; intro fa F
    replace q2 := (e9).keep0 q2
    replace E := ext_same E (e9)
    clear e9
    refine wpList_nil ?_
    refine hK10 _ _ ?_
    clear hK10
    refine wp_seq_k fun K11 hK11 => ?_
    by_cases ci : 0 < i
    · skip
      have hlt := H3.out i ci (by omega)
      refine wp_region_lit ?_
      refine F.mv ?_; clear F fa; intro fa F
      refine F.vl (R_gtrB (b := true) rfl (F.at rfl) (ev_c fa _) (decide_eq_true ((by omega)))) ?_; clear F fa; intro fa F
      refine F.mv ?_; clear F fa; intro fa F
      refine F.mv ?_ (hw := (wantT F rfl rfl (by decide) rfl)); clear F fa; intro fa F
      refine F.mv ?_ (hw := (wantT F rfl rfl (by decide) rfl)); clear F fa; intro fa F
      refine F.mv ?_ (hw := (wantT F rfl rfl (by decide) rfl)); clear F fa; intro fa F
      refine F.vl (R_sub rfl (F.at rfl) (ev_c fa _) (by omega) (by omega)) ?_ (hw := (wantT F rfl rfl (by decide) rfl)); clear F fa; intro fa F
      rw [show (((i : Nat) : Int) - 1) = ((i - 1 : Nat) : Int) by omega] at F
      obtain ⟨xb12, xo12, xa12, xr12⟩ := HS.out (i - 1) (by omega)
      refine F.vl (R_ixSlice (sz := 1) rfl ((F.at rfl).trans (xa12 _ _)) (F.at rfl) Try.underlying25 (by kernel_rfl) (by omega) (by omega)) ?_ (hw := (wantT F rfl rfl (by decide) rfl)); clear F fa; intro fa F
      refine F.vl (R_load rfl (F.at rfl) Try.underlying3 rfl (xr12 _ E 0 _ rfl)) ?_ (hw := (wantT F rfl rfl (by decide) rfl)); clear F fa; intro fa F
      refine F.vl (R_leqB (b := false) rfl (F.at rfl) (F.at rfl) (decide_eq_false ((by omega)))) ?_ (hw := (wantT F rfl rfl (by decide) rfl)); clear F fa; intro fa F
      refine F.vl (R_pickT rfl (F.at rfl) (F.at rfl)) ?_; clear F fa; intro fa F
      refine wpList_nil ?_
      refine hK11 _ _ ?_
      clear hK11
      refine cd_F F rfl ?_
      refine wp_skip ?_
      refine hK7 _ _ ?_
      clear hK7
      refine wp_region_lit ?_
      refine F.vl (R_add rfl (F.at rfl) (ev_c fa _) (by omega) (by omega)) ?_; clear F fa; intro fa F
      refine F.mv ?_; clear F fa; intro fa F
      refine wpList_nil ?_
      show _ ∧ _
      exact ⟨by omega, _, ⟨rfl, E, q2⟩, F.sub (.c 12 rfl (.c 1 rfl (.c 2 rfl (.c 10 rfl (.c 11 rfl .n)))))⟩
    · skip
      refine wp_region_lit ?_
      refine F.mv ?_; clear F fa; intro fa F
      refine F.vl (R_gtrB (b := false) rfl (F.at rfl) (ev_c fa _) (decide_eq_false ((by omega)))) ?_; clear F fa; intro fa F
      refine F.mv ?_; clear F fa; intro fa F
      refine sq_no F rfl (by decide) (wantF F rfl rfl (by decide) rfl (by decide)) ?_; clear F fa; intro fa F
      refine sq_no F rfl (by decide) (wantF F rfl rfl (by decide) rfl (by decide)) ?_; clear F fa; intro fa F
      refine sq_no F rfl (by decide) (wantF F rfl rfl (by decide) rfl (by decide)) ?_; clear F fa; intro fa F
      refine sq_no F rfl (by decide) (wantF F rfl rfl (by decide) rfl (by decide)) ?_; clear F fa; intro fa F
      refine sq_no F rfl (by decide) (wantF F rfl rfl (by decide) rfl (by decide)) ?_; clear F fa; intro fa F
      refine sq_no F rfl (by decide) (wantF F rfl rfl (by decide) rfl (by decide)) ?_; clear F fa; intro fa F
      refine sq_no F rfl (by decide) (wantF F rfl rfl (by decide) rfl (by decide)) ?_; clear F fa; intro fa F
      refine F.vl (R_pickF rfl (F.at rfl) (ev_c fa _)) ?_; clear F fa; intro fa F
      refine wpList_nil ?_
      refine hK11 _ _ ?_
      clear hK11
      refine cd_F F rfl ?_
      refine wp_skip ?_
      refine hK7 _ _ ?_
      clear hK7
      refine wp_region_lit ?_
      refine F.vl (R_add rfl (F.at rfl) (ev_c fa _) (by omega) (by omega)) ?_; clear F fa; intro fa F
      refine F.mv ?_; clear F fa; intro fa F
      refine wpList_nil ?_
      show _ ∧ _
      exact ⟨by omega, _, ⟨rfl, E, q2⟩, F.sub (.c 12 rfl (.c 1 rfl (.c 2 rfl (.c 10 rfl (.c 11 rfl .n)))))⟩
  · skip
    refine wp_exit ?_
    (try simp only [Exit.inBlock, Exit.then, reduceIte])
    refine rt_vn F (rs_0 rfl) ?_
    exact ⟨rfl, E⟩
end Go.Proofs.Ytdjeecgddbjbeaa
