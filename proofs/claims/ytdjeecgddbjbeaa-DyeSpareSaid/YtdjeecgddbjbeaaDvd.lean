/- The program's differences of weights: off, match, alike. Conditions: the vat is valid. -/
import Derived.Test.YtdjeecgddbjbeaaDvc
namespace Go.Proofs.Ytdjeecgddbjbeaa
open Go.RowKit
set_option linter.unusedVariables false
set_option linter.unusedSimpArgs false
section
variable {P : Program} {ρ : Operand → Value} {o : Oper} {w : World}
theorem R_callF {x : Operand} {f : FuncId} {l : List Operand} {ts : Array TypeId} {vs : List Value} {us cs zs : Array Value} (ho : o.op = .call { callee := .value x, args := l.toArray, argTypes := ts }) (hf : ρ x = .func (.func f) us cs) (hc : ∀ args w, (callFunc f args).run P w = .ok (.enter f args) w) (ha : l.map ρ = vs) (hx : us ++ vs.toArray ++ cs = zs) : (execOp ρ o).run P w = .ok (.enter f zs) w := by
  have ha := mapsN ha
  subst hx
  rw [← ha]
  unfold execOp
  simp [ho, resolve, hf, invoke, hc, go_sem]
end
theorem apart_any (n : Int) (h0 : -1000000000000 ≤ n) (h1 : n ≤ 1000000000000) (w : World) : Calls Try.prog 104 #[.int .i64 n] w fun e w' => e = .returned (.int .i64 (max n (-n))) ∧ Ext [] w w' := by
  have E : Ext [] w w := Ext.refl _ _
  refine calls_has 7 Try.func104 rfl Try.ntmps104 (Nat.le_of_ble_eq_true rfl) ?_
  intro fa F
  refine wp_seq_k fun K1 hK1 => ?_
  refine wp_region_lit ?_
  refine F.vl (R_assign rfl (ev_c fa _)) ?_; clear F fa; intro fa F
  refine wpList_nil ?_
  refine hK1 _ _ ?_
  clear hK1
  refine wp_seq_k fun K2 hK2 => ?_
  refine wp_region_lit ?_
  refine F.mv ?_; clear F fa; intro fa F
  refine F.mv ?_; clear F fa; intro fa F
  refine F.vl (R_neg rfl (F.at rfl) (by omega) (by omega)) ?_; clear F fa; intro fa F
  refine F.vl (R_max rfl rfl (F.at rfl) (F.at rfl)) ?_; clear F fa; intro fa F
  refine F.as ?_; clear F fa; intro fa F
  refine wpList_nil ?_
  refine hK2 _ _ ?_
  clear hK2
  refine wp_ret ?_
  (try simp only [Exit.inBlock, Exit.then, reduceIte])
  refine rt_v F (rs_1 F rfl rfl) ?_
  exact ⟨rfl, E⟩
theorem mul_bd2 {a b A B C : Int} (a0 : 0 ≤ a) (a1 : a ≤ A) (b0 : 0 ≤ b) (b1 : b ≤ B) (h : A * B ≤ C) : 0 ≤ a * b ∧ a * b ≤ C := by
  refine ⟨Int.mul_nonneg a0 b0, ?_⟩
  have h1 : a * b ≤ A * b := Int.mul_le_mul_of_nonneg_right a1 b0
  have h2 : A * b ≤ A * B := Int.mul_le_mul_of_nonneg_left b1 (by omega)
  omega
theorem prt_bd {f : Nat → Int} (hf : TubS f) : 0 ≤ prt f ∧ prt f ≤ 24 := by
  have := sumTo_bd (f := f) (a := 0) (b := 6) (n := 4) hf
  rw [prt]; omega
theorem lamp_bd {x : Vm} (hv : VOk x) {k : Nat} (hk : k < x.L.length) (j : Nat) : 0 ≤ val (x.lamp k) j ∧ val (x.lamp k) j ≤ 3 := by
  obtain ⟨-, h⟩ := hv.ll _ (getD_mem (.bool true, []) hk)
  by_cases hj : j < (x.lamp k).length
  · exact h _ (getD_mem 0 hj)
  · rw [val, List.getD_eq_getElem?_getD, List.getElem?_eq_none (by omega)]; simp
theorem dot_bd {x : Vm} (hv : VOk x) {k : Nat} (hk : k < x.L.length) {s : Nat → Int} (hs : ∀ j, 0 ≤ s j ∧ s j ≤ 240) {n : Nat} (hn : n ≤ 3) : 0 ≤ dotE (val (x.lamp k)) s n ∧ dotE (val (x.lamp k)) s n ≤ 2160 := by
  have := sumTo_bd (f := fun i => val (x.lamp k) i * s i) (a := 0) (b := 720) (n := n) fun j hj => mul_bd2 (lamp_bd hv hk j).1 (lamp_bd hv hk j).2 (hs j).1 (hs j).2 (by omega)
  rw [dotE]; omega
/-- The sums of a recipe. -/
def tnE (x : Vm) (f : Nat → Int) (j : Nat) : Int := tonE x f j x.D.length
theorem tn_bd {x : Vm} (hv : VOk x) {f : Nat → Int} (hf : TubS f) (j : Nat) : 0 ≤ tnE x f j ∧ tnE x f j ≤ 240 := by
  have := tonE_bd hv hf j (Nat.le_refl x.D.length)
  have := hv.d4
  rw [tnE]; omega
theorem dot_sumL (x : Vm) (f : Nat → Int) (a : Nat → Int) (bn : Nat) : dotE a (val (sumL x f bn)) (sumL x f bn).length = dotE a (tnE x f) bn := by
  rw [show (sumL x f bn).length = bn by simp [sumL]]
  refine sumTo_congr fun i hi => ?_
  show a i * val (sumL x f bn) i = a i * tnE x f i
  congr 1
  simp [val, sumL, hi, tnE]
/-- How far a recipe is from a sample. -/
def offE (x : Vm) (k : Nat) (f : Nat → Int) (s : Nat → Int) : Int := dotE (val (x.lamp k)) (tnE x f) x.B.toNat - prt f * dotE (val (x.lamp k)) s x.B.toNat
def SmpOk (x : Vm) (s : List Int) : Prop := (s.length : Int) = x.B ∧ ∀ n ∈ s, 0 ≤ n ∧ n ≤ 9
theorem smp_bd {x : Vm} {s : List Int} (h : SmpOk x s) (j : Nat) : 0 ≤ val s j ∧ val s j ≤ 240 := by
  by_cases hj : j < s.length
  · have := h.2 _ (getD_mem 0 hj)
    rw [val]; omega
  · rw [val, List.getD_eq_getElem?_getD, List.getElem?_eq_none (by omega)]; simp
theorem off_bd {x : Vm} (hv : VOk x) {k : Nat} (hk : k < x.L.length) {f : Nat → Int} (hf : TubS f) {s : List Int} (hs : SmpOk x s) : -1000000 ≤ offE x k f (val s) ∧ offE x k f (val s) ≤ 1000000 := by
  have hb := hv.b3
  have h1 := dot_bd hv hk (fun j => tn_bd hv hf j) (n := x.B.toNat) (by omega)
  have h2 := dot_bd hv hk (fun j => smp_bd hs j) (n := x.B.toNat) (by omega)
  have h3 := prt_bd hf
  have h4 := mul_bd2 h3.1 h3.2 h2.1 h2.2 (C := 51840) (by omega)
  rw [offE]; omega
set_option maxRecDepth 100000 in
set_option maxHeartbeats 1000000 in
theorem off_ok (x : Vm) (hv : VOk x) (k : Nat) (hk : k < x.L.length) (f : Nat → Int) (hf : TubS f) (s : List Int) (hs : SmpOk x s) (a : Option Addr) (c : Nat) (w : World) (h : x.At w) (hr : IsRows w (.slice a s.length c) 1 (s.map intRow)) :
    Calls Try.prog 95 #[.agg #[.int .i64 x.B, .slice x.da x.D.length x.dc, .slice x.la x.L.length x.lc, .int .i64 x.tol], .int .i64 ((k : Nat) : Int), .agg (tubC f), .slice a s.length c] w fun e w' => e = .returned (.int .i64 (offE x k f (val s))) ∧ Ext [] w w' := by
  have E : Ext [] w w := Ext.refl _ _
  have HX := Lib.hid h
  have HV := Lib.hid hv
  have HF := Lib.hid hf
  have HS := Lib.hid hs
  have HR := Lib.hid hr
  have hb1 := hv.b1
  have hb3 := hv.b3
  obtain ⟨bn, hbn⟩ : ∃ bn : Nat, x.B = bn := ⟨x.B.toNat, by omega⟩
  have hbn2 : x.B.toNat = bn := by omega
  have hsl : s.length = bn := by have := hs.1; omega
  have hsb : Hid (∀ n ∈ s, 0 ≤ n ∧ n ≤ 100000) := fun n hn => by have := hs.2 n hn; omega
  have hb := off_bd hv hk hf hs
  have h1 := dot_bd hv hk (fun j => tn_bd hv hf j) (n := bn) (by omega)
  have h2 := dot_bd hv hk (fun j => smp_bd hs j) (n := bn) (by omega)
  have h3 := prt_bd hf
  have h4 := mul_bd2 h3.1 h3.2 h2.1 h2.2 (C := 51840) (by omega)
  have hof : offE x k f (val s) = dotE (val (x.lamp k)) (tnE x f) bn - prt f * dotE (val (x.lamp k)) (val s) bn := by rw [offE, hbn2]
  rw [hof]
  clear h hv hf hs hr hb hof
  refine calls_has 26 Try.func95 rfl Try.ntmps95 (Nat.le_of_ble_eq_true rfl) ?_
  intro fa F
  refine wp_seq_k fun K1 hK1 => ?_
  refine wp_region_lit ?_
  refine sq_new F rfl (by decide) rfl (R_box rfl (F.at rfl)) ?_; clear F fa; intro fa w1 F hw
  obtain ⟨n4, hn⟩ : ∃ n, n = w.heap.size := ⟨_, rfl⟩
  rw [← hn] at F
  have s4 : w.heap.size ≤ n4 := Nat.le_of_eq hn.symm
  have l4_E : w.heap.size ≤ n4 := by rw [hn]; exact E.size
  replace E := ext_alloc E hw
  have q4 := new_row hw hn
  clear hw hn
  refine sq_new F rfl (by decide) rfl (R_box rfl (F.at rfl)) ?_; clear F fa; intro fa w2 F hw
  obtain ⟨n6, hn⟩ : ∃ n, n = w1.heap.size := ⟨_, rfl⟩
  rw [← hn] at F
  have s6 : w1.heap.size ≤ n6 := Nat.le_of_eq hn.symm
  have l6_E : w.heap.size ≤ n6 := by rw [hn]; exact E.size
  have m6_4 : n4 < n6 := by rw [hn]; exact blk_lt q4
  replace q4 := keep_alloc hw q4
  replace E := ext_alloc E hw
  have q6 := new_row hw hn
  clear hw hn
  refine F.vl (R_assign rfl (ev_c fa _)) ?_; clear F fa; intro fa F
  refine wpList_nil ?_
  refine hK1 _ _ ?_
  clear hK1
  refine wp_seq_k fun K2 hK2 => ?_
  refine wp_region_lit ?_
  refine F.vl (R_loadBlk rfl (F.at rfl) Try.underlying80 rfl (by kernel_rfl) q4) ?_; clear F fa; intro fa F
  refine F.vl (R_makeFunc rfl (mapsN (mpS (F.at rfl) mp0)) (mapsN mp0)) ?_; clear F fa; intro fa F
  refine F.as ?_; clear F fa; intro fa F
  refine wpList_nil ?_
  refine hK2 _ _ ?_
  clear hK2
  refine wp_seq_k fun K3 hK3 => ?_
  refine region_x (Ext [] w2) none follows fun w3 hh eh => ?_
  have q4_ := q4
  replace q4 := keep_same hh q4
  have q6_ := q6
  replace q6 := keep_same hh q6
  have E_ := E
  have zEw3 := E.size
  replace E := ext_same E eh
  have eT := eh
  clear hh eh
  refine F.x (i := 0) rfl (fun w' => R_move rfl (F.at rfl)) (fun _ => eT) ?_; clear F fa; intro fa F
  refine F.x (i := 1) rfl (fun w' => R_move rfl (F.at rfl)) (fun _ => eT) ?_; clear F fa; intro fa F
  refine F.xr (i := 2) rfl (fun w' hS => R_loadBlk rfl (F.at rfl) Try.underlying80 rfl (by kernel_rfl) (hS.keep q4_ (by simp))) (fun _ => eT) ?_; clear F fa; intro fa F
  refine F.xr (i := 3) rfl (fun w' hS => R_loadBlk rfl (F.at rfl) Try.underlying83 rfl (by kernel_rfl) (hS.keep q6_ (by simp))) (fun _ => eT) ?_; clear F fa; intro fa F
  refine F.xr (i := 6) rfl (fun w' hS => R_loadBlk rfl (F.at rfl) Try.underlying83 rfl (by kernel_rfl) (hS.keep q6_ (by simp))) (fun _ => eT) ?_; clear F fa; intro fa F
  refine F.x (i := 8) rfl (fun w' => R_move rfl (F.at rfl)) (fun _ => eT) ?_; clear F fa; intro fa F
  refine F.x (i := 9) rfl (fun w' => R_move rfl (F.at rfl)) (fun _ => eT) ?_; clear F fa; intro fa F
  refine F.x (i := 10) rfl (fun w' => R_move rfl (F.at rfl)) (fun _ => eT) ?_; clear F fa; intro fa F
  refine ax_only (i := 4) (by kernel_rfl) (op_call F rfl rfl (by decide) rfl (R_callV rfl rfl Try.call87 (mpS (F.at rfl) (mpS (F.at rfl) mp0))) (sums_ok x HV.out bn hbn f HF.out _ (HX.out.ext E)) fun e w4 hR => ?_)
  obtain ⟨a16, rfl, oo, e9⟩ := hR
  refine ⟨_, rfl, ?_⟩; clear F fa; intro fa F
  replace q4 := (e9).keep0 q4
  replace q6 := (e9).keep0 q6
  replace E := ext_same E (e9)
  replace eT := ext_same eT (e9)
  clear e9
  refine ⟨fun _ => eT, ?_⟩
  have hrw := rows_of_owns (xs := sumL x f bn) (row := intRow) (by rw [← ivs_flat, show (sumL x f bn).length = bn by simp [sumL]]; exact oo) (fun _ => rfl)
  have hll : (sumL x f bn).length = bn := by simp [sumL]
  have hwe := weigh_ok x HV.out k hk (sumL x f bn) (by rw [hll]; omega) (fun n hn => by have := sumL_bd HV.out HF.out bn n hn; omega) a16 bn w4 (HX.out.ext E) (by rw [hll]; exact hrw)
  rw [dot_sumL, hll] at hwe
  refine ax_only (i := 5) (by kernel_rfl) (op_call F rfl rfl (by decide) rfl (R_callF rfl (F.at rfl) Try.call86 (mpS (F.at rfl) (mpS (F.at rfl) mp0)) (by simp)) (hwe) fun e w5 hR => ?_)
  obtain ⟨rfl, e9⟩ := hR
  refine ⟨_, rfl, ?_⟩; clear F fa; intro fa F
  replace q4 := (e9).keep0 q4
  replace q6 := (e9).keep0 q6
  replace E := ext_same E (e9)
  replace eT := ext_same eT (e9)
  clear e9
  refine ⟨fun _ => eT, ?_⟩
  clear oo hrw hwe
  refine ax_only (i := 7) (by kernel_rfl) (op_call F rfl rfl (by decide) rfl (R_callV rfl rfl Try.call61 (mpS (F.at rfl) mp0)) (parts_any f HF.out.ok _) fun e w6 hR => ?_)
  obtain ⟨rfl, e9⟩ := hR
  refine ⟨_, rfl, ?_⟩; clear F fa; intro fa F
  replace q4 := (e9).keep0 q4
  replace q6 := (e9).keep0 q6
  replace E := ext_same E (e9)
  replace eT := ext_same eT (e9)
  clear e9
  refine ⟨fun _ => eT, ?_⟩
  have hwe := weigh_ok x HV.out k hk s HS.out.1 hsb.out a c w6 (HX.out.ext E) (HR.out.ext E (by simp))
  refine ax_only (i := 11) (by kernel_rfl) (op_call F rfl rfl (by decide) rfl (R_callF rfl (F.at rfl) Try.call86 (mpS (F.at rfl) (mpS (F.at rfl) mp0)) (by simp)) (hwe) fun e w7 hR => ?_)
  obtain ⟨rfl, e9⟩ := hR
  refine ⟨_, rfl, ?_⟩; clear F fa; intro fa F
  replace q4 := (e9).keep0 q4
  replace q6 := (e9).keep0 q6
  replace E := ext_same E (e9)
  replace eT := ext_same eT (e9)
  clear e9
  refine ⟨fun _ => eT, ?_⟩
  rw [hsl] at F
  refine F.x (i := 12) rfl (fun w' => R_mul rfl (F.at rfl) (F.at rfl) (by omega) (by omega)) (fun _ => eT) ?_; clear F fa; intro fa F
  refine F.x (i := 13) rfl (fun w' => R_sub rfl (F.at rfl) (F.at rfl) (by omega) (by omega)) (fun _ => eT) ?_; clear F fa; intro fa F
  refine F.x (i := 14) rfl (fun w' => R_assign rfl (F.at rfl)) (fun _ => eT) ?_; clear F fa; intro fa F
  refine ax_done (by kernel_rfl) ?_ _
  clear eT q4_ q6_ E_
  refine hK3 _ _ ?_
  clear hK3
  refine wp_ret ?_
  (try simp only [Exit.inBlock, Exit.then, reduceIte])
  refine rt_v F (rs_1 F rfl rfl) ?_
  exact ⟨rfl, E⟩
/-- A recipe matches a sample under some lamps. -/
def matE (x : Vm) (f : Nat → Int) (s : Nat → Int) (ls : List Int) : Bool := ls.all fun l => decide (max (offE x l.toNat f s) (-offE x l.toNat f s) ≤ x.tol * prt f)
def LmpOk (x : Vm) (ls : List Int) : Prop := ∀ n ∈ ls, 0 ≤ n ∧ n < x.L.length
theorem mat_bad {x : Vm} {f s : Nat → Int} {ls : List Int} {i : Nat} (hi : i < ls.length) (h : x.tol * prt f < max (offE x (ls.getD i 0).toNat f s) (-offE x (ls.getD i 0).toNat f s)) : matE x f s ls = false := by
  rw [matE, List.all_eq_false]
  exact ⟨_, getD_mem 0 hi, by simp only [decide_eq_true_eq]; omega⟩
theorem mat_all {x : Vm} {f s : Nat → Int} {ls : List Int} (h : ∀ j, j < ls.length → max (offE x (ls.getD j 0).toNat f s) (-offE x (ls.getD j 0).toNat f s) ≤ x.tol * prt f) : matE x f s ls = true := by
  rw [matE, List.all_eq_true]
  intro n hn
  obtain ⟨j, hj, rfl⟩ := List.getElem_of_mem hn
  have := h j hj
  rw [List.getD_eq_getElem?_getD, List.getElem?_eq_getElem hj] at this
  exact decide_eq_true this
set_option maxRecDepth 100000 in
set_option maxHeartbeats 1000000 in
theorem match_ok (x : Vm) (hv : VOk x) (f : Nat → Int) (hf : TubS f) (s : List Int) (hs : SmpOk x s) (ls : List Int) (hl : LmpOk x ls) (hll : ls.length ≤ 1000) (a b : Option Addr) (c d : Nat) (w : World) (h : x.At w) (hr : IsRows w (.slice a s.length c) 1 (s.map intRow)) (hq : IsRows w (.slice b ls.length d) 1 (ls.map intRow)) :
    Calls Try.prog 59 #[.agg #[.int .i64 x.B, .slice x.da x.D.length x.dc, .slice x.la x.L.length x.lc, .int .i64 x.tol], .agg (tubC f), .slice a s.length c, .slice b ls.length d] w fun e w' => e = .returned (.bool (matE x f (val s) ls)) ∧ Ext [] w w' := by
  have E : Ext [] w w := Ext.refl _ _
  have HX := Lib.hid h
  have HV := Lib.hid hv
  have HF := Lib.hid hf
  have HS := Lib.hid hs
  have HR := Lib.hid hr
  have HL := Lib.hid hl
  have HLS := Lib.hid (slAt_of_rows hq 0)
  have h3 := prt_bd hf
  have ht0 := hv.t0
  have ht1 := hv.t12
  have h4 := mul_bd2 ht0 ht1 h3.1 h3.2 (C := 288) (by omega)
  clear h hv hf hs hr hl hq
  refine calls_has 31 Try.func59 rfl Try.ntmps59 (Nat.le_of_ble_eq_true rfl) ?_
  intro fa F
  refine wp_seq_k fun K1 hK1 => ?_
  refine wp_region_lit ?_
  refine sq_new F rfl (by decide) rfl (R_box rfl (F.at rfl)) ?_; clear F fa; intro fa w1 F hw
  obtain ⟨n4, hn⟩ : ∃ n, n = w.heap.size := ⟨_, rfl⟩
  rw [← hn] at F
  have s4 : w.heap.size ≤ n4 := Nat.le_of_eq hn.symm
  have l4_E : w.heap.size ≤ n4 := by rw [hn]; exact E.size
  replace E := ext_alloc E hw
  have q4 := new_row hw hn
  clear hw hn
  refine sq_new F rfl (by decide) rfl (R_box rfl (F.at rfl)) ?_; clear F fa; intro fa w2 F hw
  obtain ⟨n5, hn⟩ : ∃ n, n = w1.heap.size := ⟨_, rfl⟩
  rw [← hn] at F
  have s5 : w1.heap.size ≤ n5 := Nat.le_of_eq hn.symm
  have l5_E : w.heap.size ≤ n5 := by rw [hn]; exact E.size
  have m5_4 : n4 < n5 := by rw [hn]; exact blk_lt q4
  replace q4 := keep_alloc hw q4
  replace E := ext_alloc E hw
  have q5 := new_row hw hn
  clear hw hn
  refine F.vl (R_assign rfl (ev_c fa _)) ?_; clear F fa; intro fa F
  refine wpList_nil ?_
  refine hK1 _ _ ?_
  clear hK1
  refine wp_seq_k fun K2 hK2 => ?_
  refine wp_seq_k fun K3 hK3 => ?_
  refine wp_region_lit ?_
  refine F.mv ?_; clear F fa; intro fa F
  refine F.vl (R_len rfl rfl (F.at rfl) Try.underlying25) ?_; clear F fa; intro fa F
  refine F.vl (R_move rfl (ev_c fa _)) ?_; clear F fa; intro fa F
  refine wpList_nil ?_
  refine hK3 _ _ ?_
  clear hK3
  refine wp_block ?_
  have F0 := F.sub (.c 2 rfl (.c 4 rfl (.c 5 rfl (.c 11 rfl (.c 12 rfl .n)))))
  refine lp_for F0 (ls.length) (fun i Lv W => Lv = [(13, .int .i64 ((i : Nat) : Int))] ∧ Ext [] w W ∧ W.heap[n4]? = some (.cells #[.int .i64 x.B, .slice x.da x.D.length x.dc, .slice x.la x.L.length x.lc, .int .i64 x.tol] 80 (0, 0)) ∧ W.heap[n5]? = some (.cells (tubC f) 83 (0, 0)) ∧ Hid (∀ j, j < i → max (offE x (ls.getD j 0).toNat f (val s)) (-offE x (ls.getD j 0).toNat f (val s)) ≤ x.tol * prt f)) ⟨_, ⟨rfl, E, q4, q5, Lib.hid (fun j hj => absurd hj (by omega))⟩, F.sub (.c 13 rfl (.c 2 rfl (.c 4 rfl (.c 5 rfl (.c 11 rfl (.c 12 rfl .n))))))⟩ ?_
  clear F F0
  clear E q4 q5
  rintro i _ fa w3 hi1 ⟨rfl, E, q4, q5, hno⟩ F
  refine wp_seq_k fun K4 hK4 => ?_
  refine wp_region_lit ?_
  refine F.vl (R_lss rfl (F.at rfl) (F.at rfl)) ?_; clear F fa; intro fa F
  refine wpList_nil ?_
  refine hK4 _ _ ?_
  clear hK4
  refine wp_seq_k fun K5 hK5 => ?_
  refine cd_if F rfl (fun hc14 => ?_) (fun hc14 => ?_)
  · skip
    refine wp_skip ?_
    refine hK5 _ _ ?_
    clear hK5
    refine wp_seq_k fun K6 hK6 => ?_
    refine wp_block ?_
    refine wp_seq_k fun K7 hK7 => ?_
    obtain ⟨hk0, hk1⟩ := HL.out _ (getD_mem (l := ls) (i := i) 0 (by omega))
    obtain ⟨k, hkk⟩ : ∃ k : Nat, ls.getD i 0 = k := ⟨(ls.getD i 0).toNat, by omega⟩
    have hkt : (ls.getD i 0).toNat = k := by omega
    have hkL : k < x.L.length := by omega
    obtain ⟨hb0, hb1⟩ := off_bd HV.out hkL HF.out HS.out
    refine wp_region_lit ?_
    obtain ⟨xb8, xo8, xa8, xr8⟩ := HLS.out i (by omega)
    refine F.vl (R_ixSlice (sz := 1) rfl ((F.at rfl).trans (xa8 _ _)) (F.at rfl) Try.underlying25 (by kernel_rfl) (by omega) (by omega)) ?_; clear F fa; intro fa F
    refine F.vl (R_load rfl (F.at rfl) Try.underlying3 rfl (xr8 _ E 0 _ rfl)) ?_; clear F fa; intro fa F
    rw [hkk] at F
    refine F.as ?_; clear F fa; intro fa F
    refine wpList_nil ?_
    refine hK7 _ _ ?_
    clear hK7
    refine wp_seq_k fun K9 hK9 => ?_
    refine region_x (Ext [] w3) none follows fun w4 hh eh => ?_
    have q4_ := q4
    replace q4 := keep_same hh q4
    have q5_ := q5
    replace q5 := keep_same hh q5
    have E_ := E
    have zEw4 := E.size
    replace E := ext_same E eh
    have eT := eh
    clear hh eh
    refine F.xr (i := 0) rfl (fun w' hS => R_loadBlk rfl (F.at rfl) Try.underlying80 rfl (by kernel_rfl) (hS.keep q4_ (by simp))) (fun _ => eT) ?_; clear F fa; intro fa F
    refine F.x (i := 1) rfl (fun w' => R_move rfl (F.at rfl)) (fun _ => eT) ?_; clear F fa; intro fa F
    refine F.xr (i := 2) rfl (fun w' hS => R_loadBlk rfl (F.at rfl) Try.underlying83 rfl (by kernel_rfl) (hS.keep q5_ (by simp))) (fun _ => eT) ?_; clear F fa; intro fa F
    refine F.x (i := 3) rfl (fun w' => R_move rfl (F.at rfl)) (fun _ => eT) ?_; clear F fa; intro fa F
    refine F.x (i := 6) rfl (fun w' => R_field rfl (F.at rfl) Try.underlying80 rfl (n := 0) (sz := 4) rfl (by kernel_rfl) (by decide)) (fun _ => eT) ?_; clear F fa; intro fa F
    refine F.x (i := 7) rfl (fun w' => R_field rfl (F.at rfl) Try.underlying24 rfl (n := 3) (sz := 1) rfl (by kernel_rfl) (by decide)) (fun _ => eT) ?_; clear F fa; intro fa F
    refine F.xr (i := 8) rfl (fun w' hS => R_load rfl (F.at rfl) Try.underlying3 rfl ((cells_of_block (hS.keep q4_ (by simp)) 3).trans (getS (getS (getS (get0)))))) (fun _ => eT) ?_; clear F fa; intro fa F
    refine F.xr (i := 9) rfl (fun w' hS => R_loadBlk rfl (F.at rfl) Try.underlying83 rfl (by kernel_rfl) (hS.keep q5_ (by simp))) (fun _ => eT) ?_; clear F fa; intro fa F
    refine ax_only (i := 4) (by kernel_rfl) (op_call F rfl rfl (by decide) rfl (R_callV rfl rfl Try.call95 (mpS (F.at rfl) (mpS (F.at rfl) (mpS (F.at rfl) (mpS (F.at rfl) mp0))))) (off_ok x HV.out k hkL f HF.out s HS.out a c _ (HX.out.ext E) (HR.out.ext E (by simp))) fun e w5 hR => ?_)
    obtain ⟨rfl, e9⟩ := hR
    refine ⟨_, rfl, ?_⟩; clear F fa; intro fa F
    replace q4 := (e9).keep0 q4
    replace q5 := (e9).keep0 q5
    replace E := ext_same E (e9)
    replace eT := ext_same eT (e9)
    clear e9
    refine ⟨fun _ => eT, ?_⟩
    refine ax_only (i := 5) (by kernel_rfl) (op_call F rfl rfl (by decide) rfl (R_callV rfl rfl Try.call104 (mpS (F.at rfl) mp0)) (apart_any (offE x k f (val s)) (by omega) (by omega) _) fun e w6 hR => ?_)
    obtain ⟨rfl, e9⟩ := hR
    refine ⟨_, rfl, ?_⟩; clear F fa; intro fa F
    replace q4 := (e9).keep0 q4
    replace q5 := (e9).keep0 q5
    replace E := ext_same E (e9)
    replace eT := ext_same eT (e9)
    clear e9
    refine ⟨fun _ => eT, ?_⟩
    refine ax_only (i := 10) (by kernel_rfl) (op_call F rfl rfl (by decide) rfl (R_callV rfl rfl Try.call61 (mpS (F.at rfl) mp0)) (parts_any f HF.out.ok _) fun e w7 hR => ?_)
    obtain ⟨rfl, e9⟩ := hR
    refine ⟨_, rfl, ?_⟩; clear F fa; intro fa F
    replace q4 := (e9).keep0 q4
    replace q5 := (e9).keep0 q5
    replace E := ext_same E (e9)
    replace eT := ext_same eT (e9)
    clear e9
    refine ⟨fun _ => eT, ?_⟩
    refine F.x (i := 11) rfl (fun w' => R_mul rfl (F.at rfl) (F.at rfl) (by omega) (by omega)) (fun _ => eT) ?_; clear F fa; intro fa F
    refine F.x (i := 12) rfl (fun w' => R_gtr rfl (F.at rfl) (F.at rfl)) (fun _ => eT) ?_; clear F fa; intro fa F
    refine ax_done (by kernel_rfl) ?_ _
    clear eT q4_ q5_ E_
    refine hK9 _ _ ?_
    clear hK9
    refine cd_if F rfl (fun hc29 => ?_) (fun hc29 => ?_)
    · skip
      rw [← hkt] at hc29
      refine wp_seq_k fun K10 hK10 => ?_
      refine wp_region_lit ?_
      refine F.vl (R_assign rfl (ev_c fa _)) ?_; clear F fa; intro fa F
      refine wpList_nil ?_
      refine hK10 _ _ ?_
      clear hK10
      refine wp_ret ?_
      (try simp only [Exit.inBlock, Exit.then, reduceIte])
      refine rt_v F (rs_1 F rfl rfl) ?_
      exact ⟨ret_bool (mat_bad (by omega) hc29).symm, E⟩
    · skip
      have hle : max (offE x (ls.getD i 0).toNat f (val s)) (-offE x (ls.getD i 0).toNat f (val s)) ≤ x.tol * prt f := by rw [hkt]; omega
      refine wp_skip ?_
      refine hK6 _ _ ?_
      clear hK6
      refine wp_region_lit ?_
      refine F.vl (R_add rfl (F.at rfl) (ev_c fa _) (by omega) (by omega)) ?_; clear F fa; intro fa F
      refine F.mv ?_; clear F fa; intro fa F
      refine wpList_nil ?_
      show _ ∧ _
      exact ⟨by omega, _, ⟨rfl, E, q4, q5, Lib.hid (fun j hj => if e : j = i then e ▸ hle else hno.out j (by omega))⟩, F.sub (.c 13 rfl (.c 2 rfl (.c 4 rfl (.c 5 rfl (.c 11 rfl (.c 12 rfl .n))))))⟩
  · skip
    refine wp_exit ?_
    refine hK2 _ _ ?_
    clear hK2
    refine wp_seq_k fun K11 hK11 => ?_
    refine wp_region_lit ?_
    refine F.vl (R_assign rfl (ev_c fa _)) ?_; clear F fa; intro fa F
    refine wpList_nil ?_
    refine hK11 _ _ ?_
    clear hK11
    refine wp_ret ?_
    (try simp only [Exit.inBlock, Exit.then, reduceIte])
    refine rt_v F (rs_1 F rfl rfl) ?_
    exact ⟨ret_bool (mat_all fun j hj => hno.out j (by omega)).symm, E⟩
/-- Two stuffs match under a lamp. -/
def alkV (x : Vm) (k : Nat) (f g : Nat → Int) : Int := prt g * dotE (val (x.lamp k)) (tnE x f) x.B.toNat - prt f * dotE (val (x.lamp k)) (tnE x g) x.B.toNat
def alkE (x : Vm) (k : Nat) (f g : Nat → Int) : Bool := decide (max (alkV x k f g) (-alkV x k f g) ≤ x.tol * prt f * prt g)
end Go.Proofs.Ytdjeecgddbjbeaa
