/- The program's Most. Conditions: all arguments are valid. -/
import Derived.Test.YtdjeecgddbjbeaaDse
namespace Go.Proofs.Ytdjeecgddbjbeaa
open Go.RowKit
set_option linter.unusedVariables false
set_option linter.unusedSimpArgs false
set_option maxRecDepth 100000 in
theorem indexF_any (xs : List Int) (f : FuncId) (cs : Array Value) (p : Int → Bool) (a : Option Addr) (c : Nat) (w : World) (hx : IsRows w (.slice a xs.length c) 1 (xs.map intRow)) (hl : xs.length ≤ 1000)
    (hf : ∀ args w, (callFunc f args).run Try.prog w = .ok (.enter f args) w) (hc : ∀ W, Ext [] w W → ∀ n ∈ xs, Calls Try.prog f (#[] ++ [Value.int .i64 n].toArray ++ cs) W fun e W' => e = .returned (.bool (p n)) ∧ Ext [] W W') :
    Calls Try.prog 110 #[.slice a xs.length c, .func (.func f) #[] cs] w fun e w' => ∃ r, e = .returned (.int .i64 r) ∧ decide (0 ≤ r) = xs.any p ∧ Ext [] w w' := by
  have E : Ext [] w w := Ext.refl _ _
  have HS := Lib.hid (slAt_of_rows hx 0)
  have HC := Lib.hid hc
  have HF := Lib.hid hf
  clear hx hc hf
  refine calls_has 19 Try.func110 rfl Try.ntmps110 (Nat.le_of_ble_eq_true rfl) ?_
  intro fa F
  refine wp_seq_k fun K1 hK1 => ?_
  refine wp_region_lit ?_
  refine F.vl (R_assign rfl (ev_c fa _)) ?_; clear F fa; intro fa F
  refine wpList_nil ?_
  refine hK1 _ _ ?_
  clear hK1
  refine wp_seq_k fun K2 hK2 => ?_
  refine wp_seq_k fun K3 hK3 => ?_
  refine wp_region_lit ?_
  refine F.mv ?_; clear F fa; intro fa F
  refine F.vl (R_len rfl rfl (F.at rfl) Try.underlying25) ?_; clear F fa; intro fa F
  refine F.vl (R_move rfl (ev_c fa _)) ?_; clear F fa; intro fa F
  refine wpList_nil ?_
  refine hK3 _ _ ?_
  clear hK3
  refine wp_block ?_
  have F0 := F.sub (.c 0 rfl (.c 1 rfl (.c 7 rfl .n)))
  refine lp_for F0 (xs.length) (fun i Lv W => Lv = [(8, .int .i64 ((i : Nat) : Int))] ∧ Ext [] w W ∧ ∀ j, j < i → p (xs.getD j 0) = false) ⟨_, ⟨rfl, E, (fun j h => by omega)⟩, F.sub (.c 8 rfl (.c 0 rfl (.c 1 rfl (.c 7 rfl .n))))⟩ ?_
  clear F F0
  clear E
  rintro i _ fa w1 hi1 ⟨rfl, E, hb⟩ F
  refine wp_seq_k fun K4 hK4 => ?_
  refine wp_region_lit ?_
  refine F.vl (R_lss rfl (F.at rfl) (F.at rfl)) ?_; clear F fa; intro fa F
  refine wpList_nil ?_
  refine hK4 _ _ ?_
  clear hK4
  refine wp_seq_k fun K5 hK5 => ?_
  refine cd_if F rfl (fun hc9 => ?_) (fun hc9 => ?_)
  · skip
    refine wp_skip ?_
    refine hK5 _ _ ?_
    clear hK5
    refine wp_seq_k fun K6 hK6 => ?_
    refine wp_block ?_
    refine wp_seq_k fun K7 hK7 => ?_
    refine wp_region_lit ?_
    refine F.mv ?_; clear F fa; intro fa F
    refine F.as ?_; clear F fa; intro fa F
    refine wpList_nil ?_
    refine hK7 _ _ ?_
    clear hK7
    refine wp_seq_k fun K8 hK8 => ?_
    refine wp_region_lit ?_
    refine F.mv ?_; clear F fa; intro fa F
    refine F.mv ?_; clear F fa; intro fa F
    refine F.mv ?_; clear F fa; intro fa F
    obtain ⟨xb9, xo9, xa9, xr9⟩ := HS.out i (by omega)
    refine F.vl (R_ixSlice (sz := 1) rfl ((F.at rfl).trans (xa9 _ _)) (F.at rfl) Try.underlying25 (by kernel_rfl) (by omega) (by omega)) ?_; clear F fa; intro fa F
    refine F.vl (R_load rfl (F.at rfl) Try.underlying3 rfl (xr9 _ E 0 _ rfl)) ?_; clear F fa; intro fa F
    refine sq_call F rfl (by decide) rfl (R_callF rfl (F.at rfl) HF.out (mpS (F.at rfl) mp0) rfl) (HC.out _ E _ (getD_mem 0 (by omega))) fun e w2 hR => ?_
    obtain ⟨rfl, e9⟩ := hR
    refine ⟨_, rfl, ?_⟩; clear F fa; intro fa F
    replace E := ext_same E (e9)
    clear e9
    refine wpList_nil ?_
    refine hK8 _ _ ?_
    clear hK8
    refine cd_b F rfl (fun hc16 => ?_) (fun hc16 => ?_)
    · skip
      refine wp_seq_k fun K10 hK10 => ?_
      refine wp_region_lit ?_
      refine F.mv ?_; clear F fa; intro fa F
      refine F.as ?_; clear F fa; intro fa F
      refine wpList_nil ?_
      refine hK10 _ _ ?_
      clear hK10
      refine wp_ret ?_
      (try simp only [Exit.inBlock, Exit.then, reduceIte])
      refine rt_v F (rs_1 F rfl rfl) ?_
      exact ⟨_, rfl, (by rw [decide_eq_true (by omega), List.any_eq_true.2 ⟨_, getD_mem 0 (by omega), hc16⟩]), E⟩
    · skip
      refine wp_skip ?_
      refine hK6 _ _ ?_
      clear hK6
      refine wp_region_lit ?_
      refine F.vl (R_add rfl (F.at rfl) (ev_c fa _) (by omega) (by omega)) ?_; clear F fa; intro fa F
      refine F.mv ?_; clear F fa; intro fa F
      refine wpList_nil ?_
      show _ ∧ _
      exact ⟨by omega, _, ⟨rfl, E, (fun j h => by rcases Nat.lt_succ_iff_lt_or_eq.1 h with h | rfl; (· exact hb j h); (· exact hc16))⟩, F.sub (.c 8 rfl (.c 0 rfl (.c 1 rfl (.c 7 rfl .n))))⟩
  · skip
    refine wp_exit ?_
    refine hK2 _ _ ?_
    clear hK2
    refine wp_seq_k fun K11 hK11 => ?_
    refine wp_region_lit ?_
    refine F.vl (R_assign rfl (ev_c fa _)) ?_; clear F fa; intro fa F
    refine wpList_nil ?_
    refine hK11 _ _ ?_
    clear hK11
    refine wp_ret ?_
    (try simp only [Exit.inBlock, Exit.then, reduceIte])
    refine rt_v F (rs_1 F rfl rfl) ?_
    exact ⟨_, rfl, (by rw [decide_eq_false (by omega)]; symm; rw [List.any_eq_false]; intro n hn; obtain ⟨j, hj, rfl⟩ := List.getElem_of_mem hn; have := hb j (by omega); simpa [hj] using this), E⟩
theorem containsF_any (xs : List Int) (f : FuncId) (cs : Array Value) (p : Int → Bool) (a : Option Addr) (c : Nat) (w : World) (hx : IsRows w (.slice a xs.length c) 1 (xs.map intRow)) (hl : xs.length ≤ 1000)
    (hf : ∀ args w, (callFunc f args).run Try.prog w = .ok (.enter f args) w) (hc : ∀ W, Ext [] w W → ∀ n ∈ xs, Calls Try.prog f (#[] ++ [Value.int .i64 n].toArray ++ cs) W fun e W' => e = .returned (.bool (p n)) ∧ Ext [] W W') :
    Calls Try.prog 72 #[.slice a xs.length c, .func (.func f) #[] cs] w fun e w' => e = .returned (.bool (xs.any p)) ∧ Ext [] w w' := by
  have E : Ext [] w w := Ext.refl _ _
  have HX := Lib.hid hx
  have HC := Lib.hid hc
  have HF := Lib.hid hf
  clear hx hc hf
  refine calls_has 9 Try.func72 rfl Try.ntmps72 (Nat.le_of_ble_eq_true rfl) ?_
  intro fa F
  refine wp_seq_k fun K1 hK1 => ?_
  refine wp_region_lit ?_
  refine F.vl (R_assign rfl (ev_c fa _)) ?_; clear F fa; intro fa F
  refine wpList_nil ?_
  refine hK1 _ _ ?_
  clear hK1
  refine wp_seq_k fun K2 hK2 => ?_
  refine wp_region_lit ?_
  refine F.mv ?_; clear F fa; intro fa F
  refine F.mv ?_; clear F fa; intro fa F
  refine sq_call F rfl (by decide) rfl (R_callV rfl rfl Try.call110 (mpS (F.at rfl) (mpS (F.at rfl) mp0))) (indexF_any xs f cs p a c _ (HX.out.ext E (by simp)) hl HF.out (fun W e => HC.out W (E.trans e))) fun e w1 hR => ?_
  obtain ⟨r, rfl, hr, e9⟩ := hR
  refine ⟨_, rfl, ?_⟩; clear F fa; intro fa F
  replace E := ext_same E (e9)
  clear e9
  refine F.vl (R_geq rfl (F.at rfl) (ev_c fa _)) ?_; clear F fa; intro fa F
  refine F.as ?_; clear F fa; intro fa F
  refine wpList_nil ?_
  refine hK2 _ _ ?_
  clear hK2
  refine wp_ret ?_
  (try simp only [Exit.inBlock, Exit.then, reduceIte])
  refine rt_v F (rs_1 F rfl rfl) ?_
  exact ⟨ret_bool hr, E⟩
set_option maxRecDepth 100000 in
theorem most1_ok (x : Vm) (hv : VOk x) (T : List (List Int)) (hT : ∀ t ∈ T, TubS (val t)) (ma : Option Addr) (mc n8 n9 n11 n12 j k l : Nat) (hj : j < T.length) (hk : k < T.length) (hl : l < x.L.length) (w : World) (h : x.At w)
    (q8 : w.heap[n8]? = some (.cells #[.int .i64 x.B, .slice x.da x.D.length x.dc, .slice x.la x.L.length x.lc, .int .i64 x.tol] 80 (0, 0))) (q9 : w.heap[n9]? = some (.cells #[.slice ma T.length mc] 102 (0, 0))) (q11 : w.heap[n11]? = some (.cells #[.int .i64 ((j : Nat) : Int)] 3 (0, 0))) (q12 : w.heap[n12]? = some (.cells #[.int .i64 ((k : Nat) : Int)] 3 (0, 0)))
    (hs : SlAt [] w ma 4 T.length (fun i => tubR (val (T.getD i [])))) (h6 : T.length ≤ 6) :
    Calls Try.prog 73 #[.int .i64 ((l : Nat) : Int), .pointer (some ⟨n8, 0, none⟩), .pointer (some ⟨n9, 0, none⟩), .pointer (some ⟨n11, 0, none⟩), .pointer (some ⟨n12, 0, none⟩)] w fun e w' => e = .returned (.bool (!alkE x l (val (T.getD j [])) (val (T.getD k [])))) ∧ Ext [] w w' := by
  have E : Ext [] w w := Ext.refl _ _
  have HX := Lib.hid h
  have HV := Lib.hid hv
  have HT := Lib.hid hT
  have HS := Lib.hid hs
  clear h hv hT hs
  refine calls_has 19 Try.func73 rfl Try.ntmps73 (Nat.le_of_ble_eq_true rfl) ?_
  intro fa F
  refine wp_seq_k fun K1 hK1 => ?_
  refine wp_region_lit ?_
  refine F.vl (R_assign rfl (ev_c fa _)) ?_; clear F fa; intro fa F
  refine wpList_nil ?_
  refine hK1 _ _ ?_
  clear hK1
  refine wp_seq_k fun K2 hK2 => ?_
  refine wp_region_st 10 follows (by kernel_rfl) fun w1 hh eh => ?_
  replace q8 := keep_same hh q8
  replace q9 := keep_same hh q9
  replace q11 := keep_same hh q11
  replace q12 := keep_same hh q12
  replace E := ext_same E eh
  clear hh eh
  refine F.sv (R_loadBlk rfl (F.at rfl) Try.underlying80 rfl (by kernel_rfl) q8) ?_; clear F fa; intro fa F
  refine F.smv ?_; clear F fa; intro fa F
  refine F.sv (R_load rfl (F.at rfl) Try.underlying102 rfl ((cells_of_block q9 0).trans (get0))) ?_; clear F fa; intro fa F
  refine F.sv (R_load rfl (F.at rfl) Try.underlying3 rfl ((cells_of_block q11 0).trans (get0))) ?_; clear F fa; intro fa F
  obtain ⟨xb3, xo3, xa3, xr3⟩ := HS.out j (by omega)
  refine F.sv (R_ixSlice (sz := 4) rfl ((F.at rfl).trans (xa3 _ _)) (F.at rfl) Try.underlying102 (by kernel_rfl) (by omega) (by omega)) ?_; clear F fa; intro fa F
  refine F.sv (R_loadRow rfl (F.at rfl) Try.underlying83 rfl (by kernel_rfl) (xr3 _ E)) ?_; clear F fa; intro fa F
  refine F.sv (R_load rfl (F.at rfl) Try.underlying102 rfl ((cells_of_block q9 0).trans (get0))) ?_; clear F fa; intro fa F
  refine F.sv (R_load rfl (F.at rfl) Try.underlying3 rfl ((cells_of_block q12 0).trans (get0))) ?_; clear F fa; intro fa F
  obtain ⟨xb4, xo4, xa4, xr4⟩ := HS.out k (by omega)
  refine F.sv (R_ixSlice (sz := 4) rfl ((F.at rfl).trans (xa4 _ _)) (F.at rfl) Try.underlying102 (by kernel_rfl) (by omega) (by omega)) ?_; clear F fa; intro fa F
  refine F.sv (R_loadRow rfl (F.at rfl) Try.underlying83 rfl (by kernel_rfl) (xr4 _ E)) ?_; clear F fa; intro fa F
  refine wpStill_nil ?_
  refine sq_call F rfl (by decide) rfl (R_callV rfl rfl Try.call74 (mpS (F.at rfl) (mpS (F.at rfl) (mpS (F.at rfl) (mpS (F.at rfl) mp0))))) (alike_ok x HV.out l hl (val (T.getD j [])) (val (T.getD k [])) (HT.out _ (getD_memL [] (by omega))) (HT.out _ (getD_memL [] (by omega))) _ (HX.out.ext E)) fun e w2 hR => ?_
  obtain ⟨rfl, e9⟩ := hR
  refine ⟨_, rfl, ?_⟩; clear F fa; intro fa F
  replace q8 := (e9).keep0 q8
  replace q9 := (e9).keep0 q9
  replace q11 := (e9).keep0 q11
  replace q12 := (e9).keep0 q12
  replace E := ext_same E (e9)
  clear e9
  refine F.vl (R_not rfl (F.at rfl)) ?_; clear F fa; intro fa F
  refine F.as ?_; clear F fa; intro fa F
  refine wpList_nil ?_
  refine hK2 _ _ ?_
  clear hK2
  refine wp_ret ?_
  (try simp only [Exit.inBlock, Exit.then, reduceIte])
  refine rt_v F (rs_1 F rfl rfl) ?_
  exact ⟨rfl, E⟩
end Go.Proofs.Ytdjeecgddbjbeaa
