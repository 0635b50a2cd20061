/- The first one of the things that cost least. No conditions. -/
import Derived.Test.YtdjeecgddbjbeaaDma
namespace Go.Proofs.Ytdjeecgddbjbeaa
open Go.RowKit
set_option linter.unusedVariables false
set_option linter.unusedSimpArgs false
theorem isNaN_no (n : Int) (w : World) : Calls Try.prog 115 #[.int .i64 n] w fun e w' => e = .returned (.bool false) ∧ Ext [] w w' := by
  have E : Ext [] w w := Ext.refl _ _
  refine calls_has 6 Try.func115 rfl Try.ntmps115 (Nat.le_of_ble_eq_true rfl) ?_
  intro fa F
  refine wp_seq_k fun K1 hK1 => ?_
  refine wp_region_lit ?_
  refine F.vl (R_assign rfl (ev_c fa _)) ?_; clear F fa; intro fa F
  refine wpList_nil ?_
  refine hK1 _ _ ?_
  clear hK1
  refine wp_seq_k fun K2 hK2 => ?_
  refine wp_region_lit ?_
  refine F.mv ?_; clear F fa; intro fa F
  refine F.mv ?_; clear F fa; intro fa F
  refine F.vl (R_neqB (b := false) rfl (F.at rfl) (F.at rfl) (decide_eq_true rfl)) ?_; clear F fa; intro fa F
  refine F.as ?_; clear F fa; intro fa F
  refine wpList_nil ?_
  refine hK2 _ _ ?_
  clear hK2
  refine wp_ret ?_
  (try simp only [Exit.inBlock, Exit.then, reduceIte])
  refine rt_v F (rs_1 F rfl rfl) ?_
  exact ⟨rfl, E⟩
def cmpE (a b : Int) : Int := if a < b then -1 else if b < a then 1 else 0
theorem cmp_any (a b : Int) (w : World) : Calls Try.prog 85 #[.int .i64 a, .int .i64 b] w fun e w' => e = .returned (.int .i64 (cmpE a b)) ∧ Ext [] w w' := by
  have E : Ext [] w w := Ext.refl _ _
  refine calls_has 20 Try.func85 rfl Try.ntmps85 (Nat.le_of_ble_eq_true rfl) ?_
  intro fa F
  refine wp_seq_k fun K1 hK1 => ?_
  refine wp_region_lit ?_
  refine F.vl (R_assign rfl (ev_c fa _)) ?_; clear F fa; intro fa F
  refine wpList_nil ?_
  refine hK1 _ _ ?_
  clear hK1
  refine wp_seq_k fun K2 hK2 => ?_
  refine wp_region_lit ?_
  refine F.mv ?_; clear F fa; intro fa F
  refine sq_call F rfl (by decide) rfl (R_callV rfl rfl Try.call115 (mpS (F.at rfl) mp0)) (isNaN_no a _) fun e w1 hR => ?_
  obtain ⟨rfl, e9⟩ := hR
  refine ⟨_, rfl, ?_⟩; clear F fa; intro fa F
  replace E := ext_same E (e9)
  clear e9
  refine F.as ?_; clear F fa; intro fa F
  refine wpList_nil ?_
  refine hK2 _ _ ?_
  clear hK2
  refine wp_seq_k fun K3 hK3 => ?_
  refine wp_region_lit ?_
  refine F.mv ?_; clear F fa; intro fa F
  refine sq_call F rfl (by decide) rfl (R_callV rfl rfl Try.call115 (mpS (F.at rfl) mp0)) (isNaN_no b _) fun e w2 hR => ?_
  obtain ⟨rfl, e9⟩ := hR
  refine ⟨_, rfl, ?_⟩; clear F fa; intro fa F
  replace E := ext_same E (e9)
  clear e9
  refine F.as ?_; clear F fa; intro fa F
  refine wpList_nil ?_
  refine hK3 _ _ ?_
  clear hK3
  refine wp_seq_k fun K4 hK4 => ?_
  refine wp_seq_k fun K5 hK5 => ?_
  refine wp_region_lit ?_
  refine F.mv ?_; clear F fa; intro fa F
  refine wpList_nil ?_
  refine hK5 _ _ ?_
  clear hK5
  refine cd_F F rfl ?_
  refine wp_skip ?_
  refine hK4 _ _ ?_
  clear hK4
  refine wp_seq_k fun K6 hK6 => ?_
  refine wp_seq_k fun K7 hK7 => ?_
  refine wp_region_lit ?_
  refine F.mv ?_; clear F fa; intro fa F
  refine wpList_nil ?_
  refine hK7 _ _ ?_
  clear hK7
  refine cd_F F rfl ?_
  refine wp_skip ?_
  refine hK6 _ _ ?_
  clear hK6
  refine wp_seq_k fun K8 hK8 => ?_
  refine wp_seq_k fun K9 hK9 => ?_
  refine wp_region_lit ?_
  refine F.mv ?_; clear F fa; intro fa F
  refine F.mv ?_; clear F fa; intro fa F
  refine F.vl (R_lss rfl (F.at rfl) (F.at rfl)) ?_; clear F fa; intro fa F
  refine wpList_nil ?_
  refine hK9 _ _ ?_
  clear hK9
  refine cd_if F rfl (fun hc16 => ?_) (fun hc16 => ?_)
  · skip
    refine wp_seq_k fun K10 hK10 => ?_
    refine wp_region_lit ?_
    refine F.vl (R_assign rfl (ev_c fa _)) ?_; clear F fa; intro fa F
    refine wpList_nil ?_
    refine hK10 _ _ ?_
    clear hK10
    refine wp_ret ?_
    (try simp only [Exit.inBlock, Exit.then, reduceIte])
    refine rt_v F (rs_1 F rfl rfl) ?_
    first | exact ⟨ret_int (by rw [cmpE, if_pos (by omega)]), E⟩ | exact ⟨ret_int (by rw [cmpE, if_neg (by omega), if_pos (by omega)]), E⟩ | exact ⟨ret_int (by rw [cmpE, if_neg (by omega), if_neg (by omega)]), E⟩
  · skip
    refine wp_skip ?_
    refine hK8 _ _ ?_
    clear hK8
    refine wp_seq_k fun K11 hK11 => ?_
    refine wp_seq_k fun K12 hK12 => ?_
    refine wp_region_lit ?_
    refine F.mv ?_; clear F fa; intro fa F
    refine F.mv ?_; clear F fa; intro fa F
    refine F.vl (R_gtr rfl (F.at rfl) (F.at rfl)) ?_; clear F fa; intro fa F
    refine wpList_nil ?_
    refine hK12 _ _ ?_
    clear hK12
    refine cd_if F rfl (fun hc19 => ?_) (fun hc19 => ?_)
    · skip
      refine wp_seq_k fun K13 hK13 => ?_
      refine wp_region_lit ?_
      refine F.vl (R_assign rfl (ev_c fa _)) ?_; clear F fa; intro fa F
      refine wpList_nil ?_
      refine hK13 _ _ ?_
      clear hK13
      refine wp_ret ?_
      (try simp only [Exit.inBlock, Exit.then, reduceIte])
      refine rt_v F (rs_1 F rfl rfl) ?_
      first | exact ⟨ret_int (by rw [cmpE, if_pos (by omega)]), E⟩ | exact ⟨ret_int (by rw [cmpE, if_neg (by omega), if_pos (by omega)]), E⟩ | exact ⟨ret_int (by rw [cmpE, if_neg (by omega), if_neg (by omega)]), E⟩
    · skip
      refine wp_skip ?_
      refine hK11 _ _ ?_
      clear hK11
      refine wp_seq_k fun K14 hK14 => ?_
      refine wp_region_lit ?_
      refine F.vl (R_assign rfl (ev_c fa _)) ?_; clear F fa; intro fa F
      refine wpList_nil ?_
      refine hK14 _ _ ?_
      clear hK14
      refine wp_ret ?_
      (try simp only [Exit.inBlock, Exit.then, reduceIte])
      refine rt_v F (rs_1 F rfl rfl) ?_
      first | exact ⟨ret_int (by rw [cmpE, if_pos (by omega)]), E⟩ | exact ⟨ret_int (by rw [cmpE, if_neg (by omega), if_pos (by omega)]), E⟩ | exact ⟨ret_int (by rw [cmpE, if_neg (by omega), if_neg (by omega)]), E⟩
/-- Lists of numbers compared. -/
def cmpL : List Int → List Int → Int
  | [], [] => 0
  | [], _ :: _ => -1
  | _ :: _, [] => 1
  | x :: xs, y :: ys => if cmpE x y = 0 then cmpL xs ys else cmpE x y
theorem cmpL_go {xs ys : List Int} {i : Nat} (hx : i < xs.length) (hy : i < ys.length) (h : cmpE (xs.getD i 0) (ys.getD i 0) = 0) : cmpL (xs.drop i) (ys.drop i) = cmpL (xs.drop (i + 1)) (ys.drop (i + 1)) := by
  rw [drop_getD xs 0 hx, drop_getD ys 0 hy, cmpL, if_pos h]
theorem cmpL_end {xs ys : List Int} {i : Nat} (hx : i < xs.length) (hy : i < ys.length) (h : cmpE (xs.getD i 0) (ys.getD i 0) ≠ 0) : cmpL (xs.drop i) (ys.drop i) = cmpE (xs.getD i 0) (ys.getD i 0) := by
  rw [drop_getD xs 0 hx, drop_getD ys 0 hy, cmpL, if_neg h]
theorem cmpL_long {xs ys : List Int} {i : Nat} (hx : i < xs.length) (hy : ys.length ≤ i) : cmpL (xs.drop i) (ys.drop i) = 1 := by
  rw [drop_getD xs 0 hx, List.drop_of_length_le hy]; rfl
theorem cmpL_short {xs ys : List Int} {i : Nat} (hx : xs.length ≤ i) (hy : i < ys.length) : cmpL (xs.drop i) (ys.drop i) = -1 := by
  rw [drop_getD ys 0 hy, List.drop_of_length_le hx]; rfl
theorem cmpL_same {xs ys : List Int} {i : Nat} (hx : xs.length ≤ i) (hy : ys.length ≤ i) : cmpL (xs.drop i) (ys.drop i) = 0 := by
  rw [List.drop_of_length_le hy, List.drop_of_length_le hx]; rfl
set_option maxRecDepth 100000 in
theorem compare_any (xs ys : List Int) (a b : Option Addr) (c d : Nat) (w : World) (hx : IsRows w (.slice a xs.length c) 1 (xs.map intRow)) (hy : IsRows w (.slice b ys.length d) 1 (ys.map intRow)) (h1 : xs.length ≤ 1000) (h2 : ys.length ≤ 1000) :
    Calls Try.prog 77 #[.slice a xs.length c, .slice b ys.length d] w fun e w' => e = .returned (.int .i64 (cmpL xs ys)) ∧ Ext [] w w' := by
  have HS := Lib.hid (slAt_of_rows hx 0)
  have HU := Lib.hid (slAt_of_rows hy 0)
  have E : Ext [] w w := Ext.refl _ _
  clear hx hy
  refine calls_has 36 Try.func77 rfl Try.ntmps77 (Nat.le_of_ble_eq_true rfl) ?_
  intro fa F
  refine wp_seq_k fun K1 hK1 => ?_
  refine wp_region_lit ?_
  refine F.vl (R_assign rfl (ev_c fa _)) ?_; clear F fa; intro fa F
  refine wpList_nil ?_
  refine hK1 _ _ ?_
  clear hK1
  refine wp_seq_k fun K2 hK2 => ?_
  refine wp_seq_k fun K3 hK3 => ?_
  refine wp_region_lit ?_
  refine F.mv ?_; clear F fa; intro fa F
  refine F.vl (R_len rfl rfl (F.at rfl) Try.underlying25) ?_; clear F fa; intro fa F
  refine F.vl (R_move rfl (ev_c fa _)) ?_; clear F fa; intro fa F
  refine wpList_nil ?_
  refine hK3 _ _ ?_
  clear hK3
  refine wp_block ?_
  have F0 := F.sub (.c 0 rfl (.c 1 rfl (.c 9 rfl (.c 10 rfl .n))))
  refine lp_for F0 (xs.length) (fun i Lv W => Lv = [(11, .int .i64 ((i : Nat) : Int))] ∧ Ext [] w W ∧ cmpL (xs.drop i) (ys.drop i) = cmpL xs ys ∧ i ≤ ys.length) ⟨_, ⟨rfl, E, rfl, (Nat.zero_le _)⟩, F.sub (.c 11 rfl (.c 0 rfl (.c 1 rfl (.c 9 rfl (.c 10 rfl .n)))))⟩ ?_
  clear F F0
  clear E
  rintro i _ fa w1 hi1 ⟨rfl, E, hc, hiy⟩ F
  refine wp_seq_k fun K4 hK4 => ?_
  refine wp_region_lit ?_
  refine F.vl (R_lss rfl (F.at rfl) (F.at rfl)) ?_; clear F fa; intro fa F
  refine wpList_nil ?_
  refine hK4 _ _ ?_
  clear hK4
  refine wp_seq_k fun K5 hK5 => ?_
  refine cd_if F rfl (fun hc12 => ?_) (fun hc12 => ?_)
  · skip
    refine wp_skip ?_
    refine hK5 _ _ ?_
    clear hK5
    refine wp_seq_k fun K6 hK6 => ?_
    refine wp_block ?_
    refine wp_seq_k fun K7 hK7 => ?_
    refine wp_region_lit ?_
    refine F.mv ?_; clear F fa; intro fa F
    obtain ⟨xb8, xo8, xa8, xr8⟩ := HS.out i (by omega)
    refine F.vl (R_ixSlice (sz := 1) rfl ((F.at rfl).trans (xa8 _ _)) (F.at rfl) Try.underlying25 (by kernel_rfl) (by omega) (by omega)) ?_; clear F fa; intro fa F
    refine F.vl (R_load rfl (F.at rfl) Try.underlying3 rfl (xr8 _ E 0 _ rfl)) ?_; clear F fa; intro fa F
    refine F.as ?_; clear F fa; intro fa F
    refine F.as ?_; clear F fa; intro fa F
    refine wpList_nil ?_
    refine hK7 _ _ ?_
    clear hK7
    refine wp_seq_k fun K9 hK9 => ?_
    refine wp_seq_k fun K10 hK10 => ?_
    refine wp_region_lit ?_
    refine F.mv ?_; clear F fa; intro fa F
    refine F.mv ?_; clear F fa; intro fa F
    refine F.vl (R_len rfl rfl (F.at rfl) Try.underlying25) ?_; clear F fa; intro fa F
    refine F.vl (R_geq rfl (F.at rfl) (F.at rfl)) ?_; clear F fa; intro fa F
    refine wpList_nil ?_
    refine hK10 _ _ ?_
    clear hK10
    refine cd_if F rfl (fun hc19 => ?_) (fun hc19 => ?_)
    · skip
      refine wp_seq_k fun K11 hK11 => ?_
      refine wp_region_lit ?_
      refine F.vl (R_assign rfl (ev_c fa _)) ?_; clear F fa; intro fa F
      refine wpList_nil ?_
      refine hK11 _ _ ?_
      clear hK11
      refine wp_ret ?_
      (try simp only [Exit.inBlock, Exit.then, reduceIte])
      refine rt_v F (rs_1 F rfl rfl) ?_
      exact ⟨ret_int (by rw [← hc, cmpL_long (by omega) (by omega)]), E⟩
    · skip
      refine wp_skip ?_
      refine hK9 _ _ ?_
      clear hK9
      refine wp_seq_k fun K12 hK12 => ?_
      refine wp_region_lit ?_
      refine F.mv ?_; clear F fa; intro fa F
      refine F.mv ?_; clear F fa; intro fa F
      obtain ⟨xb13, xo13, xa13, xr13⟩ := HU.out i (by omega)
      refine F.vl (R_ixSlice (sz := 1) rfl ((F.at rfl).trans (xa13 _ _)) (F.at rfl) Try.underlying25 (by kernel_rfl) (by omega) (by omega)) ?_; clear F fa; intro fa F
      refine F.vl (R_load rfl (F.at rfl) Try.underlying3 rfl (xr13 _ E 0 _ rfl)) ?_; clear F fa; intro fa F
      refine F.as ?_; clear F fa; intro fa F
      refine wpList_nil ?_
      refine hK12 _ _ ?_
      clear hK12
      refine wp_seq_k fun K14 hK14 => ?_
      refine wp_region_lit ?_
      refine F.mv ?_; clear F fa; intro fa F
      refine F.mv ?_; clear F fa; intro fa F
      refine sq_call F rfl (by decide) rfl (R_callV rfl rfl Try.call85 (mpS (F.at rfl) (mpS (F.at rfl) mp0))) (cmp_any (xs.getD i 0) (ys.getD i 0) _) fun e w2 hR => ?_
      obtain ⟨rfl, e9⟩ := hR
      refine ⟨_, rfl, ?_⟩; clear F fa; intro fa F
      replace E := ext_same E (e9)
      clear e9
      refine F.as ?_; clear F fa; intro fa F
      refine wpList_nil ?_
      refine hK14 _ _ ?_
      clear hK14
      refine wp_seq_k fun K15 hK15 => ?_
      refine wp_region_lit ?_
      refine F.mv ?_; clear F fa; intro fa F
      refine F.vl (R_neqD rfl (F.at rfl) (ev_c fa _)) ?_; clear F fa; intro fa F
      refine wpList_nil ?_
      refine hK15 _ _ ?_
      clear hK15
      refine cd_if F rfl (fun hc28 => ?_) (fun hc28 => ?_)
      · skip
        refine wp_seq_k fun K16 hK16 => ?_
        refine wp_region_lit ?_
        refine F.mv ?_; clear F fa; intro fa F
        refine F.as ?_; clear F fa; intro fa F
        refine wpList_nil ?_
        refine hK16 _ _ ?_
        clear hK16
        refine wp_ret ?_
        (try simp only [Exit.inBlock, Exit.then, reduceIte])
        refine rt_v F (rs_1 F rfl rfl) ?_
        exact ⟨ret_int (by rw [← hc, cmpL_end (by omega) (by omega) hc28]), E⟩
      · skip
        have hc28 : cmpE (xs.getD i 0) (ys.getD i 0) = 0 := by omega
        refine wp_skip ?_
        refine hK6 _ _ ?_
        clear hK6
        refine wp_region_lit ?_
        refine F.vl (R_add rfl (F.at rfl) (ev_c fa _) (by omega) (by omega)) ?_; clear F fa; intro fa F
        refine F.mv ?_; clear F fa; intro fa F
        refine wpList_nil ?_
        show _ ∧ _
        exact ⟨by omega, _, ⟨rfl, E, ((cmpL_go (by omega) (by omega) hc28).symm.trans hc), (by omega)⟩, F.sub (.c 11 rfl (.c 0 rfl (.c 1 rfl (.c 9 rfl (.c 10 rfl .n)))))⟩
  · skip
    refine wp_exit ?_
    refine hK2 _ _ ?_
    clear hK2
    refine wp_seq_k fun K17 hK17 => ?_
    refine wp_seq_k fun K18 hK18 => ?_
    refine wp_region_lit ?_
    refine F.mv ?_; clear F fa; intro fa F
    refine F.vl (R_len rfl rfl (F.at rfl) Try.underlying25) ?_; clear F fa; intro fa F
    refine F.mv ?_; clear F fa; intro fa F
    refine F.vl (R_len rfl rfl (F.at rfl) Try.underlying25) ?_; clear F fa; intro fa F
    refine F.vl (R_lss rfl (F.at rfl) (F.at rfl)) ?_; clear F fa; intro fa F
    refine wpList_nil ?_
    refine hK18 _ _ ?_
    clear hK18
    refine cd_if F rfl (fun hc35 => ?_) (fun hc35 => ?_)
    · skip
      refine wp_seq_k fun K19 hK19 => ?_
      refine wp_region_lit ?_
      refine F.vl (R_assign rfl (ev_c fa _)) ?_; clear F fa; intro fa F
      refine wpList_nil ?_
      refine hK19 _ _ ?_
      clear hK19
      refine wp_ret ?_
      (try simp only [Exit.inBlock, Exit.then, reduceIte])
      refine rt_v F (rs_1 F rfl rfl) ?_
      exact ⟨ret_int (by rw [← hc, cmpL_short (by omega) (by omega)]), E⟩
    · skip
      refine wp_skip ?_
      refine hK17 _ _ ?_
      clear hK17
      refine wp_seq_k fun K20 hK20 => ?_
      refine wp_region_lit ?_
      refine F.vl (R_assign rfl (ev_c fa _)) ?_; clear F fa; intro fa F
      refine wpList_nil ?_
      refine hK20 _ _ ?_
      clear hK20
      refine wp_ret ?_
      (try simp only [Exit.inBlock, Exit.then, reduceIte])
      refine rt_v F (rs_1 F rfl rfl) ?_
      exact ⟨ret_int (by rw [← hc, cmpL_same (by omega) (by omega)]), E⟩
end Go.Proofs.Ytdjeecgddbjbeaa
