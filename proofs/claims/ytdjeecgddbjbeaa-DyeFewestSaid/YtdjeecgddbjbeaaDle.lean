/- The walk of Less; the order of recipes. Conditions: lists of one length. -/
import Derived.Test.YtdjeecgddbjbeaaDrl
namespace Go.Proofs.Ytdjeecgddbjbeaa
open Go.RowKit
set_option linter.unusedVariables false
set_option linter.unusedSimpArgs false
def lesL : List Int → List Int → Bool
  | [], [] => false
  | [], _ :: _ => true
  | _ :: _, [] => false
  | x :: xs, y :: ys => if x = y then lesL xs ys else decide (x < y)
theorem lesL_go {xs ys : List Int} {i : Nat} (hx : i < xs.length) (hy : i < ys.length) (h : xs.getD i 0 = ys.getD i 0) : lesL (xs.drop i) (ys.drop i) = lesL (xs.drop (i + 1)) (ys.drop (i + 1)) := by
  rw [drop_getD xs 0 hx, drop_getD ys 0 hy, lesL, if_pos h]
theorem lesL_end {xs ys : List Int} {i : Nat} (hx : i < xs.length) (hy : i < ys.length) (h : ¬ xs.getD i 0 = ys.getD i 0) : lesL (xs.drop i) (ys.drop i) = decide (xs.getD i 0 < ys.getD i 0) := by
  rw [drop_getD xs 0 hx, drop_getD ys 0 hy, lesL, if_neg h]
theorem lesL_asym : ∀ (xs ys : List Int), lesL xs ys = true → lesL ys xs = false
  | [], [], h => by simp [lesL] at h
  | [], _ :: _, _ => rfl
  | _ :: _, [], h => by simp [lesL] at h
  | x :: xs, y :: ys, h => by
    rw [lesL] at h ⊢
    by_cases e : x = y
    · rw [if_pos e] at h; rw [if_pos e.symm]; exact lesL_asym xs ys h
    · rw [if_neg e] at h; rw [if_neg (fun e2 => e e2.symm)]
      have := of_decide_eq_true h
      exact decide_eq_false (by omega)
theorem lesL_irr : ∀ (xs : List Int), lesL xs xs = false
  | [] => rfl
  | x :: xs => by rw [lesL, if_pos rfl]; exact lesL_irr xs
theorem rec_sorted : ∀ nd, nd < 5 → (recL nd).Pairwise fun a b => lesL a b = true := by decide +kernel
theorem mat_sorted {x : Vm} (hd : x.D.length ≤ 4) (s : Nat → Int) (ls : List Int) : (matL x s ls).Pairwise fun a b => lesL a b = true := (rec_sorted _ (by omega)).filter _
theorem less_no {L : List (List Int)} (h : L.Pairwise fun a b => lesL a b = true) {i j : Nat} (hi : i < L.length) (hj : j ≤ i) : lesL (L.getD i []) (L.getD j []) = false := by
  by_cases e : j = i
  · subst e; exact lesL_irr _
  · have := List.pairwise_iff_getElem.1 h j i (by omega) hi (by omega)
    have h2 := lesL_asym _ _ this
    simpa [List.getD_eq_getElem?_getD, List.getElem?_eq_getElem hi, List.getElem?_eq_getElem (show j < L.length by omega)] using h2
set_option maxRecDepth 100000 in
theorem less_any (xs ys : List Int) (he : xs.length = ys.length) (h1 : xs.length ≤ 1000) (a b : Option Addr) (c d : Nat) (w : World) (hx : IsRows w (.slice a xs.length c) 1 (xs.map intRow)) (hy : IsRows w (.slice b ys.length d) 1 (ys.map intRow)) :
    Calls Try.prog 40 #[.slice a xs.length c, .slice b ys.length d] w fun e w' => e = .returned (.bool (lesL xs ys)) ∧ Ext [] w w' := by
  have HS := Lib.hid (slAt_of_rows hx 0)
  have HU := Lib.hid (slAt_of_rows hy 0)
  have E : Ext [] w w := Ext.refl _ _
  clear hx hy
  refine calls_has 41 Try.func40 rfl Try.ntmps40 (Nat.le_of_ble_eq_true rfl) ?_
  intro fa F
  refine wp_seq_k fun K1 hK1 => ?_
  refine wp_region_lit ?_
  refine F.vl (R_assign rfl (ev_c fa _)) ?_; clear F fa; intro fa F
  refine wpList_nil ?_
  refine hK1 _ _ ?_
  clear hK1
  refine wp_seq_k fun K2 hK2 => ?_
  refine wp_seq_k fun K3 hK3 => ?_
  refine wp_region_lit ?_
  refine F.vl (R_assign rfl (ev_c fa _)) ?_; clear F fa; intro fa F
  refine wpList_nil ?_
  refine hK3 _ _ ?_
  clear hK3
  refine wp_block ?_
  have F0 := F.sub (.c 0 rfl (.c 1 rfl .n))
  refine lp_for F0 (xs.length) (fun i Lv W => Lv = [(5, .int .i64 ((i : Nat) : Int))] ∧ Ext [] w W ∧ lesL (xs.drop i) (ys.drop i) = lesL xs ys) ⟨_, ⟨rfl, E, rfl⟩, F.sub (.c 5 rfl (.c 0 rfl (.c 1 rfl .n)))⟩ ?_
  clear F F0
  clear E
  rintro i _ fa w1 hi1 ⟨rfl, E, hc⟩ F
  refine wp_seq_k fun K4 hK4 => ?_
  refine wp_seq_k fun K5 hK5 => ?_
  by_cases hiq : i < xs.length
  · skip
    refine wp_region_lit ?_
    refine F.mv ?_; clear F fa; intro fa F
    refine F.mv ?_; clear F fa; intro fa F
    refine F.vl (R_len rfl rfl (F.at rfl) Try.underlying25) ?_; clear F fa; intro fa F
    refine F.vl (R_lssB (b := true) rfl (F.at rfl) (F.at rfl) (decide_eq_true (by omega))) ?_; clear F fa; intro fa F
    refine F.mv ?_; clear F fa; intro fa F
    refine F.mv ?_ (hw := (wantT F rfl rfl (by decide) rfl)); clear F fa; intro fa F
    refine F.mv ?_ (hw := (wantT F rfl rfl (by decide) rfl)); clear F fa; intro fa F
    refine F.vl (R_len rfl rfl (F.at rfl) Try.underlying25) ?_ (hw := (wantT F rfl rfl (by decide) rfl)); clear F fa; intro fa F
    refine F.vl (R_lssB (b := true) rfl (F.at rfl) (F.at rfl) (decide_eq_true (by omega))) ?_ (hw := (wantT F rfl rfl (by decide) rfl)); clear F fa; intro fa F
    refine F.vl (R_pickT rfl (F.at rfl) (F.at rfl)) ?_; clear F fa; intro fa F
    refine wpList_nil ?_
    refine hK5 _ _ ?_
    clear hK5
    refine cd_T F rfl ?_
    refine wp_skip ?_
    refine hK4 _ _ ?_
    clear hK4
    refine wp_seq_k fun K6 hK6 => ?_
    refine wp_block ?_
    refine wp_seq_k fun K7 hK7 => ?_
    refine wp_region_st 8 follows (by kernel_rfl) fun w2 hh eh => ?_
    replace E := ext_same E eh
    clear hh eh
    refine F.smv ?_; clear F fa; intro fa F
    refine F.smv ?_; clear F fa; intro fa F
    obtain ⟨xb8, xo8, xa8, xr8⟩ := HS.out i (by omega)
    refine F.sv (R_ixSlice (sz := 1) rfl ((F.at rfl).trans (xa8 _ _)) (F.at rfl) Try.underlying25 (by kernel_rfl) (by omega) (by omega)) ?_; clear F fa; intro fa F
    refine F.sv (R_load rfl (F.at rfl) Try.underlying3 rfl (xr8 _ E 0 _ rfl)) ?_; clear F fa; intro fa F
    refine F.smv ?_; clear F fa; intro fa F
    refine F.smv ?_; clear F fa; intro fa F
    obtain ⟨xb9, xo9, xa9, xr9⟩ := HU.out i (by omega)
    refine F.sv (R_ixSlice (sz := 1) rfl ((F.at rfl).trans (xa9 _ _)) (F.at rfl) Try.underlying25 (by kernel_rfl) (by omega) (by omega)) ?_; clear F fa; intro fa F
    refine F.sv (R_load rfl (F.at rfl) Try.underlying3 rfl (xr9 _ E 0 _ rfl)) ?_; clear F fa; intro fa F
    refine wpStill_nil ?_
    refine F.vl (R_neqD rfl (F.at rfl) (F.at rfl)) ?_; clear F fa; intro fa F
    refine wpList_nil ?_
    refine hK7 _ _ ?_
    clear hK7
    refine cd_if F rfl (fun hc26 => ?_) (fun hc26 => ?_)
    · skip
      refine wp_seq_k fun K10 hK10 => ?_
      refine wp_region_st 9 follows (by kernel_rfl) fun w3 hh eh => ?_
      replace E := ext_same E eh
      clear hh eh
      refine F.smv ?_; clear F fa; intro fa F
      refine F.smv ?_; clear F fa; intro fa F
      obtain ⟨xb11, xo11, xa11, xr11⟩ := HS.out i (by omega)
      refine F.sv (R_ixSlice (sz := 1) rfl ((F.at rfl).trans (xa11 _ _)) (F.at rfl) Try.underlying25 (by kernel_rfl) (by omega) (by omega)) ?_; clear F fa; intro fa F
      refine F.sv (R_load rfl (F.at rfl) Try.underlying3 rfl (xr11 _ E 0 _ rfl)) ?_; clear F fa; intro fa F
      refine F.smv ?_; clear F fa; intro fa F
      refine F.smv ?_; clear F fa; intro fa F
      obtain ⟨xb12, xo12, xa12, xr12⟩ := HU.out i (by omega)
      refine F.sv (R_ixSlice (sz := 1) rfl ((F.at rfl).trans (xa12 _ _)) (F.at rfl) Try.underlying25 (by kernel_rfl) (by omega) (by omega)) ?_; clear F fa; intro fa F
      refine F.sv (R_load rfl (F.at rfl) Try.underlying3 rfl (xr12 _ E 0 _ rfl)) ?_; clear F fa; intro fa F
      refine F.sv (R_lss rfl (F.at rfl) (F.at rfl)) ?_; clear F fa; intro fa F
      refine wpStill_nil ?_
      refine F.as ?_; clear F fa; intro fa F
      refine wpList_nil ?_
      refine hK10 _ _ ?_
      clear hK10
      refine wp_ret ?_
      (try simp only [Exit.inBlock, Exit.then, reduceIte])
      refine rt_v F (rs_1 F rfl rfl) ?_
      exact ⟨ret_bool (by rw [← hc, lesL_end (by omega) (by omega) hc26]), E⟩
    · skip
      refine wp_skip ?_
      refine hK6 _ _ ?_
      clear hK6
      refine wp_region_lit ?_
      refine F.mv ?_; clear F fa; intro fa F
      refine F.vl (R_add rfl (F.at rfl) (ev_c fa _) (by omega) (by omega)) ?_; clear F fa; intro fa F
      refine F.as ?_; clear F fa; intro fa F
      refine wpList_nil ?_
      show _ ∧ _
      exact ⟨by omega, _, ⟨rfl, E, ((lesL_go (by omega) (by omega) (Classical.not_not.1 hc26)).symm.trans hc)⟩, F.sub (.c 5 rfl (.c 0 rfl (.c 1 rfl .n)))⟩
  · skip
    refine wp_region_lit ?_
    refine F.mv ?_; clear F fa; intro fa F
    refine F.mv ?_; clear F fa; intro fa F
    refine F.vl (R_len rfl rfl (F.at rfl) Try.underlying25) ?_; clear F fa; intro fa F
    refine F.vl (R_lssB (b := false) rfl (F.at rfl) (F.at rfl) (decide_eq_false (by omega))) ?_; clear F fa; intro fa F
    refine F.mv ?_; clear F fa; intro fa F
    refine sq_no F rfl (by decide) (wantF F rfl rfl (by decide) rfl (by decide)) ?_; clear F fa; intro fa F
    refine sq_no F rfl (by decide) (wantF F rfl rfl (by decide) rfl (by decide)) ?_; clear F fa; intro fa F
    refine sq_no F rfl (by decide) (wantF F rfl rfl (by decide) rfl (by decide)) ?_; clear F fa; intro fa F
    refine sq_no F rfl (by decide) (wantF F rfl rfl (by decide) rfl (by decide)) ?_; clear F fa; intro fa F
    refine F.vl (R_pickF rfl (F.at rfl) (ev_c fa _)) ?_; clear F fa; intro fa F
    refine wpList_nil ?_
    refine hK5 _ _ ?_
    clear hK5
    refine cd_F F rfl ?_
    refine wp_exit ?_
    refine hK2 _ _ ?_
    clear hK2
    refine wp_seq_k fun K13 hK13 => ?_
    refine wp_region_lit ?_
    refine F.mv ?_; clear F fa; intro fa F
    refine F.vl (R_len rfl rfl (F.at rfl) Try.underlying25) ?_; clear F fa; intro fa F
    refine F.mv ?_; clear F fa; intro fa F
    refine F.vl (R_len rfl rfl (F.at rfl) Try.underlying25) ?_; clear F fa; intro fa F
    refine F.vl (R_lss rfl (F.at rfl) (F.at rfl)) ?_; clear F fa; intro fa F
    refine F.as ?_; clear F fa; intro fa F
    refine wpList_nil ?_
    refine hK13 _ _ ?_
    clear hK13
    refine wp_ret ?_
    (try simp only [Exit.inBlock, Exit.then, reduceIte])
    refine rt_v F (rs_1 F rfl rfl) ?_
    exact ⟨ret_bool (by rw [← hc, List.drop_of_length_le (by omega), List.drop_of_length_le (by omega), decide_eq_false (by omega)]; rfl), E⟩
theorem used_eq {l : List Int} (hb : ∀ n ∈ l, 0 ≤ n) : ∀ n, usdN l n = dyeN (val l) n
  | 0 => rfl
  | n + 1 => by
    show rowU _ n + bI (decide (l.getD n 0 ≠ 0)) = sumTo _ n + min (l.getD n 0) 1
    have h1 := used_eq hb n
    rw [usdN, dyeN] at h1
    rw [h1]
    congr 1
    have h0 : 0 ≤ l.getD n 0 := by
      by_cases hn : n < l.length
      · exact hb _ (getD_mem 0 hn)
      · have := val_zero (l := l) (k := n) (by omega); rw [val] at this; omega
    by_cases e : l.getD n 0 = 0
    · rw [e]; rfl
    · rw [decide_eq_true e]; show (1 : Int) = _; omega
theorem used_cF {l : List Int} (h4 : l.length ≤ 4) (hb : ∀ n ∈ l, 0 ≤ n) : usdN l l.length = (cF l).1 ∧ l.sum = (cF l).2 := by
  refine ⟨?_, (sumTo_list l 4 h4).symm⟩
  rw [used_eq hb, cF]
  show sumTo _ l.length = sumTo _ 4
  have key : ∀ n, l.length ≤ n → sumTo (fun k => min (val l k) 1) n = sumTo (fun k => min (val l k) 1) l.length := by
    intro n
    induction n with
    | zero => intro h; rw [show l.length = 0 by omega]
    | succ n ih =>
      intro h
      by_cases e : l.length = n + 1
      · rw [e]
      · show sumTo _ n + min (val l n) 1 = _
        rw [ih (by omega), val_zero (show l.length ≤ n by omega)]; exact Int.add_zero _
  exact (key 4 h4).symm
theorem cmpL_two {a b c d : Int} : cmpL [a, b] [c, d] < 0 ↔ a < c ∨ (a = c ∧ b < d) := by
  simp only [cmpL, cmpE]
  by_cases h1 : a < c
  · simp [h1]
  · by_cases h2 : c < a
    · simp [h1, h2]; omega
    · obtain rfl : a = c := by omega
      by_cases h3 : b < d
      · simp [h3]
      · by_cases h4 : d < b
        · simp [h3, h4]
        · simp [h3, h4]
/-- How far the law has come. -/
def FewAt (L : List (List Int)) (i : Nat) (best : Nat) : Prop := best < L.length ∧ ((i = 0 ∧ best = 0) ∨ (best < i ∧ pickO cF (L.take i) = some (L.getD best [])))
theorem few_take {L : List (List Int)} {i best : Nat} (hi : i < L.length) (h : FewAt L i best) (hb : (cF (L.getD i [])).1 < (cF (L.getD best [])).1 ∨ ((cF (L.getD i [])).1 = (cF (L.getD best [])).1 ∧ (cF (L.getD i [])).2 < (cF (L.getD best [])).2)) : FewAt L (i + 1) i := by
  refine ⟨hi, .inr ⟨by omega, ?_⟩⟩
  rw [take_getD L [] hi, pick_snoc]
  rcases h.2 with ⟨h0, h1⟩ | ⟨h0, h1⟩
  · subst h0; rfl
  · rw [h1, offO, if_pos (cmpL_two.2 hb)]
theorem few_skip {L : List (List Int)} {i best : Nat} (hi : i < L.length) (h : FewAt L i best) (hb : ¬ ((cF (L.getD i [])).1 < (cF (L.getD best [])).1 ∨ ((cF (L.getD i [])).1 = (cF (L.getD best [])).1 ∧ (cF (L.getD i [])).2 < (cF (L.getD best [])).2))) : FewAt L (i + 1) best := by
  refine ⟨h.1, .inr ?_⟩
  rw [take_getD L [] hi, pick_snoc]
  rcases h.2 with ⟨h0, h1⟩ | ⟨h0, h1⟩
  · subst h0; subst h1; exact ⟨by omega, rfl⟩
  · refine ⟨by omega, ?_⟩
    rw [h1, offO, if_neg (fun h => hb (cmpL_two.1 h))]
theorem few_end {x : Vm} {s : Nat → Int} {ls : List Int} {best i : Nat} (hd : x.D.length ≤ 4) (hi : (matL x s ls).length ≤ i) (h0 : 0 < i) (h : FewAt (matL x s ls) i best) : fewR x s ls = ((matL x s ls).getD best [], 0) := by
  rcases h.2 with ⟨h1, -⟩ | ⟨-, h1⟩
  · omega
  · rw [List.take_of_length_le hi] at h1
    have hm := getD_memL (α := List Int) [] h.1
    have hl := ((recL_all x.D.length (by omega)).2 _ (List.mem_filter.1 hm).1).1
    rw [fewR, h1]
    show (cutL _ _, (0 : Int)) = _
    rw [cutL_val hl]
end Go.Proofs.Ytdjeecgddbjbeaa
