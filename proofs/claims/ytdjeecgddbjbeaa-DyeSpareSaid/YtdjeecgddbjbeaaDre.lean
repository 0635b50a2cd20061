/- The walk of the iterator over all recipes. Conditions: at most four dyes. -/
import Derived.Test.YtdjeecgddbjbeaaDrd
namespace Go.Proofs.Ytdjeecgddbjbeaa
open Go.RowKit
set_option linter.unusedVariables false
set_option linter.unusedSimpArgs false
section
variable (x : Vm) (hd4 : x.D.length ≤ 4) (X : List Nat) (ob nb yb tb gb l B0 : Nat) (J : List (List Int) → World → Prop) (xs : List (List Int))
set_option maxRecDepth 100000 in
theorem from_end (hY : ∀ pre q V, J pre V → pre ++ [q] <+: xs → YieldAt Fence.wide 0 Try.prog l #[.agg (tubC (val q))] V fun e V' => e = .returned (.bool true) ∧ J (pre ++ [q]) V' ∧ KeepR X ob V V')
    (left : Nat) (hl : left ≤ 6) (p : List Int) (hp : p.length = x.D.length) (g : Nat → Int) (hag : Agr x.D.length g p) (pre : List (List Int)) (W : World) (hJ : J pre W) (hx : pre ++ frL 0 left p <+: xs) (hb : ItB x X ob nb yb tb gb l g W) :
    Calls Try.prog 103 #[.int .i64 ((p.length : Nat) : Int), .int .i64 ((left : Nat) : Int), .pointer (some ⟨nb, 0, none⟩), .pointer (some ⟨yb, 0, none⟩), .pointer (some ⟨tb, 0, none⟩), .pointer (some ⟨gb, 0, none⟩)] W fun e W' => e = .returned (.bool true) ∧ J (pre ++ frL 0 left p) W' ∧ ∃ g', Agr x.D.length g' p ∧ ItB x X ob nb yb tb gb l g' W' := by
  have HY := Lib.hid hY
  obtain ⟨q2, q3, q4, q5, sn, sy, st, sg⟩ := hb
  rw [hag.tub hp] at q4
  by_cases h6 : left = 6
  · have hfr : frL 0 left p = [] := by rw [frL, if_pos h6]
    rw [hfr] at hx ⊢
    rw [List.append_nil]
    clear hY
    refine calls_hasW 40 Try.func103 rfl Try.ntmps103 (Nat.le_of_ble_eq_true rfl) ?_
    intro fa F
    refine wpIn_seq_k fun K1 hK1 => ?_
    refine wpIn_region_lit ?_
    refine F.vlW (R_assign rfl (ev_c fa _)) ?_; clear F fa; intro fa F
    refine wpListIn_nil ?_
    refine hK1 _ _ ?_
    clear hK1
    refine wpIn_seq_k fun K2 hK2 => ?_
    refine wpIn_seq_k fun K3 hK3 => ?_
    refine wpIn_region_lit ?_
    refine F.mvW ?_; clear F fa; intro fa F
    refine F.vlW (R_field rfl (F.at rfl) Try.underlying80 rfl (n := 0) (sz := 4) rfl (by kernel_rfl) (by decide)) ?_; clear F fa; intro fa F
    refine F.vlW (R_field rfl (F.at rfl) Try.underlying24 rfl (n := 1) (sz := 1) rfl (by kernel_rfl) (by decide)) ?_; clear F fa; intro fa F
    refine F.vlW (R_load rfl (F.at rfl) Try.underlying22 rfl ((cells_of_block q2 1).trans (getS (get0)))) ?_; clear F fa; intro fa F
    refine F.vlW (R_len rfl rfl (F.at rfl) Try.underlying22) ?_; clear F fa; intro fa F
    refine F.vlW (R_eqlD rfl (F.at rfl) (F.at rfl)) ?_; clear F fa; intro fa F
    refine wpListIn_nil ?_
    refine hK3 _ _ ?_
    clear hK3
    refine cdI_Tb F rfl (decide_eq_true (by omega)) ?_
    refine wpIn_seq_k fun K4 hK4 => ?_
    refine wpIn_region_lit ?_
    refine F.mvW ?_; clear F fa; intro fa F
    refine F.vlW (R_eqlB (b := true) rfl (F.at rfl) (ev_c fa _) (decide_eq_true ((by omega)))) ?_; clear F fa; intro fa F
    refine F.mvW ?_; clear F fa; intro fa F
    refine si_no F rfl (by decide) (wantF F rfl rfl (by decide) rfl (by decide)) ?_; clear F fa; intro fa F
    refine si_no F rfl (by decide) (wantF F rfl rfl (by decide) rfl (by decide)) ?_; clear F fa; intro fa F
    refine si_no F rfl (by decide) (wantF F rfl rfl (by decide) rfl (by decide)) ?_; clear F fa; intro fa F
    refine F.vlW (R_pickT rfl (F.at rfl) (ev_c fa _)) ?_; clear F fa; intro fa F
    refine F.asW ?_; clear F fa; intro fa F
    refine wpListIn_nil ?_
    refine hK4 _ _ ?_
    clear hK4
    refine wpIn_ret ?_
    (try simp only [Exit.inBlock, Exit.then, reduceIte])
    refine rt_v F (rs_1 F rfl rfl) ?_
    exact ⟨rfl, hJ, _, ⟨fun j hj => rfl, fun j hj => (by rw [val, List.getD_eq_getElem?_getD, List.getElem?_eq_none (by omega)]; rfl)⟩, q2, q3, q4, q5, sn, sy, st, sg⟩
  · have hfr : frL 0 left p = [p] := by rw [frL, if_neg h6]
    rw [hfr] at hx ⊢
    clear hY
    refine calls_hasW 40 Try.func103 rfl Try.ntmps103 (Nat.le_of_ble_eq_true rfl) ?_
    intro fa F
    refine wpIn_seq_k fun K1 hK1 => ?_
    refine wpIn_region_lit ?_
    refine F.vlW (R_assign rfl (ev_c fa _)) ?_; clear F fa; intro fa F
    refine wpListIn_nil ?_
    refine hK1 _ _ ?_
    clear hK1
    refine wpIn_seq_k fun K2 hK2 => ?_
    refine wpIn_seq_k fun K3 hK3 => ?_
    refine wpIn_region_lit ?_
    refine F.mvW ?_; clear F fa; intro fa F
    refine F.vlW (R_field rfl (F.at rfl) Try.underlying80 rfl (n := 0) (sz := 4) rfl (by kernel_rfl) (by decide)) ?_; clear F fa; intro fa F
    refine F.vlW (R_field rfl (F.at rfl) Try.underlying24 rfl (n := 1) (sz := 1) rfl (by kernel_rfl) (by decide)) ?_; clear F fa; intro fa F
    refine F.vlW (R_load rfl (F.at rfl) Try.underlying22 rfl ((cells_of_block q2 1).trans (getS (get0)))) ?_; clear F fa; intro fa F
    refine F.vlW (R_len rfl rfl (F.at rfl) Try.underlying22) ?_; clear F fa; intro fa F
    refine F.vlW (R_eqlD rfl (F.at rfl) (F.at rfl)) ?_; clear F fa; intro fa F
    refine wpListIn_nil ?_
    refine hK3 _ _ ?_
    clear hK3
    refine cdI_Tb F rfl (decide_eq_true (by omega)) ?_
    refine wpIn_seq_k fun K4 hK4 => ?_
    refine wpIn_region_lit ?_
    refine F.mvW ?_; clear F fa; intro fa F
    refine F.vlW (R_eqlB (b := false) rfl (F.at rfl) (ev_c fa _) (decide_eq_false ((by omega)))) ?_; clear F fa; intro fa F
    refine F.mvW ?_; clear F fa; intro fa F
    refine F.vlW (R_load rfl (F.at rfl) Try.underlying131 rfl ((cells_of_block q3 0).trans (get0))) ?_ (hw := (wantT F rfl rfl (by decide) rfl)); clear F fa; intro fa F
    refine F.vlW (R_loadBlk rfl (F.at rfl) Try.underlying83 rfl (by kernel_rfl) q4) ?_ (hw := (wantT F rfl rfl (by decide) rfl)); clear F fa; intro fa F
    obtain ⟨fn, tmps, assign, body, hyy, hR0⟩ := HY.out pre p W hJ hx
    refine si_yield F rfl (by decide) (wantT F rfl rfl (by decide) rfl) (R_yield rfl (F.at rfl) (mpS (F.at rfl) mp0) hyy) (hR0) fun e w1 hR => ?_
    obtain ⟨rfl, hJ, hk⟩ := hR
    refine ⟨_, rfl, ?_⟩; clear F fa; intro fa F
    refine F.vlW (R_pickF rfl (F.at rfl) (F.at rfl)) ?_; clear F fa; intro fa F
    refine F.asW ?_; clear F fa; intro fa F
    refine wpListIn_nil ?_
    refine hK4 _ _ ?_
    clear hK4
    refine wpIn_ret ?_
    (try simp only [Exit.inBlock, Exit.then, reduceIte])
    refine rt_v F (rs_1 F rfl rfl) ?_
    have hb2 := ItB.keep ⟨q2, q3, q4, q5, sn, sy, st, sg⟩ hk
    exact ⟨rfl, hJ, _, ⟨fun j hj => rfl, fun j hj => (by rw [val, List.getD_eq_getElem?_getD, List.getElem?_eq_none (by omega)]; rfl)⟩, hb2⟩
theorem grown_cell {w w2 : World} {b o : Nat} {v : Value} (e : w2 = w.setCell ⟨b, o, none⟩ v) : w.grownBy w2 (some b) := by
  rw [e]
  exact ⟨rfl, rfl, rfl, (KeepsWalks.setCell w _ v).size, fun k _ hk => Below.heap_setCell _ _ _ k (fun e => hk (by rw [e]))⟩
theorem heap_other {w w2 : World} {b o k : Nat} {v : Value} (e : w2 = w.setCell ⟨b, o, none⟩ v) (h : k ≠ b) : w2.heap[k]? = w.heap[k]? := by
  rw [e]; exact Below.heap_setCell _ _ _ k h
set_option maxRecDepth 100000 in
set_option maxHeartbeats 1000000 in
include hd4 in
theorem from_step (hB0 : B0 ≤ tb) (hnt : nb ≠ tb) (hyt : yb ≠ tb) (hgt : gb ≠ tb)
    (HJ : Hid (∀ s U V r, J s U → Safe X ob r U → B0 ≤ r → (∃ o : Obj, U.heap[r]? = some o ∧ o.isCells = true) → U.grownBy V (some r) → J s V))
    (more : Nat) (IH : Hid (∀ (left : Nat), left ≤ 6 → ∀ (p : List Int), p.length + more = x.D.length → ∀ (g : Nat → Int), Agr x.D.length g p → ∀ (pre : List (List Int)) (W : World), J pre W → pre ++ frL more left p <+: xs → ItB x X ob nb yb tb gb l g W →
      Calls Try.prog 103 #[.int .i64 ((p.length : Nat) : Int), .int .i64 ((left : Nat) : Int), .pointer (some ⟨nb, 0, none⟩), .pointer (some ⟨yb, 0, none⟩), .pointer (some ⟨tb, 0, none⟩), .pointer (some ⟨gb, 0, none⟩)] W fun e W' => e = .returned (.bool true) ∧ J (pre ++ frL more left p) W' ∧ ∃ g', Agr x.D.length g' p ∧ ItB x X ob nb yb tb gb l g' W'))
    (left : Nat) (hl : left ≤ 6) (p : List Int) (hp : p.length + (more + 1) = x.D.length) (g : Nat → Int) (hag : Agr x.D.length g p) (pre : List (List Int)) (W : World) (hJ : J pre W) (hx : pre ++ frL (more + 1) left p <+: xs) (hb : ItB x X ob nb yb tb gb l g W) :
    Calls Try.prog 103 #[.int .i64 ((p.length : Nat) : Int), .int .i64 ((left : Nat) : Int), .pointer (some ⟨nb, 0, none⟩), .pointer (some ⟨yb, 0, none⟩), .pointer (some ⟨tb, 0, none⟩), .pointer (some ⟨gb, 0, none⟩)] W fun e W' => e = .returned (.bool true) ∧ J (pre ++ frL (more + 1) left p) W' ∧ ∃ g', Agr x.D.length g' p ∧ ItB x X ob nb yb tb gb l g' W' := by
  obtain ⟨q2, q3, q4, q5, sn, sy, st, sg⟩ := hb
  have hsto := st.2.1
  obtain ⟨fs, hfs⟩ : ∃ fs : Nat → List (List Int), fs = fun n => frL more (left - n) (p ++ [(n : Int)]) := ⟨_, rfl⟩
  have hfr : frL (more + 1) left p = (List.range (left + 1)).flatMap fs := by rw [hfs]; rfl
  rw [hfr] at hx ⊢
  have hJ : J (pre ++ (List.range 0).flatMap fs) W := by simpa using hJ
  have HX := Lib.hid hx
  clear hfr hx
  refine calls_has 40 Try.func103 rfl Try.ntmps103 (Nat.le_of_ble_eq_true rfl) ?_
  intro fa F
  refine wp_seq_k fun K1 hK1 => ?_
  refine wp_region_lit ?_
  refine F.vl (R_assign rfl (ev_c fa _)) ?_; clear F fa; intro fa F
  refine wpList_nil ?_
  refine hK1 _ _ ?_
  clear hK1
  refine wp_seq_k fun K2 hK2 => ?_
  refine wp_seq_k fun K3 hK3 => ?_
  refine wp_region_lit ?_
  refine F.mv ?_; clear F fa; intro fa F
  refine F.vl (R_field rfl (F.at rfl) Try.underlying80 rfl (n := 0) (sz := 4) rfl (by kernel_rfl) (by decide)) ?_; clear F fa; intro fa F
  refine F.vl (R_field rfl (F.at rfl) Try.underlying24 rfl (n := 1) (sz := 1) rfl (by kernel_rfl) (by decide)) ?_; clear F fa; intro fa F
  refine F.vl (R_load rfl (F.at rfl) Try.underlying22 rfl ((cells_of_block q2 1).trans (getS (get0)))) ?_; clear F fa; intro fa F
  refine F.vl (R_len rfl rfl (F.at rfl) Try.underlying22) ?_; clear F fa; intro fa F
  refine F.vl (R_eqlD rfl (F.at rfl) (F.at rfl)) ?_; clear F fa; intro fa F
  refine wpList_nil ?_
  refine hK3 _ _ ?_
  clear hK3
  refine cd_Fb F rfl (decide_eq_false (by omega)) ?_
  refine wp_skip ?_
  refine hK2 _ _ ?_
  clear hK2
  refine wp_seq_k fun K4 hK4 => ?_
  refine wp_seq_k fun K5 hK5 => ?_
  refine wp_region_lit ?_
  refine F.mv ?_; clear F fa; intro fa F
  refine F.vl (R_add rfl (F.at rfl) (ev_c fa _) (by omega) (by omega)) ?_; clear F fa; intro fa F
  refine F.vl (R_move rfl (ev_c fa _)) ?_; clear F fa; intro fa F
  refine wpList_nil ?_
  refine hK5 _ _ ?_
  clear hK5
  refine wp_block ?_
  have F0 := F.sub (.c 0 rfl (.c 1 rfl (.c 4 rfl (.c 5 rfl (.c 24 rfl .n)))))
  refine lp_for F0 (left + 1) (fun i Lv W => ∃ g : Nat → Int, Lv = [(25, .int .i64 ((i : Nat) : Int))] ∧ W.heap[nb]? = some (.cells #[.int .i64 x.B, .slice x.da x.D.length x.dc, .slice x.la x.L.length x.lc, .int .i64 x.tol] 80 (0, 0)) ∧ W.heap[yb]? = some (.cells #[.func (.yield l) #[] #[]] 131 (0, 0)) ∧ W.heap[tb]? = some (.cells (tubC g) 83 (0, 0)) ∧ W.heap[gb]? = some (.cells #[.func (.func 103) #[] #[.pointer (some ⟨nb, 0, none⟩), .pointer (some ⟨yb, 0, none⟩), .pointer (some ⟨tb, 0, none⟩), .pointer (some ⟨gb, 0, none⟩)]] 132 (0, 0)) ∧ Agr x.D.length g p ∧ J (pre ++ (List.range i).flatMap fs) W ∧ Safe X ob nb W ∧ Safe X ob yb W ∧ Safe X ob tb W ∧ Safe X ob gb W) ⟨_, ⟨g, rfl, q2, q3, q4, q5, hag, hJ, sn, sy, st, sg⟩, F.sub (.c 25 rfl (.c 0 rfl (.c 1 rfl (.c 4 rfl (.c 5 rfl (.c 24 rfl .n))))))⟩ ?_
  clear F F0
  clear q2 q3 q4 q5
  rintro i _ fa w1 hi1 ⟨g, rfl, q2, q3, q4, q5, hag, hJ, sn, sy, st, sg⟩ F
  refine wp_seq_k fun K6 hK6 => ?_
  refine wp_region_lit ?_
  refine F.vl (R_lss rfl (F.at rfl) (F.at rfl)) ?_; clear F fa; intro fa F
  refine wpList_nil ?_
  refine hK6 _ _ ?_
  clear hK6
  refine wp_seq_k fun K7 hK7 => ?_
  refine cd_if F rfl (fun hc26 => ?_) (fun hc26 => ?_)
  · skip
    refine wp_skip ?_
    refine hK7 _ _ ?_
    clear hK7
    refine wp_seq_k fun K8 hK8 => ?_
    refine wp_block ?_
    refine wp_seq_k fun K9 hK9 => ?_
    refine wp_region_lit ?_
    refine F.mv ?_; clear F fa; intro fa F
    refine F.as ?_; clear F fa; intro fa F
    refine wpList_nil ?_
    refine hK9 _ _ ?_
    clear hK9
    refine wp_seq_k fun K10 hK10 => ?_
    refine wp_region_lit ?_
    refine F.mv ?_; clear F fa; intro fa F
    refine F.mv ?_; clear F fa; intro fa F
    refine F.vl (R_ixArr (n := 4) (sz := 1) rfl (F.at rfl) (F.at rfl) Try.underlying83 (by kernel_rfl) (by omega) (by omega)) ?_; clear F fa; intro fa F
    refine sq_to rfl rfl (R_store rfl (F.at rfl) (F.at rfl) rfl (by kernel_rfl) (tub_at q4 (k := p.length) rfl (by omega)) (free_of_block q4 _)) ?_; intro w2 hw
    have hJ2 := HJ.out _ _ _ tb hJ st hB0 ⟨_, q4, rfl⟩ (grown_cell hw)
    have ho := heap_other (k := ob) hw (Ne.symm hsto)
    replace sn := sn.same ho
    replace sy := sy.same ho
    replace st := st.same ho
    replace sg := sg.same ho
    replace q2 := keep_cell hw q2 (by omega)
    replace q3 := keep_cell hw q3 (by omega)
    replace q4 := put_tub hw q4 (k := p.length) rfl (by omega)
    replace q5 := keep_cell hw q5 (by omega)
    clear hw
    refine wpList_nil ?_
    have hag2 := hag.step (by omega) ((i : Nat) : Int)
    refine hK10 _ _ ?_
    clear hK10
    refine wp_seq_k fun K11 hK11 => ?_
    refine wp_region_lit ?_
    refine F.vl (R_load rfl (F.at rfl) Try.underlying132 rfl ((cells_of_block q5 0).trans (get0))) ?_; clear F fa; intro fa F
    refine F.mv ?_; clear F fa; intro fa F
    refine F.vl (R_add rfl (F.at rfl) (ev_c fa _) (by omega) (by omega)) ?_; clear F fa; intro fa F
    refine F.mv ?_; clear F fa; intro fa F
    refine F.mv ?_; clear F fa; intro fa F
    refine F.vl (R_sub rfl (F.at rfl) (F.at rfl) (by omega) (by omega)) ?_; clear F fa; intro fa F
    rw [show (((p.length : Nat) : Int) + 1) = (((p ++ [((i : Nat) : Int)]).length : Nat) : Int) by simp, show (((left : Nat) : Int) - ((i : Nat) : Int)) = ((left - i : Nat) : Int) by omega] at F
    have hpx : (pre ++ (List.range i).flatMap fs) ++ frL more (left - i) (p ++ [((i : Nat) : Int)]) <+: xs := by refine List.IsPrefix.trans ?_ HX.out; rw [List.append_assoc, show frL more (left - i) (p ++ [((i : Nat) : Int)]) = fs i by rw [hfs], ← flat_succ]; exact (List.prefix_append_right_inj _).2 (flat_prefix fs (by omega))
    refine sq_call F rfl (by decide) rfl (R_callF rfl (F.at rfl) Try.call103 (mpS (F.at rfl) (mpS (F.at rfl) mp0)) (by simp)) (IH.out (left - i) (by omega) (p ++ [((i : Nat) : Int)]) (by simp only [List.length_append, List.length_singleton]; omega) _ hag2 _ _ hJ2 hpx ⟨q2, q3, q4, q5, sn, sy, st, sg⟩) fun e w3 hR => ?_
    obtain ⟨rfl, hJ3, g2, hag3, q2, q3, q4, q5, sn, sy, st, sg⟩ := hR
    refine ⟨_, rfl, ?_⟩; clear F fa; intro fa F
    refine F.vl (R_not rfl (F.at rfl)) ?_; clear F fa; intro fa F
    refine wpList_nil ?_
    replace hag3 := hag3.back
    have hJ4 : J (pre ++ (List.range (i + 1)).flatMap fs) w3 := by rw [flat_succ, ← List.append_assoc, show fs i = frL more (left - i) (p ++ [((i : Nat) : Int)]) by rw [hfs]]; exact hJ3
    refine hK11 _ _ ?_
    clear hK11
    refine cd_F F rfl ?_
    refine wp_skip ?_
    refine hK8 _ _ ?_
    clear hK8
    refine wp_region_lit ?_
    refine F.vl (R_add rfl (F.at rfl) (ev_c fa _) (by omega) (by omega)) ?_; clear F fa; intro fa F
    refine F.mv ?_; clear F fa; intro fa F
    refine wpList_nil ?_
    show _ ∧ _
    exact ⟨by omega, _, ⟨g2, rfl, q2, q3, q4, q5, hag3, hJ4, sn, sy, st, sg⟩, F.sub (.c 25 rfl (.c 0 rfl (.c 1 rfl (.c 4 rfl (.c 5 rfl (.c 24 rfl .n))))))⟩
  · skip
    refine wp_exit ?_
    refine hK4 _ _ ?_
    clear hK4
    refine wp_seq_k fun K12 hK12 => ?_
    refine wp_region_lit ?_
    refine F.vl (R_assign rfl (ev_c fa _)) ?_; clear F fa; intro fa F
    refine wpList_nil ?_
    refine hK12 _ _ ?_
    clear hK12
    refine wp_ret ?_
    (try simp only [Exit.inBlock, Exit.then, reduceIte])
    refine rt_v F (rs_1 F rfl rfl) ?_
    have hi : i = left + 1 := (by omega)
    exact ⟨rfl, (by rw [← hi]; exact hJ), g, hag, q2, q3, q4, q5, sn, sy, st, sg⟩
end
end Go.Proofs.Ytdjeecgddbjbeaa
