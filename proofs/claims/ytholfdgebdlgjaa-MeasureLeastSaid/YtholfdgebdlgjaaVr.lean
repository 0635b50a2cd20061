/- The walks of grown, pulls, right and ends. Conditions: valid tapes; as many measures as there are. -/
import Derived.Test.YtholfdgebdlgjaaVo
namespace Go.Proofs.Ytholfdgebdlgjaa
open Go.RowKit
set_option linter.unusedVariables false
set_option linter.unusedSimpArgs false
def CellG (t : Tp) (m : List Int) (s a : Int) : Prop := t.bl ≤ m.getD (s * t.A + a).toNat 0 ∧ m.getD (s * t.A + a).toNat 0 ≤ t.bm ∧
  (0 < a → (t.gr.getD s.toNat (0, 0)).1 ≤ m.getD (s * t.A + a).toNat 0 - m.getD (s * t.A + a - 1).toNat 0 ∧ m.getD (s * t.A + a).toNat 0 - m.getD (s * t.A + a - 1).toNat 0 ≤ (t.gr.getD s.toNat (0, 0)).2)
def LinkG (t : Tp) (m : List Int) (l : Int × Int × Int × Int × Int × Int) : Prop :=
  l.2.2.2.2.1 ≤ m.getD (l.1 * t.A + l.2.1).toNat 0 - m.getD (l.2.2.1 * t.A + l.2.2.2.1).toNat 0 ∧ m.getD (l.1 * t.A + l.2.1).toNat 0 - m.getD (l.2.2.1 * t.A + l.2.2.2.1).toNat 0 ≤ l.2.2.2.2.2
def growP (t : Tp) (m : List Int) : Prop := (∀ s a : Nat, (s : Int) < t.S → (a : Int) < t.A → CellG t m s a) ∧ ∀ i, i < t.lk.length → LinkG t m (t.lk.getD i (0, 0, 0, 0, 0, 0))
theorem idx_in {S A s a : Int} (s0 : 0 ≤ s) (s1 : s < S) (a0 : 0 ≤ a) (a1 : a < A) (hS : S ≤ 3) (hA : A ≤ 3) : 0 ≤ s * A ∧ s * A ≤ 6 ∧ s * A + a < S * A ∧ S * A ≤ 9 := by
  have h1 : s * A + A ≤ S * A := by
    have := Int.mul_le_mul_of_nonneg_right (show s + 1 ≤ S by omega) (show 0 ≤ A by omega)
    rw [Int.add_mul, Int.one_mul] at this
    exact this
  have h2 : S * A ≤ 3 * A := Int.mul_le_mul_of_nonneg_right hS (by omega)
  have h3 : 0 ≤ s * A := Int.mul_nonneg s0 (by omega)
  have h4 : s * A ≤ 2 * A := Int.mul_le_mul_of_nonneg_right (by omega) (by omega)
  omega
theorem m_small {m : List Int} (h : ∀ x ∈ m, -100000 ≤ x ∧ x ≤ 100000) (i : Nat) : -100000 ≤ m.getD i 0 ∧ m.getD i 0 ≤ 100000 := by
  by_cases hi : i < m.length
  · exact h _ (getD_mem 0 hi)
  · rw [List.getD_eq_getElem?_getD, List.getElem?_eq_none (by omega)]
    decide
set_option maxRecDepth 100000 in
set_option maxHeartbeats 1000000 in
theorem grown_any {t : Tp} (ok : t.Ok) (m : List Int) (hm : (m.length : Int) = t.S * t.A) (hs : ∀ x ∈ m, -100000 ≤ x ∧ x ≤ 100000) (ga ra la ma : Option Addr) (gc rc lc mc : Nat) (w : World)
    (ht : IsTp w (.slice ga t.gr.length gc) (.slice ra t.rd.length rc) (.slice la t.lk.length lc) t) (hmr : IsRows w (.slice ma m.length mc) 1 (m.map intRow)) :
    Calls Try.prog 107 #[tpV t (.slice ga t.gr.length gc) (.slice ra t.rd.length rc) (.slice la t.lk.length lc), .slice ma m.length mc] w fun e w' => ∃ b : Bool, e = .returned (.bool b) ∧ (b = true ↔ growP t m) ∧ Ext [] w w' := by
  have E : Ext [] w w := Ext.refl _ _
  have HG := Lib.hid (slAt_of_rows ht.gr (0, 0))
  have HL := Lib.hid (slAt_of_rows ht.lk (0, 0, 0, 0, 0, 0))
  have HM := Lib.hid (slAt_of_rows hmr 0)
  have hsm := Lib.hid (m_small hs)
  have o1 := ok.S1
  have o2 := ok.S3
  have o3 := ok.A1
  have o4 := ok.A3
  have o5 := ok.grl
  have o6 := ok.lkl
  have o7 := ok.bl1
  have o8 := ok.bm1
  have o9 := ok.b
  have hgr := Lib.hid ok.gr
  have hlk := Lib.hid ok.lk
  clear ht hmr hs ok
  unfold tpV
  refine calls_has 137 Try.func107 rfl Try.ntmps107 (Nat.le_of_ble_eq_true rfl) ?_
  intro fa F
  refine wp_seq_k fun K1 hK1 => ?_
  refine wp_region_lit ?_
  refine sq_new F rfl (by decide) rfl (R_box rfl (F.at rfl)) ?_; clear F fa; intro fa w1 F hw
  obtain ⟨n2, hn⟩ : ∃ n, n = w.heap.size := ⟨_, rfl⟩
  rw [← hn] at F
  have s2 : w.heap.size ≤ n2 := Nat.le_of_eq hn.symm
  have l2_E : w.heap.size ≤ n2 := by rw [hn]; exact E.size
  replace E := ext_alloc E hw
  have q2 := new_row hw hn
  clear hw hn
  refine F.vl (R_assign rfl (ev_c fa _)) ?_; clear F fa; intro fa F
  refine wpList_nil ?_
  refine hK1 _ _ ?_
  clear hK1
  refine wp_seq_k fun K2 hK2 => ?_
  refine wp_seq_k fun K3 hK3 => ?_
  refine wp_region_lit ?_
  refine F.vl (R_assign rfl (ev_c fa _)) ?_; clear F fa; intro fa F
  refine wpList_nil ?_
  refine hK3 _ _ ?_
  clear hK3
  refine wp_block ?_
  have F0 := F.sub (.c 1 rfl (.c 2 rfl .n))
  refine lp_for F0 (t.S.toNat) (fun i Lv W => Lv = [(5, .int .i64 ((i : Nat) : Int))] ∧ Ext [] w1 W ∧ Hid (∀ s a : Nat, s < i → (a : Int) < t.A → CellG t m s a)) ⟨_, ⟨rfl, Ext.refl _ _, Lib.hid fun s a h => absurd h (by omega)⟩, F.sub (.c 5 rfl (.c 1 rfl (.c 2 rfl .n)))⟩ ?_
  clear F F0
  rintro i _ fa w2 hi1 ⟨rfl, EL1, hS⟩ F
  have q2 := EL1.keep0 q2
  have E := E.nil EL1
  refine wp_seq_k fun K4 hK4 => ?_
  refine wp_seq_k fun K5 hK5 => ?_
  refine wp_region_lit ?_
  refine F.mv ?_; clear F fa; intro fa F
  refine F.vl (R_field rfl (F.at rfl) Try.underlying28 rfl (n := 0) (sz := 1) rfl (by kernel_rfl) (by decide)) ?_; clear F fa; intro fa F
  refine F.vl (R_load rfl (F.at rfl) Try.underlying3 rfl ((cells_of_block q2 0).trans (get0))) ?_; clear F fa; intro fa F
  refine F.vl (R_lss rfl (F.at rfl) (F.at rfl)) ?_; clear F fa; intro fa F
  refine wpList_nil ?_
  refine hK5 _ _ ?_
  clear hK5
  refine cd_if F rfl (fun hc14 => ?_) (fun hc14 => ?_)
  · skip
    refine wp_skip ?_
    refine hK4 _ _ ?_
    clear hK4
    refine wp_seq_k fun K6 hK6 => ?_
    refine wp_block ?_
    refine wp_seq_k fun K7 hK7 => ?_
    refine wp_region_lit ?_
    refine F.vl (R_assign rfl (ev_c fa _)) ?_; clear F fa; intro fa F
    refine wpList_nil ?_
    refine hK7 _ _ ?_
    clear hK7
    refine wp_block ?_
    have F0 := F.sub (.c 1 rfl (.c 2 rfl (.c 5 rfl .n)))
    refine lp_for F0 (t.A.toNat) (fun j Lv W => Lv = [(6, .int .i64 ((j : Nat) : Int))] ∧ Ext [] w2 W ∧ Hid (∀ a : Nat, a < j → CellG t m i a)) ⟨_, ⟨rfl, Ext.refl _ _, Lib.hid fun a h => absurd h (by omega)⟩, F.sub (.c 6 rfl (.c 1 rfl (.c 2 rfl (.c 5 rfl .n))))⟩ ?_
    clear F F0
    rintro j _ fa w3 hi2 ⟨rfl, EL2, hA⟩ F
    have q2 := EL2.keep0 q2
    have E := E.nil EL2
    have EL1 := EL1.nil EL2
    refine wp_seq_k fun K8 hK8 => ?_
    refine wp_seq_k fun K9 hK9 => ?_
    refine wp_region_lit ?_
    refine F.mv ?_; clear F fa; intro fa F
    refine F.vl (R_field rfl (F.at rfl) Try.underlying28 rfl (n := 1) (sz := 1) rfl (by kernel_rfl) (by decide)) ?_; clear F fa; intro fa F
    refine F.vl (R_load rfl (F.at rfl) Try.underlying3 rfl ((cells_of_block q2 1).trans (getS (get0)))) ?_; clear F fa; intro fa F
    refine F.vl (R_lss rfl (F.at rfl) (F.at rfl)) ?_; clear F fa; intro fa F
    refine wpList_nil ?_
    refine hK9 _ _ ?_
    clear hK9
    refine cd_if F rfl (fun hc20 => ?_) (fun hc20 => ?_)
    · skip
      refine wp_skip ?_
      refine hK8 _ _ ?_
      clear hK8
      refine wp_seq_k fun K10 hK10 => ?_
      refine wp_block ?_
      refine wp_seq_k fun K11 hK11 => ?_
      obtain ⟨x1, x2, x3, x4⟩ := idx_in (S := t.S) (A := t.A) (s := (i : Int)) (a := (j : Int)) (by omega) (by omega) (by omega) (by omega) (by omega) (by omega)
      refine wp_region_lit ?_
      refine F.mv ?_; clear F fa; intro fa F
      refine F.mv ?_; clear F fa; intro fa F
      refine F.vl (R_field rfl (F.at rfl) Try.underlying28 rfl (n := 1) (sz := 1) rfl (by kernel_rfl) (by decide)) ?_; clear F fa; intro fa F
      refine F.vl (R_load rfl (F.at rfl) Try.underlying3 rfl ((cells_of_block q2 1).trans (getS (get0)))) ?_; clear F fa; intro fa F
      refine F.vl (R_mul rfl (F.at rfl) (F.at rfl) (by omega) (by omega)) ?_; clear F fa; intro fa F
      refine F.mv ?_; clear F fa; intro fa F
      refine F.vl (R_add rfl (F.at rfl) (F.at rfl) (by omega) (by omega)) ?_; clear F fa; intro fa F
      obtain ⟨xb12, xo12, xa12, xr12⟩ := HM.out (((((i : Nat) : Int) * t.A) + ((j : Nat) : Int)).toNat) (by omega)
      refine F.vl (R_ixSlice (sz := 1) rfl ((F.at rfl).trans (xa12 _ _)) (F.at rfl) Try.underlying29 (by kernel_rfl) (by omega) (by omega)) ?_; clear F fa; intro fa F
      refine F.vl (R_load rfl (F.at rfl) Try.underlying3 rfl (xr12 _ E 0 _ rfl)) ?_; clear F fa; intro fa F
      refine F.as ?_; clear F fa; intro fa F
      refine wpList_nil ?_
      refine hK11 _ _ ?_
      clear hK11
      refine wp_seq_k fun K13 hK13 => ?_
      have y1 := hsm.out ((i : Int) * t.A + (j : Int)).toNat
      have y2 := hsm.out ((i : Int) * t.A + (j : Int) - 1).toNat
      have y3 := hgr.out _ (getD_mem (0, 0) (show i < t.gr.length by omega))
      refine wp_region_st 57 follows (by kernel_rfl) fun w4 hh eh => ?_
      replace q2 := keep_same hh q2
      replace E := ext_same E eh
      replace EL1 := ext_same EL1 eh
      replace EL2 := ext_same EL2 eh
      clear hh eh
      refine F.smv ?_; clear F fa; intro fa F
      refine F.sv (R_field rfl (F.at rfl) Try.underlying28 rfl (n := 3) (sz := 2) rfl (by kernel_rfl) (by decide)) ?_; clear F fa; intro fa F
      refine F.sv (R_field rfl (F.at rfl) Try.underlying23 rfl (n := 3) (sz := 1) rfl (by kernel_rfl) (by decide)) ?_; clear F fa; intro fa F
      refine F.sv (R_load rfl (F.at rfl) Try.underlying3 rfl ((cells_of_block q2 3).trans (getS (getS (getS (get0)))))) ?_; clear F fa; intro fa F
      refine F.sv (R_lss rfl (F.at rfl) (F.at rfl)) ?_; clear F fa; intro fa F
      refine F.smv ?_; clear F fa; intro fa F
      by_cases hg1 : ((m.getD (((((i : Nat) : Int) * t.A) + ((j : Nat) : Int)).toNat) 0) < t.bl)
      · skip
        replace F := F.re (k := 37) rfl (congrArg Value.bool (decide_eq_true hg1))
        refine st_no F rfl (by decide) (wantF F rfl rfl (by decide) rfl (by decide)) ?_; clear F fa; intro fa F
        refine st_no F rfl (by decide) (wantF F rfl rfl (by decide) rfl (by decide)) ?_; clear F fa; intro fa F
        refine st_no F rfl (by decide) (wantF F rfl rfl (by decide) rfl (by decide)) ?_; clear F fa; intro fa F
        refine st_no F rfl (by decide) (wantF F rfl rfl (by decide) rfl (by decide)) ?_; clear F fa; intro fa F
        refine st_no F rfl (by decide) (wantF F rfl rfl (by decide) rfl (by decide)) ?_; clear F fa; intro fa F
        refine F.sv (R_pickT rfl (F.at rfl) (ev_c fa _)) ?_; clear F fa; intro fa F
        refine F.smv ?_; clear F fa; intro fa F
        refine st_no F rfl (by decide) (wantF F rfl rfl (by decide) rfl (by decide)) ?_; clear F fa; intro fa F
        refine st_no F rfl (by decide) (wantF F rfl rfl (by decide) rfl (by decide)) ?_; clear F fa; intro fa F
        refine st_no F rfl (by decide) (wantF F rfl rfl (by decide) rfl (by decide)) ?_; clear F fa; intro fa F
        refine st_no F rfl (by decide) (wantU F rfl rfl (by decide) rfl) ?_; clear F fa; intro fa F
        refine st_no F rfl (by decide) (wantU F rfl rfl (by decide) rfl) ?_; clear F fa; intro fa F
        refine st_no F rfl (by decide) (wantU F rfl rfl (by decide) rfl) ?_; clear F fa; intro fa F
        refine st_no F rfl (by decide) (wantU F rfl rfl (by decide) rfl) ?_; clear F fa; intro fa F
        refine st_no F rfl (by decide) (wantU F rfl rfl (by decide) rfl) ?_; clear F fa; intro fa F
        refine st_no F rfl (by decide) (wantU F rfl rfl (by decide) rfl) ?_; clear F fa; intro fa F
        refine st_no F rfl (by decide) (wantU F rfl rfl (by decide) rfl) ?_; clear F fa; intro fa F
        refine st_no F rfl (by decide) (wantU F rfl rfl (by decide) rfl) ?_; clear F fa; intro fa F
        refine st_no F rfl (by decide) (wantU F rfl rfl (by decide) rfl) ?_; clear F fa; intro fa F
        refine st_no F rfl (by decide) (wantU F rfl rfl (by decide) rfl) ?_; clear F fa; intro fa F
        refine st_no F rfl (by decide) (wantU F rfl rfl (by decide) rfl) ?_; clear F fa; intro fa F
        refine st_no F rfl (by decide) (wantU F rfl rfl (by decide) rfl) ?_; clear F fa; intro fa F
        refine st_no F rfl (by decide) (wantU F rfl rfl (by decide) rfl) ?_; clear F fa; intro fa F
        refine st_no F rfl (by decide) (wantU F rfl rfl (by decide) rfl) ?_; clear F fa; intro fa F
        refine st_no F rfl (by decide) (wantU F rfl rfl (by decide) rfl) ?_; clear F fa; intro fa F
        refine st_no F rfl (by decide) (wantU F rfl rfl (by decide) rfl) ?_; clear F fa; intro fa F
        refine st_no F rfl (by decide) (wantU F rfl rfl (by decide) rfl) ?_; clear F fa; intro fa F
        refine st_no F rfl (by decide) (wantU F rfl rfl (by decide) rfl) ?_; clear F fa; intro fa F
        refine st_no F rfl (by decide) (wantU F rfl rfl (by decide) rfl) ?_; clear F fa; intro fa F
        refine st_no F rfl (by decide) (wantU F rfl rfl (by decide) rfl) ?_; clear F fa; intro fa F
        refine st_no F rfl (by decide) (wantU F rfl rfl (by decide) rfl) ?_; clear F fa; intro fa F
        refine st_no F rfl (by decide) (wantU F rfl rfl (by decide) rfl) ?_; clear F fa; intro fa F
        refine st_no F rfl (by decide) (wantU F rfl rfl (by decide) rfl) ?_; clear F fa; intro fa F
        refine st_no F rfl (by decide) (wantU F rfl rfl (by decide) rfl) ?_; clear F fa; intro fa F
        refine st_no F rfl (by decide) (wantU F rfl rfl (by decide) rfl) ?_; clear F fa; intro fa F
        refine st_no F rfl (by decide) (wantU F rfl rfl (by decide) rfl) ?_; clear F fa; intro fa F
        refine st_no F rfl (by decide) (wantU F rfl rfl (by decide) rfl) ?_; clear F fa; intro fa F
        refine st_no F rfl (by decide) (wantU F rfl rfl (by decide) rfl) ?_; clear F fa; intro fa F
        refine st_no F rfl (by decide) (wantU F rfl rfl (by decide) rfl) ?_; clear F fa; intro fa F
        refine st_no F rfl (by decide) (wantU F rfl rfl (by decide) rfl) ?_; clear F fa; intro fa F
        refine st_no F rfl (by decide) (wantU F rfl rfl (by decide) rfl) ?_; clear F fa; intro fa F
        refine st_no F rfl (by decide) (wantU F rfl rfl (by decide) rfl) ?_; clear F fa; intro fa F
        refine st_no F rfl (by decide) (wantU F rfl rfl (by decide) rfl) ?_; clear F fa; intro fa F
        refine st_no F rfl (by decide) (wantU F rfl rfl (by decide) rfl) ?_; clear F fa; intro fa F
        refine st_no F rfl (by decide) (wantU F rfl rfl (by decide) rfl) ?_; clear F fa; intro fa F
        refine st_no F rfl (by decide) (wantU F rfl rfl (by decide) rfl) ?_; clear F fa; intro fa F
        refine st_no F rfl (by decide) (wantU F rfl rfl (by decide) rfl) ?_; clear F fa; intro fa F
        refine st_no F rfl (by decide) (wantU F rfl rfl (by decide) rfl) ?_; clear F fa; intro fa F
        refine st_no F rfl (by decide) (wantU F rfl rfl (by decide) rfl) ?_; clear F fa; intro fa F
        refine st_no F rfl (by decide) (wantU F rfl rfl (by decide) rfl) ?_; clear F fa; intro fa F
        refine st_no F rfl (by decide) (wantF F rfl rfl (by decide) rfl (by decide)) ?_; clear F fa; intro fa F
        refine wpStill_nil ?_
        refine F.vl (R_pickT rfl (F.at rfl) (ev_c fa _)) ?_; clear F fa; intro fa F
        refine wpList_nil ?_
        refine hK13 _ _ ?_
        clear hK13
        refine cd_T F rfl ?_
        refine wp_seq_k fun K14 hK14 => ?_
        replace F := F.sub .n
        clear q2
        refine wp_region_lit ?_
        refine F.vl (R_assign rfl (ev_c fa _)) ?_; clear F fa; intro fa F
        refine wpList_nil ?_
        have hno : ¬ growP t m := fun h => by have q := h.1 i j (by omega) (by omega); unfold CellG at q; rw [Int.toNat_natCast] at q; omega
        refine hK14 _ _ ?_
        clear hK14
        refine wp_ret ?_
        (try simp only [Exit.inBlock, Exit.then])
        refine rt_v F (rs_1 F rfl rfl) ?_
        first | exact ⟨true, rfl, iff_of_true rfl hyes, E⟩ | exact ⟨false, rfl, iff_of_false (by decide) hno, E⟩
      · skip
        replace F := F.re (k := 37) rfl (congrArg Value.bool (decide_eq_false hg1))
        refine F.smv ?_ (hw := (wantT F rfl rfl (by decide) rfl)); clear F fa; intro fa F
        refine F.sv (R_field rfl (F.at rfl) Try.underlying28 rfl (n := 3) (sz := 2) rfl (by kernel_rfl) (by decide)) ?_ (hw := (wantT F rfl rfl (by decide) rfl)); clear F fa; intro fa F
        refine F.sv (R_field rfl (F.at rfl) Try.underlying23 rfl (n := 4) (sz := 1) rfl (by kernel_rfl) (by decide)) ?_ (hw := (wantT F rfl rfl (by decide) rfl)); clear F fa; intro fa F
        refine F.sv (R_load rfl (F.at rfl) Try.underlying3 rfl ((cells_of_block q2 4).trans (getS (getS (getS (getS (get0))))))) ?_ (hw := (wantT F rfl rfl (by decide) rfl)); clear F fa; intro fa F
        refine F.sv (R_gtr rfl (F.at rfl) (F.at rfl)) ?_ (hw := (wantT F rfl rfl (by decide) rfl)); clear F fa; intro fa F
        refine F.sv (R_pickF rfl (F.at rfl) (F.at rfl)) ?_; clear F fa; intro fa F
        refine F.smv ?_; clear F fa; intro fa F
        by_cases hg2 : (t.bm < (m.getD (((((i : Nat) : Int) * t.A) + ((j : Nat) : Int)).toNat) 0))
        · skip
          replace F := F.re (k := 44) rfl (congrArg Value.bool (decide_eq_true hg2))
          refine st_no F rfl (by decide) (wantF F rfl rfl (by decide) rfl (by decide)) ?_; clear F fa; intro fa F
          refine st_no F rfl (by decide) (wantF F rfl rfl (by decide) rfl (by decide)) ?_; clear F fa; intro fa F
          refine st_no F rfl (by decide) (wantF F rfl rfl (by decide) rfl (by decide)) ?_; clear F fa; intro fa F
          refine st_no F rfl (by decide) (wantU F rfl rfl (by decide) rfl) ?_; clear F fa; intro fa F
          refine st_no F rfl (by decide) (wantU F rfl rfl (by decide) rfl) ?_; clear F fa; intro fa F
          refine st_no F rfl (by decide) (wantU F rfl rfl (by decide) rfl) ?_; clear F fa; intro fa F
          refine st_no F rfl (by decide) (wantU F rfl rfl (by decide) rfl) ?_; clear F fa; intro fa F
          refine st_no F rfl (by decide) (wantU F rfl rfl (by decide) rfl) ?_; clear F fa; intro fa F
          refine st_no F rfl (by decide) (wantU F rfl rfl (by decide) rfl) ?_; clear F fa; intro fa F
          refine st_no F rfl (by decide) (wantU F rfl rfl (by decide) rfl) ?_; clear F fa; intro fa F
          refine st_no F rfl (by decide) (wantU F rfl rfl (by decide) rfl) ?_; clear F fa; intro fa F
          refine st_no F rfl (by decide) (wantU F rfl rfl (by decide) rfl) ?_; clear F fa; intro fa F
          refine st_no F rfl (by decide) (wantU F rfl rfl (by decide) rfl) ?_; clear F fa; intro fa F
          refine st_no F rfl (by decide) (wantU F rfl rfl (by decide) rfl) ?_; clear F fa; intro fa F
          refine st_no F rfl (by decide) (wantU F rfl rfl (by decide) rfl) ?_; clear F fa; intro fa F
          refine st_no F rfl (by decide) (wantU F rfl rfl (by decide) rfl) ?_; clear F fa; intro fa F
          refine st_no F rfl (by decide) (wantU F rfl rfl (by decide) rfl) ?_; clear F fa; intro fa F
          refine st_no F rfl (by decide) (wantU F rfl rfl (by decide) rfl) ?_; clear F fa; intro fa F
          refine st_no F rfl (by decide) (wantU F rfl rfl (by decide) rfl) ?_; clear F fa; intro fa F
          refine st_no F rfl (by decide) (wantU F rfl rfl (by decide) rfl) ?_; clear F fa; intro fa F
          refine st_no F rfl (by decide) (wantU F rfl rfl (by decide) rfl) ?_; clear F fa; intro fa F
          refine st_no F rfl (by decide) (wantU F rfl rfl (by decide) rfl) ?_; clear F fa; intro fa F
          refine st_no F rfl (by decide) (wantU F rfl rfl (by decide) rfl) ?_; clear F fa; intro fa F
          refine st_no F rfl (by decide) (wantU F rfl rfl (by decide) rfl) ?_; clear F fa; intro fa F
          refine st_no F rfl (by decide) (wantU F rfl rfl (by decide) rfl) ?_; clear F fa; intro fa F
          refine st_no F rfl (by decide) (wantU F rfl rfl (by decide) rfl) ?_; clear F fa; intro fa F
          refine st_no F rfl (by decide) (wantU F rfl rfl (by decide) rfl) ?_; clear F fa; intro fa F
          refine st_no F rfl (by decide) (wantU F rfl rfl (by decide) rfl) ?_; clear F fa; intro fa F
          refine st_no F rfl (by decide) (wantU F rfl rfl (by decide) rfl) ?_; clear F fa; intro fa F
          refine st_no F rfl (by decide) (wantU F rfl rfl (by decide) rfl) ?_; clear F fa; intro fa F
          refine st_no F rfl (by decide) (wantU F rfl rfl (by decide) rfl) ?_; clear F fa; intro fa F
          refine st_no F rfl (by decide) (wantU F rfl rfl (by decide) rfl) ?_; clear F fa; intro fa F
          refine st_no F rfl (by decide) (wantU F rfl rfl (by decide) rfl) ?_; clear F fa; intro fa F
          refine st_no F rfl (by decide) (wantU F rfl rfl (by decide) rfl) ?_; clear F fa; intro fa F
          refine st_no F rfl (by decide) (wantU F rfl rfl (by decide) rfl) ?_; clear F fa; intro fa F
          refine st_no F rfl (by decide) (wantU F rfl rfl (by decide) rfl) ?_; clear F fa; intro fa F
          refine st_no F rfl (by decide) (wantU F rfl rfl (by decide) rfl) ?_; clear F fa; intro fa F
          refine st_no F rfl (by decide) (wantU F rfl rfl (by decide) rfl) ?_; clear F fa; intro fa F
          refine st_no F rfl (by decide) (wantU F rfl rfl (by decide) rfl) ?_; clear F fa; intro fa F
          refine st_no F rfl (by decide) (wantU F rfl rfl (by decide) rfl) ?_; clear F fa; intro fa F
          refine st_no F rfl (by decide) (wantU F rfl rfl (by decide) rfl) ?_; clear F fa; intro fa F
          refine st_no F rfl (by decide) (wantU F rfl rfl (by decide) rfl) ?_; clear F fa; intro fa F
          refine st_no F rfl (by decide) (wantU F rfl rfl (by decide) rfl) ?_; clear F fa; intro fa F
          refine st_no F rfl (by decide) (wantF F rfl rfl (by decide) rfl (by decide)) ?_; clear F fa; intro fa F
          refine wpStill_nil ?_
          refine F.vl (R_pickT rfl (F.at rfl) (ev_c fa _)) ?_; clear F fa; intro fa F
          refine wpList_nil ?_
          refine hK13 _ _ ?_
          clear hK13
          refine cd_T F rfl ?_
          refine wp_seq_k fun K15 hK15 => ?_
          replace F := F.sub .n
          clear q2
          refine wp_region_lit ?_
          refine F.vl (R_assign rfl (ev_c fa _)) ?_; clear F fa; intro fa F
          refine wpList_nil ?_
          have hno : ¬ growP t m := fun h => by have q := h.1 i j (by omega) (by omega); unfold CellG at q; rw [Int.toNat_natCast] at q; omega
          refine hK15 _ _ ?_
          clear hK15
          refine wp_ret ?_
          (try simp only [Exit.inBlock, Exit.then])
          refine rt_v F (rs_1 F rfl rfl) ?_
          first | exact ⟨true, rfl, iff_of_true rfl hyes, E⟩ | exact ⟨false, rfl, iff_of_false (by decide) hno, E⟩
        · skip
          replace F := F.re (k := 44) rfl (congrArg Value.bool (decide_eq_false hg2))
          refine F.smv ?_ (hw := (wantT F rfl rfl (by decide) rfl)); clear F fa; intro fa F
          refine F.sv (R_gtr rfl (F.at rfl) (ev_c fa _)) ?_ (hw := (wantT F rfl rfl (by decide) rfl)); clear F fa; intro fa F
          refine F.smv ?_ (hw := (wantT F rfl rfl (by decide) rfl)); clear F fa; intro fa F
          by_cases hg3 : (0 < ((j : Nat) : Int))
          · skip
            replace F := F.re (k := 47) rfl (congrArg Value.bool (decide_eq_true hg3))
            refine F.smv ?_ (hw := (wantT F rfl rfl (by decide) rfl)); clear F fa; intro fa F
            refine F.smv ?_ (hw := (wantT F rfl rfl (by decide) rfl)); clear F fa; intro fa F
            refine F.smv ?_ (hw := (wantT F rfl rfl (by decide) rfl)); clear F fa; intro fa F
            refine F.sv (R_field rfl (F.at rfl) Try.underlying28 rfl (n := 1) (sz := 1) rfl (by kernel_rfl) (by decide)) ?_ (hw := (wantT F rfl rfl (by decide) rfl)); clear F fa; intro fa F
            refine F.sv (R_load rfl (F.at rfl) Try.underlying3 rfl ((cells_of_block q2 1).trans (getS (get0)))) ?_ (hw := (wantT F rfl rfl (by decide) rfl)); clear F fa; intro fa F
            refine F.sv (R_mul rfl (F.at rfl) (F.at rfl) (by omega) (by omega)) ?_ (hw := (wantT F rfl rfl (by decide) rfl)); clear F fa; intro fa F
            refine F.smv ?_ (hw := (wantT F rfl rfl (by decide) rfl)); clear F fa; intro fa F
            refine F.sv (R_add rfl (F.at rfl) (F.at rfl) (by omega) (by omega)) ?_ (hw := (wantT F rfl rfl (by decide) rfl)); clear F fa; intro fa F
            refine F.sv (R_sub rfl (F.at rfl) (ev_c fa _) (by omega) (by omega)) ?_ (hw := (wantT F rfl rfl (by decide) rfl)); clear F fa; intro fa F
            obtain ⟨xb16, xo16, xa16, xr16⟩ := HM.out ((((((i : Nat) : Int) * t.A) + ((j : Nat) : Int)) - 1).toNat) (by omega)
            refine F.sv (R_ixSlice (sz := 1) rfl ((F.at rfl).trans (xa16 _ _)) (F.at rfl) Try.underlying29 (by kernel_rfl) (by omega) (by omega)) ?_ (hw := (wantT F rfl rfl (by decide) rfl)); clear F fa; intro fa F
            refine F.sv (R_load rfl (F.at rfl) Try.underlying3 rfl (xr16 _ E 0 _ rfl)) ?_ (hw := (wantT F rfl rfl (by decide) rfl)); clear F fa; intro fa F
            refine F.sv (R_sub rfl (F.at rfl) (F.at rfl) (by omega) (by omega)) ?_ (hw := (wantT F rfl rfl (by decide) rfl)); clear F fa; intro fa F
            refine F.sv (R_field rfl (F.at rfl) Try.underlying28 rfl (n := 8) (sz := 1) rfl (by kernel_rfl) (by decide)) ?_ (hw := (wantT F rfl rfl (by decide) rfl)); clear F fa; intro fa F
            refine F.sv (R_load rfl (F.at rfl) Try.underlying24 rfl ((cells_of_block q2 8).trans (getS (getS (getS (getS (getS (getS (getS (getS (get0))))))))))) ?_ (hw := (wantT F rfl rfl (by decide) rfl)); clear F fa; intro fa F
            refine F.smv ?_ (hw := (wantT F rfl rfl (by decide) rfl)); clear F fa; intro fa F
            obtain ⟨xb17, xo17, xa17, xr17⟩ := HG.out i (by omega)
            refine F.sv (R_ixSlice (sz := 2) rfl ((F.at rfl).trans (xa17 _ _)) (F.at rfl) Try.underlying24 (by kernel_rfl) (by omega) (by omega)) ?_ (hw := (wantT F rfl rfl (by decide) rfl)); clear F fa; intro fa F
            refine F.sv (R_field rfl (F.at rfl) Try.underlying23 rfl (n := xo17 + ((i : Nat) : Int).toNat * 2 + 0) (sz := 1) rfl (by kernel_rfl) (by decide)) ?_ (hw := (wantT F rfl rfl (by decide) rfl)); clear F fa; intro fa F
            refine F.sv (R_load rfl (F.at rfl) Try.underlying3 rfl (xr17 _ E 0 _ rfl)) ?_ (hw := (wantT F rfl rfl (by decide) rfl)); clear F fa; intro fa F
            refine F.sv (R_lss rfl (F.at rfl) (F.at rfl)) ?_ (hw := (wantT F rfl rfl (by decide) rfl)); clear F fa; intro fa F
            refine F.smv ?_ (hw := (wantT F rfl rfl (by decide) rfl)); clear F fa; intro fa F
            by_cases hg4 : (((m.getD (((((i : Nat) : Int) * t.A) + ((j : Nat) : Int)).toNat) 0) - (m.getD ((((((i : Nat) : Int) * t.A) + ((j : Nat) : Int)) - 1).toNat) 0)) < ((t.gr.getD i (0, 0)).1))
            · skip
              replace F := F.re (k := 67) rfl (congrArg Value.bool (decide_eq_true hg4))
              refine st_no F rfl (by decide) (wantF F rfl rfl (by decide) rfl (by decide)) ?_; clear F fa; intro fa F
              refine st_no F rfl (by decide) (wantF F rfl rfl (by decide) rfl (by decide)) ?_; clear F fa; intro fa F
              refine st_no F rfl (by decide) (wantF F rfl rfl (by decide) rfl (by decide)) ?_; clear F fa; intro fa F
              refine st_no F rfl (by decide) (wantF F rfl rfl (by decide) rfl (by decide)) ?_; clear F fa; intro fa F
              refine st_no F rfl (by decide) (wantF F rfl rfl (by decide) rfl (by decide)) ?_; clear F fa; intro fa F
              refine st_no F rfl (by decide) (wantF F rfl rfl (by decide) rfl (by decide)) ?_; clear F fa; intro fa F
              refine st_no F rfl (by decide) (wantF F rfl rfl (by decide) rfl (by decide)) ?_; clear F fa; intro fa F
              refine st_no F rfl (by decide) (wantF F rfl rfl (by decide) rfl (by decide)) ?_; clear F fa; intro fa F
              refine st_no F rfl (by decide) (wantF F rfl rfl (by decide) rfl (by decide)) ?_; clear F fa; intro fa F
              refine st_no F rfl (by decide) (wantF F rfl rfl (by decide) rfl (by decide)) ?_; clear F fa; intro fa F
              refine st_no F rfl (by decide) (wantF F rfl rfl (by decide) rfl (by decide)) ?_; clear F fa; intro fa F
              refine st_no F rfl (by decide) (wantF F rfl rfl (by decide) rfl (by decide)) ?_; clear F fa; intro fa F
              refine st_no F rfl (by decide) (wantF F rfl rfl (by decide) rfl (by decide)) ?_; clear F fa; intro fa F
              refine st_no F rfl (by decide) (wantF F rfl rfl (by decide) rfl (by decide)) ?_; clear F fa; intro fa F
              refine st_no F rfl (by decide) (wantF F rfl rfl (by decide) rfl (by decide)) ?_; clear F fa; intro fa F
              refine st_no F rfl (by decide) (wantF F rfl rfl (by decide) rfl (by decide)) ?_; clear F fa; intro fa F
              refine st_no F rfl (by decide) (wantF F rfl rfl (by decide) rfl (by decide)) ?_; clear F fa; intro fa F
              refine st_no F rfl (by decide) (wantF F rfl rfl (by decide) rfl (by decide)) ?_; clear F fa; intro fa F
              refine st_no F rfl (by decide) (wantF F rfl rfl (by decide) rfl (by decide)) ?_; clear F fa; intro fa F
              refine F.sv (R_pickT rfl (F.at rfl) (ev_c fa _)) ?_ (hw := (wantT F rfl rfl (by decide) rfl)); clear F fa; intro fa F
              refine F.sv (R_pickT rfl (F.at rfl) (F.at rfl)) ?_ (hw := (wantT F rfl rfl (by decide) rfl)); clear F fa; intro fa F
              refine wpStill_nil ?_
              refine F.vl (R_pickF rfl (F.at rfl) (F.at rfl)) ?_; clear F fa; intro fa F
              refine wpList_nil ?_
              refine hK13 _ _ ?_
              clear hK13
              refine cd_T F rfl ?_
              refine wp_seq_k fun K18 hK18 => ?_
              replace F := F.sub .n
              clear q2
              refine wp_region_lit ?_
              refine F.vl (R_assign rfl (ev_c fa _)) ?_; clear F fa; intro fa F
              refine wpList_nil ?_
              have hno : ¬ growP t m := fun h => by have q := h.1 i j (by omega) (by omega); unfold CellG at q; rw [Int.toNat_natCast] at q; omega
              refine hK18 _ _ ?_
              clear hK18
              refine wp_ret ?_
              (try simp only [Exit.inBlock, Exit.then])
              refine rt_v F (rs_1 F rfl rfl) ?_
              first | exact ⟨true, rfl, iff_of_true rfl hyes, E⟩ | exact ⟨false, rfl, iff_of_false (by decide) hno, E⟩
            · skip
              replace F := F.re (k := 67) rfl (congrArg Value.bool (decide_eq_false hg4))
              refine F.smv ?_ (hw := (wantT F rfl rfl (by decide) rfl)); clear F fa; intro fa F
              refine F.smv ?_ (hw := (wantT F rfl rfl (by decide) rfl)); clear F fa; intro fa F
              refine F.smv ?_ (hw := (wantT F rfl rfl (by decide) rfl)); clear F fa; intro fa F
              refine F.sv (R_field rfl (F.at rfl) Try.underlying28 rfl (n := 1) (sz := 1) rfl (by kernel_rfl) (by decide)) ?_ (hw := (wantT F rfl rfl (by decide) rfl)); clear F fa; intro fa F
              refine F.sv (R_load rfl (F.at rfl) Try.underlying3 rfl ((cells_of_block q2 1).trans (getS (get0)))) ?_ (hw := (wantT F rfl rfl (by decide) rfl)); clear F fa; intro fa F
              refine F.sv (R_mul rfl (F.at rfl) (F.at rfl) (by omega) (by omega)) ?_ (hw := (wantT F rfl rfl (by decide) rfl)); clear F fa; intro fa F
              refine F.smv ?_ (hw := (wantT F rfl rfl (by decide) rfl)); clear F fa; intro fa F
              refine F.sv (R_add rfl (F.at rfl) (F.at rfl) (by omega) (by omega)) ?_ (hw := (wantT F rfl rfl (by decide) rfl)); clear F fa; intro fa F
              refine F.sv (R_sub rfl (F.at rfl) (ev_c fa _) (by omega) (by omega)) ?_ (hw := (wantT F rfl rfl (by decide) rfl)); clear F fa; intro fa F
              obtain ⟨xb19, xo19, xa19, xr19⟩ := HM.out ((((((i : Nat) : Int) * t.A) + ((j : Nat) : Int)) - 1).toNat) (by omega)
              refine F.sv (R_ixSlice (sz := 1) rfl ((F.at rfl).trans (xa19 _ _)) (F.at rfl) Try.underlying29 (by kernel_rfl) (by omega) (by omega)) ?_ (hw := (wantT F rfl rfl (by decide) rfl)); clear F fa; intro fa F
              refine F.sv (R_load rfl (F.at rfl) Try.underlying3 rfl (xr19 _ E 0 _ rfl)) ?_ (hw := (wantT F rfl rfl (by decide) rfl)); clear F fa; intro fa F
              refine F.sv (R_sub rfl (F.at rfl) (F.at rfl) (by omega) (by omega)) ?_ (hw := (wantT F rfl rfl (by decide) rfl)); clear F fa; intro fa F
              refine F.sv (R_field rfl (F.at rfl) Try.underlying28 rfl (n := 8) (sz := 1) rfl (by kernel_rfl) (by decide)) ?_ (hw := (wantT F rfl rfl (by decide) rfl)); clear F fa; intro fa F
              refine F.sv (R_load rfl (F.at rfl) Try.underlying24 rfl ((cells_of_block q2 8).trans (getS (getS (getS (getS (getS (getS (getS (getS (get0))))))))))) ?_ (hw := (wantT F rfl rfl (by decide) rfl)); clear F fa; intro fa F
              refine F.smv ?_ (hw := (wantT F rfl rfl (by decide) rfl)); clear F fa; intro fa F
              obtain ⟨xb20, xo20, xa20, xr20⟩ := HG.out i (by omega)
              refine F.sv (R_ixSlice (sz := 2) rfl ((F.at rfl).trans (xa20 _ _)) (F.at rfl) Try.underlying24 (by kernel_rfl) (by omega) (by omega)) ?_ (hw := (wantT F rfl rfl (by decide) rfl)); clear F fa; intro fa F
              refine F.sv (R_field rfl (F.at rfl) Try.underlying23 rfl (n := xo20 + ((i : Nat) : Int).toNat * 2 + 1) (sz := 1) rfl (by kernel_rfl) (by decide)) ?_ (hw := (wantT F rfl rfl (by decide) rfl)); clear F fa; intro fa F
              refine F.sv (R_load rfl (F.at rfl) Try.underlying3 rfl (xr20 _ E 1 _ rfl)) ?_ (hw := (wantT F rfl rfl (by decide) rfl)); clear F fa; intro fa F
              refine F.sv (R_gtr rfl (F.at rfl) (F.at rfl)) ?_ (hw := (wantT F rfl rfl (by decide) rfl)); clear F fa; intro fa F
              refine F.sv (R_pickF rfl (F.at rfl) (F.at rfl)) ?_ (hw := (wantT F rfl rfl (by decide) rfl)); clear F fa; intro fa F
              refine F.sv (R_pickT rfl (F.at rfl) (F.at rfl)) ?_ (hw := (wantT F rfl rfl (by decide) rfl)); clear F fa; intro fa F
              refine wpStill_nil ?_
              refine F.vl (R_pickF rfl (F.at rfl) (F.at rfl)) ?_; clear F fa; intro fa F
              refine wpList_nil ?_
              refine hK13 _ _ ?_
              clear hK13
              refine cd_if F rfl (fun hc89 => ?_) (fun hc89 => ?_)
              · skip
                refine wp_seq_k fun K21 hK21 => ?_
                replace F := F.sub .n
                clear q2
                refine wp_region_lit ?_
                refine F.vl (R_assign rfl (ev_c fa _)) ?_; clear F fa; intro fa F
                refine wpList_nil ?_
                have hno : ¬ growP t m := fun h => by have q := h.1 i j (by omega) (by omega); unfold CellG at q; rw [Int.toNat_natCast] at q; omega
                refine hK21 _ _ ?_
                clear hK21
                refine wp_ret ?_
                (try simp only [Exit.inBlock, Exit.then])
                refine rt_v F (rs_1 F rfl rfl) ?_
                first | exact ⟨true, rfl, iff_of_true rfl hyes, E⟩ | exact ⟨false, rfl, iff_of_false (by decide) hno, E⟩
              · skip
                refine wp_skip ?_
                refine hK10 _ _ ?_
                clear hK10
                replace F := F.sub (.c 1 rfl (.c 2 rfl (.c 5 rfl (.c 6 rfl .n))))
                refine wp_region_lit ?_
                refine F.mv ?_; clear F fa; intro fa F
                refine F.vl (R_add rfl (F.at rfl) (ev_c fa _) (by omega) (by omega)) ?_; clear F fa; intro fa F
                refine F.as ?_; clear F fa; intro fa F
                refine wpList_nil ?_
                have hcell : CellG t m i j := ⟨by omega, by omega, fun h0 => ⟨by rw [Int.toNat_natCast]; omega, by rw [Int.toNat_natCast]; omega⟩⟩
                show _ ∧ _
                exact ⟨by omega, _, ⟨rfl, EL2, Lib.hid fun a h => if e : a = j then e ▸ hcell else hA.out a (by omega)⟩, F.sub (.c 6 rfl (.c 1 rfl (.c 2 rfl (.c 5 rfl .n))))⟩
          · skip
            replace F := F.re (k := 47) rfl (congrArg Value.bool (decide_eq_false hg3))
            refine st_no F rfl (by decide) (wantF F rfl rfl (by decide) rfl (by decide)) ?_; clear F fa; intro fa F
            refine st_no F rfl (by decide) (wantF F rfl rfl (by decide) rfl (by decide)) ?_; clear F fa; intro fa F
            refine st_no F rfl (by decide) (wantF F rfl rfl (by decide) rfl (by decide)) ?_; clear F fa; intro fa F
            refine st_no F rfl (by decide) (wantF F rfl rfl (by decide) rfl (by decide)) ?_; clear F fa; intro fa F
            refine st_no F rfl (by decide) (wantF F rfl rfl (by decide) rfl (by decide)) ?_; clear F fa; intro fa F
            refine st_no F rfl (by decide) (wantF F rfl rfl (by decide) rfl (by decide)) ?_; clear F fa; intro fa F
            refine st_no F rfl (by decide) (wantF F rfl rfl (by decide) rfl (by decide)) ?_; clear F fa; intro fa F
            refine st_no F rfl (by decide) (wantF F rfl rfl (by decide) rfl (by decide)) ?_; clear F fa; intro fa F
            refine st_no F rfl (by decide) (wantF F rfl rfl (by decide) rfl (by decide)) ?_; clear F fa; intro fa F
            refine st_no F rfl (by decide) (wantF F rfl rfl (by decide) rfl (by decide)) ?_; clear F fa; intro fa F
            refine st_no F rfl (by decide) (wantF F rfl rfl (by decide) rfl (by decide)) ?_; clear F fa; intro fa F
            refine st_no F rfl (by decide) (wantF F rfl rfl (by decide) rfl (by decide)) ?_; clear F fa; intro fa F
            refine st_no F rfl (by decide) (wantF F rfl rfl (by decide) rfl (by decide)) ?_; clear F fa; intro fa F
            refine st_no F rfl (by decide) (wantF F rfl rfl (by decide) rfl (by decide)) ?_; clear F fa; intro fa F
            refine st_no F rfl (by decide) (wantF F rfl rfl (by decide) rfl (by decide)) ?_; clear F fa; intro fa F
            refine st_no F rfl (by decide) (wantF F rfl rfl (by decide) rfl (by decide)) ?_; clear F fa; intro fa F
            refine st_no F rfl (by decide) (wantF F rfl rfl (by decide) rfl (by decide)) ?_; clear F fa; intro fa F
            refine st_no F rfl (by decide) (wantF F rfl rfl (by decide) rfl (by decide)) ?_; clear F fa; intro fa F
            refine st_no F rfl (by decide) (wantF F rfl rfl (by decide) rfl (by decide)) ?_; clear F fa; intro fa F
            refine st_no F rfl (by decide) (wantF F rfl rfl (by decide) rfl (by decide)) ?_; clear F fa; intro fa F
            refine st_no F rfl (by decide) (wantU F rfl rfl (by decide) rfl) ?_; clear F fa; intro fa F
            refine st_no F rfl (by decide) (wantU F rfl rfl (by decide) rfl) ?_; clear F fa; intro fa F
            refine st_no F rfl (by decide) (wantU F rfl rfl (by decide) rfl) ?_; clear F fa; intro fa F
            refine st_no F rfl (by decide) (wantU F rfl rfl (by decide) rfl) ?_; clear F fa; intro fa F
            refine st_no F rfl (by decide) (wantU F rfl rfl (by decide) rfl) ?_; clear F fa; intro fa F
            refine st_no F rfl (by decide) (wantU F rfl rfl (by decide) rfl) ?_; clear F fa; intro fa F
            refine st_no F rfl (by decide) (wantU F rfl rfl (by decide) rfl) ?_; clear F fa; intro fa F
            refine st_no F rfl (by decide) (wantU F rfl rfl (by decide) rfl) ?_; clear F fa; intro fa F
            refine st_no F rfl (by decide) (wantU F rfl rfl (by decide) rfl) ?_; clear F fa; intro fa F
            refine st_no F rfl (by decide) (wantU F rfl rfl (by decide) rfl) ?_; clear F fa; intro fa F
            refine st_no F rfl (by decide) (wantU F rfl rfl (by decide) rfl) ?_; clear F fa; intro fa F
            refine st_no F rfl (by decide) (wantU F rfl rfl (by decide) rfl) ?_; clear F fa; intro fa F
            refine st_no F rfl (by decide) (wantU F rfl rfl (by decide) rfl) ?_; clear F fa; intro fa F
            refine st_no F rfl (by decide) (wantU F rfl rfl (by decide) rfl) ?_; clear F fa; intro fa F
            refine st_no F rfl (by decide) (wantU F rfl rfl (by decide) rfl) ?_; clear F fa; intro fa F
            refine st_no F rfl (by decide) (wantU F rfl rfl (by decide) rfl) ?_; clear F fa; intro fa F
            refine st_no F rfl (by decide) (wantU F rfl rfl (by decide) rfl) ?_; clear F fa; intro fa F
            refine st_no F rfl (by decide) (wantU F rfl rfl (by decide) rfl) ?_; clear F fa; intro fa F
            refine st_no F rfl (by decide) (wantU F rfl rfl (by decide) rfl) ?_; clear F fa; intro fa F
            refine st_no F rfl (by decide) (wantF F rfl rfl (by decide) rfl (by decide)) ?_; clear F fa; intro fa F
            refine F.sv (R_pickF rfl (F.at rfl) (ev_c fa _)) ?_ (hw := (wantT F rfl rfl (by decide) rfl)); clear F fa; intro fa F
            refine wpStill_nil ?_
            refine F.vl (R_pickF rfl (F.at rfl) (F.at rfl)) ?_; clear F fa; intro fa F
            refine wpList_nil ?_
            refine hK13 _ _ ?_
            clear hK13
            refine cd_F F rfl ?_
            refine wp_skip ?_
            refine hK10 _ _ ?_
            clear hK10
            replace F := F.sub (.c 1 rfl (.c 2 rfl (.c 5 rfl (.c 6 rfl .n))))
            refine wp_region_lit ?_
            refine F.mv ?_; clear F fa; intro fa F
            refine F.vl (R_add rfl (F.at rfl) (ev_c fa _) (by omega) (by omega)) ?_; clear F fa; intro fa F
            refine F.as ?_; clear F fa; intro fa F
            refine wpList_nil ?_
            have hcell : CellG t m i j := ⟨by omega, by omega, fun h0 => ⟨by rw [Int.toNat_natCast]; omega, by rw [Int.toNat_natCast]; omega⟩⟩
            show _ ∧ _
            exact ⟨by omega, _, ⟨rfl, EL2, Lib.hid fun a h => if e : a = j then e ▸ hcell else hA.out a (by omega)⟩, F.sub (.c 6 rfl (.c 1 rfl (.c 2 rfl (.c 5 rfl .n))))⟩
    · skip
      refine wp_exit ?_
      refine hK6 _ _ ?_
      clear hK6
      refine wp_region_lit ?_
      refine F.mv ?_; clear F fa; intro fa F
      refine F.vl (R_add rfl (F.at rfl) (ev_c fa _) (by omega) (by omega)) ?_; clear F fa; intro fa F
      refine F.as ?_; clear F fa; intro fa F
      refine wpList_nil ?_
      show _ ∧ _
      exact ⟨by omega, _, ⟨rfl, EL1, Lib.hid fun s a h h2 => if e : s = i then e ▸ hA.out a (by omega) else hS.out s a (by omega) h2⟩, F.sub (.c 5 rfl (.c 1 rfl (.c 2 rfl .n)))⟩
  · skip
    refine wp_exit ?_
    refine hK2 _ _ ?_
    clear hK2
    refine wp_seq_k fun K22 hK22 => ?_
    refine wp_seq_k fun K23 hK23 => ?_
    refine wp_region_lit ?_
    refine F.vl (R_assign rfl (ev_c fa _)) ?_; clear F fa; intro fa F
    refine wpList_nil ?_
    refine hK23 _ _ ?_
    clear hK23
    refine wp_block ?_
    have F0 := F.sub (.c 1 rfl (.c 2 rfl .n))
    refine lp_for F0 (t.lk.length) (fun i Lv W => Lv = [(8, .int .i64 ((i : Nat) : Int))] ∧ Ext [] w2 W ∧ Hid (∀ j, j < i → LinkG t m (t.lk.getD j (0, 0, 0, 0, 0, 0)))) ⟨_, ⟨rfl, Ext.refl _ _, Lib.hid fun s h => absurd h (by omega)⟩, F.sub (.c 8 rfl (.c 1 rfl (.c 2 rfl .n)))⟩ ?_
    clear F F0
    rintro i _ fa w5 hi3 ⟨rfl, EL3, hK⟩ F
    have q2 := EL3.keep0 q2
    have E := E.nil EL3
    refine wp_seq_k fun K24 hK24 => ?_
    refine wp_seq_k fun K25 hK25 => ?_
    refine wp_region_lit ?_
    refine F.mv ?_; clear F fa; intro fa F
    refine F.vl (R_field rfl (F.at rfl) Try.underlying28 rfl (n := 10) (sz := 1) rfl (by kernel_rfl) (by decide)) ?_; clear F fa; intro fa F
    refine F.vl (R_load rfl (F.at rfl) Try.underlying26 rfl ((cells_of_block q2 10).trans (getS (getS (getS (getS (getS (getS (getS (getS (getS (getS (get0))))))))))))) ?_; clear F fa; intro fa F
    refine F.vl (R_len rfl rfl (F.at rfl) Try.underlying26) ?_; clear F fa; intro fa F
    refine F.vl (R_lss rfl (F.at rfl) (F.at rfl)) ?_; clear F fa; intro fa F
    refine wpList_nil ?_
    refine hK25 _ _ ?_
    clear hK25
    refine cd_if F rfl (fun hc94 => ?_) (fun hc94 => ?_)
    · skip
      refine wp_skip ?_
      refine hK24 _ _ ?_
      clear hK24
      refine wp_seq_k fun K26 hK26 => ?_
      refine wp_block ?_
      refine wp_seq_k fun K27 hK27 => ?_
      refine wp_region_lit ?_
      refine F.vl (R_field rfl (F.at rfl) Try.underlying28 rfl (n := 10) (sz := 1) rfl (by kernel_rfl) (by decide)) ?_; clear F fa; intro fa F
      refine F.vl (R_load rfl (F.at rfl) Try.underlying26 rfl ((cells_of_block q2 10).trans (getS (getS (getS (getS (getS (getS (getS (getS (getS (getS (get0))))))))))))) ?_; clear F fa; intro fa F
      refine F.mv ?_; clear F fa; intro fa F
      obtain ⟨xb28, xo28, xa28, xr28⟩ := HL.out i (by omega)
      refine F.vl (R_ixSlice (sz := 6) rfl ((F.at rfl).trans (xa28 _ _)) (F.at rfl) Try.underlying26 (by kernel_rfl) (by omega) (by omega)) ?_; clear F fa; intro fa F
      refine F.vl (R_loadRow rfl (F.at rfl) Try.underlying75 rfl (by kernel_rfl) (xr28 _ E)) ?_; clear F fa; intro fa F
      refine sq_new F rfl (by decide) rfl (R_alloc rfl Try.zeroValue75) ?_; clear F fa; intro fa w6 F hw
      obtain ⟨n9, hn⟩ : ∃ n, n = w5.heap.size := ⟨_, rfl⟩
      rw [← hn] at F
      have s9 : w5.heap.size ≤ n9 := Nat.le_of_eq hn.symm
      have l9_E : w.heap.size ≤ n9 := by rw [hn]; exact E.size
      have l9_EL3 : w2.heap.size ≤ n9 := by rw [hn]; exact EL3.size
      have m9_2 : n2 < n9 := by rw [hn]; exact blk_lt q2
      replace q2 := keep_alloc hw q2
      replace E := ext_alloc E hw
      replace EL3 := ext_alloc EL3 hw
      have q9 := new_row hw hn
      clear hw hn
      refine sq_to rfl rfl (R_storeRow rfl (F.at rfl) (F.at rfl) (by kernel_rfl) (by first | (simp [Value.oneCell']; done) | (simp [Value.oneCell', grRow, rdRow, lkRow]; done)) q9 rfl) ?_; intro w7 hw
      replace q2 := keep_cells hw q2 (by omega)
      replace q9 := put_row hw q9 rfl
      replace E := ext_cells E hw (fun h => by first | exact absurd h (by omega) | simp)
      replace EL3 := ext_cells EL3 hw (fun h => by first | exact absurd h (by omega) | simp)
      clear hw
      refine wpList_nil ?_
      have y3 := hlk.out _ (getD_mem (0, 0, 0, 0, 0, 0) (show i < t.lk.length by omega))
      obtain ⟨x1, x2, x3, x4⟩ := idx_in (S := t.S) (A := t.A) (s := (t.lk.getD i (0, 0, 0, 0, 0, 0)).1) (a := (t.lk.getD i (0, 0, 0, 0, 0, 0)).2.1) (by omega) (by omega) (by omega) (by omega) (by omega) (by omega)
      obtain ⟨x5, x6, x7, x8⟩ := idx_in (S := t.S) (A := t.A) (s := (t.lk.getD i (0, 0, 0, 0, 0, 0)).2.2.1) (a := (t.lk.getD i (0, 0, 0, 0, 0, 0)).2.2.2.1) (by omega) (by omega) (by omega) (by omega) (by omega) (by omega)
      have y1 := hsm.out ((t.lk.getD i (0, 0, 0, 0, 0, 0)).1 * t.A + (t.lk.getD i (0, 0, 0, 0, 0, 0)).2.1).toNat
      have y2 := hsm.out ((t.lk.getD i (0, 0, 0, 0, 0, 0)).2.2.1 * t.A + (t.lk.getD i (0, 0, 0, 0, 0, 0)).2.2.2.1).toNat
      refine hK27 _ _ ?_
      clear hK27
      refine wp_seq_k fun K29 hK29 => ?_
      refine wp_region_st 23 follows (by kernel_rfl) fun w8 hh eh => ?_
      replace q2 := keep_same hh q2
      replace q9 := keep_same hh q9
      replace E := ext_same E eh
      replace EL3 := ext_same EL3 eh
      clear hh eh
      refine F.smv ?_; clear F fa; intro fa F
      refine F.sv (R_field rfl (F.at rfl) Try.underlying75 rfl (n := 0) (sz := 1) rfl (by kernel_rfl) (by decide)) ?_; clear F fa; intro fa F
      refine F.sv (R_load rfl (F.at rfl) Try.underlying3 rfl ((cells_of_block q9 0).trans (get0))) ?_; clear F fa; intro fa F
      refine F.sv (R_field rfl (F.at rfl) Try.underlying28 rfl (n := 1) (sz := 1) rfl (by kernel_rfl) (by decide)) ?_; clear F fa; intro fa F
      refine F.sv (R_load rfl (F.at rfl) Try.underlying3 rfl ((cells_of_block q2 1).trans (getS (get0)))) ?_; clear F fa; intro fa F
      refine F.sv (R_mul rfl (F.at rfl) (F.at rfl) (by omega) (by omega)) ?_; clear F fa; intro fa F
      refine F.sv (R_field rfl (F.at rfl) Try.underlying75 rfl (n := 1) (sz := 1) rfl (by kernel_rfl) (by decide)) ?_; clear F fa; intro fa F
      refine F.sv (R_load rfl (F.at rfl) Try.underlying3 rfl ((cells_of_block q9 1).trans (getS (get0)))) ?_; clear F fa; intro fa F
      refine F.sv (R_add rfl (F.at rfl) (F.at rfl) (by omega) (by omega)) ?_; clear F fa; intro fa F
      obtain ⟨xb30, xo30, xa30, xr30⟩ := HM.out (((((t.lk.getD i (0, 0, 0, 0, 0, 0)).1) * t.A) + ((t.lk.getD i (0, 0, 0, 0, 0, 0)).2.1)).toNat) (by omega)
      refine F.sv (R_ixSlice (sz := 1) rfl ((F.at rfl).trans (xa30 _ _)) (F.at rfl) Try.underlying29 (by kernel_rfl) (by omega) (by omega)) ?_; clear F fa; intro fa F
      refine F.sv (R_load rfl (F.at rfl) Try.underlying3 rfl (xr30 _ E 0 _ rfl)) ?_; clear F fa; intro fa F
      refine F.smv ?_; clear F fa; intro fa F
      refine F.sv (R_field rfl (F.at rfl) Try.underlying75 rfl (n := 2) (sz := 1) rfl (by kernel_rfl) (by decide)) ?_; clear F fa; intro fa F
      refine F.sv (R_load rfl (F.at rfl) Try.underlying3 rfl ((cells_of_block q9 2).trans (getS (getS (get0))))) ?_; clear F fa; intro fa F
      refine F.sv (R_field rfl (F.at rfl) Try.underlying28 rfl (n := 1) (sz := 1) rfl (by kernel_rfl) (by decide)) ?_; clear F fa; intro fa F
      refine F.sv (R_load rfl (F.at rfl) Try.underlying3 rfl ((cells_of_block q2 1).trans (getS (get0)))) ?_; clear F fa; intro fa F
      refine F.sv (R_mul rfl (F.at rfl) (F.at rfl) (by omega) (by omega)) ?_; clear F fa; intro fa F
      refine F.sv (R_field rfl (F.at rfl) Try.underlying75 rfl (n := 3) (sz := 1) rfl (by kernel_rfl) (by decide)) ?_; clear F fa; intro fa F
      refine F.sv (R_load rfl (F.at rfl) Try.underlying3 rfl ((cells_of_block q9 3).trans (getS (getS (getS (get0)))))) ?_; clear F fa; intro fa F
      refine F.sv (R_add rfl (F.at rfl) (F.at rfl) (by omega) (by omega)) ?_; clear F fa; intro fa F
      obtain ⟨xb31, xo31, xa31, xr31⟩ := HM.out (((((t.lk.getD i (0, 0, 0, 0, 0, 0)).2.2.1) * t.A) + ((t.lk.getD i (0, 0, 0, 0, 0, 0)).2.2.2.1)).toNat) (by omega)
      refine F.sv (R_ixSlice (sz := 1) rfl ((F.at rfl).trans (xa31 _ _)) (F.at rfl) Try.underlying29 (by kernel_rfl) (by omega) (by omega)) ?_; clear F fa; intro fa F
      refine F.sv (R_load rfl (F.at rfl) Try.underlying3 rfl (xr31 _ E 0 _ rfl)) ?_; clear F fa; intro fa F
      refine F.sv (R_sub rfl (F.at rfl) (F.at rfl) (by omega) (by omega)) ?_; clear F fa; intro fa F
      refine wpStill_nil ?_
      refine F.as ?_; clear F fa; intro fa F
      refine wpList_nil ?_
      refine hK29 _ _ ?_
      clear hK29
      refine wp_seq_k fun K32 hK32 => ?_
      refine wp_region_lit ?_
      refine F.mv ?_; clear F fa; intro fa F
      refine F.vl (R_field rfl (F.at rfl) Try.underlying75 rfl (n := 4) (sz := 2) rfl (by kernel_rfl) (by decide)) ?_; clear F fa; intro fa F
      refine F.vl (R_field rfl (F.at rfl) Try.underlying23 rfl (n := 4) (sz := 1) rfl (by kernel_rfl) (by decide)) ?_; clear F fa; intro fa F
      refine F.vl (R_load rfl (F.at rfl) Try.underlying3 rfl ((cells_of_block q9 4).trans (getS (getS (getS (getS (get0))))))) ?_; clear F fa; intro fa F
      refine F.vl (R_lss rfl (F.at rfl) (F.at rfl)) ?_; clear F fa; intro fa F
      refine F.mv ?_; clear F fa; intro fa F
      by_cases hg5 : (((m.getD (((((t.lk.getD i (0, 0, 0, 0, 0, 0)).1) * t.A) + ((t.lk.getD i (0, 0, 0, 0, 0, 0)).2.1)).toNat) 0) - (m.getD (((((t.lk.getD i (0, 0, 0, 0, 0, 0)).2.2.1) * t.A) + ((t.lk.getD i (0, 0, 0, 0, 0, 0)).2.2.2.1)).toNat) 0)) < ((t.lk.getD i (0, 0, 0, 0, 0, 0)).2.2.2.2.1))
      · skip
        replace F := F.re (k := 130) rfl (congrArg Value.bool (decide_eq_true hg5))
        refine sq_no F rfl (by decide) (wantF F rfl rfl (by decide) rfl (by decide)) ?_; clear F fa; intro fa F
        refine sq_no F rfl (by decide) (wantF F rfl rfl (by decide) rfl (by decide)) ?_; clear F fa; intro fa F
        refine sq_no F rfl (by decide) (wantF F rfl rfl (by decide) rfl (by decide)) ?_; clear F fa; intro fa F
        refine sq_no F rfl (by decide) (wantF F rfl rfl (by decide) rfl (by decide)) ?_; clear F fa; intro fa F
        refine sq_no F rfl (by decide) (wantF F rfl rfl (by decide) rfl (by decide)) ?_; clear F fa; intro fa F
        refine F.vl (R_pickT rfl (F.at rfl) (ev_c fa _)) ?_; clear F fa; intro fa F
        refine wpList_nil ?_
        refine hK32 _ _ ?_
        clear hK32
        refine cd_T F rfl ?_
        refine wp_seq_k fun K33 hK33 => ?_
        refine wp_region_lit ?_
        refine F.vl (R_assign rfl (ev_c fa _)) ?_; clear F fa; intro fa F
        refine wpList_nil ?_
        have hno : ¬ growP t m := fun h => by have q := h.2 i (by omega); unfold LinkG at q; omega
        refine hK33 _ _ ?_
        clear hK33
        refine wp_ret ?_
        (try simp only [Exit.inBlock, Exit.then])
        refine rt_v F (rs_1 F rfl rfl) ?_
        first | exact ⟨true, rfl, iff_of_true rfl hyes, E⟩ | exact ⟨false, rfl, iff_of_false (by decide) hno, E⟩
      · skip
        replace F := F.re (k := 130) rfl (congrArg Value.bool (decide_eq_false hg5))
        refine F.mv ?_ (hw := (wantT F rfl rfl (by decide) rfl)); clear F fa; intro fa F
        refine F.vl (R_field rfl (F.at rfl) Try.underlying75 rfl (n := 4) (sz := 2) rfl (by kernel_rfl) (by decide)) ?_ (hw := (wantT F rfl rfl (by decide) rfl)); clear F fa; intro fa F
        refine F.vl (R_field rfl (F.at rfl) Try.underlying23 rfl (n := 5) (sz := 1) rfl (by kernel_rfl) (by decide)) ?_ (hw := (wantT F rfl rfl (by decide) rfl)); clear F fa; intro fa F
        refine F.vl (R_load rfl (F.at rfl) Try.underlying3 rfl ((cells_of_block q9 5).trans (getS (getS (getS (getS (getS (get0)))))))) ?_ (hw := (wantT F rfl rfl (by decide) rfl)); clear F fa; intro fa F
        refine F.vl (R_gtr rfl (F.at rfl) (F.at rfl)) ?_ (hw := (wantT F rfl rfl (by decide) rfl)); clear F fa; intro fa F
        refine F.vl (R_pickF rfl (F.at rfl) (F.at rfl)) ?_; clear F fa; intro fa F
        refine wpList_nil ?_
        refine hK32 _ _ ?_
        clear hK32
        refine cd_if F rfl (fun hc136 => ?_) (fun hc136 => ?_)
        · skip
          refine wp_seq_k fun K34 hK34 => ?_
          refine wp_region_lit ?_
          refine F.vl (R_assign rfl (ev_c fa _)) ?_; clear F fa; intro fa F
          refine wpList_nil ?_
          have hno : ¬ growP t m := fun h => by have q := h.2 i (by omega); unfold LinkG at q; omega
          refine hK34 _ _ ?_
          clear hK34
          refine wp_ret ?_
          (try simp only [Exit.inBlock, Exit.then])
          refine rt_v F (rs_1 F rfl rfl) ?_
          first | exact ⟨true, rfl, iff_of_true rfl hyes, E⟩ | exact ⟨false, rfl, iff_of_false (by decide) hno, E⟩
        · skip
          have hlink : LinkG t m (t.lk.getD i (0, 0, 0, 0, 0, 0)) := ⟨by omega, by omega⟩
          refine wp_skip ?_
          refine hK26 _ _ ?_
          clear hK26
          refine wp_region_lit ?_
          refine F.mv ?_; clear F fa; intro fa F
          refine F.vl (R_add rfl (F.at rfl) (ev_c fa _) (by omega) (by omega)) ?_; clear F fa; intro fa F
          refine F.as ?_; clear F fa; intro fa F
          refine wpList_nil ?_
          show _ ∧ _
          exact ⟨by omega, _, ⟨rfl, EL3, Lib.hid fun s h => if e : s = i then e ▸ hlink else hK.out s (by omega)⟩, F.sub (.c 8 rfl (.c 1 rfl (.c 2 rfl .n)))⟩
    · skip
      refine wp_exit ?_
      refine hK22 _ _ ?_
      clear hK22
      refine wp_seq_k fun K35 hK35 => ?_
      refine wp_region_lit ?_
      refine F.vl (R_assign rfl (ev_c fa _)) ?_; clear F fa; intro fa F
      refine wpList_nil ?_
      have hyes : growP t m := ⟨fun s a hs ha => hS.out s a (by omega) ha, fun i hi => hK.out i (by omega)⟩
      refine hK35 _ _ ?_
      clear hK35
      refine wp_ret ?_
      (try simp only [Exit.inBlock, Exit.then])
      refine rt_v F (rs_1 F rfl rfl) ?_
      first | exact ⟨true, rfl, iff_of_true rfl hyes, E⟩ | exact ⟨false, rfl, iff_of_false (by decide) hno, E⟩
def ReadP (t : Tp) (m : List Int) (k p : Int) (r : Int × Int × Int × Int) : Prop := r.2.2.1 = k → -t.sl ≤ r.2.2.2 - p - m.getD (r.1 * t.A + r.2.1).toNat 0 ∧ r.2.2.2 - p - m.getD (r.1 * t.A + r.2.1).toNat 0 ≤ t.sl
def pullP (t : Tp) (m : List Int) (k p : Int) : Prop := ∀ j, j < t.rd.length → ReadP t m k p (t.rd.getD j (0, 0, 0, 0))
theorem fine_step {t : Tp} {m : List Int} {k p : Int} {i : Nat} {b b' : Bool} (h : b = true ↔ ∀ j, j < i → ReadP t m k p (t.rd.getD j (0, 0, 0, 0))) (hv : b' = true ↔ (b = true ∧ ReadP t m k p (t.rd.getD i (0, 0, 0, 0)))) :
    b' = true ↔ ∀ j, j < i + 1 → ReadP t m k p (t.rd.getD j (0, 0, 0, 0)) := by
  rw [hv, h]
  constructor
  · rintro ⟨h1, h2⟩ j hj
    by_cases e : j = i
    · subst e; exact h2
    · exact h1 j (by omega)
  · intro h
    exact ⟨fun j hj => h j (by omega), h i (by omega)⟩
def PullsPost (t : Tp) (m : List Int) (k : Int) (w : World) (e : Ending) (w' : World) : Prop :=
  ∃ (R : List Int) (a : Option Addr) (c : Nat), e = .returned (.slice a R.length c) ∧ (∀ p, p ∈ R ↔ (t.pl ≤ p ∧ p ≤ t.pm ∧ pullP t m k p)) ∧ R.length ≤ 100 ∧ w'.ownsRow w.heap.size 3 1 (.slice a R.length c) R.length (ivs R) ∧ Ext [] w w'
set_option maxRecDepth 100000 in
set_option maxHeartbeats 1000000 in
theorem pulls_any {t : Tp} (ok : t.Ok) (m : List Int) (k : Int) (hm : (m.length : Int) = t.S * t.A) (hs : ∀ x ∈ m, -100000 ≤ x ∧ x ≤ 100000) (ga ra la ma : Option Addr) (gc rc lc mc : Nat) (w : World)
    (ht : IsTp w (.slice ga t.gr.length gc) (.slice ra t.rd.length rc) (.slice la t.lk.length lc) t) (hmr : IsRows w (.slice ma m.length mc) 1 (m.map intRow)) :
    Calls Try.prog 108 #[tpV t (.slice ga t.gr.length gc) (.slice ra t.rd.length rc) (.slice la t.lk.length lc), .slice ma m.length mc, .int .i64 k] w (PullsPost t m k w) := by
  have E : Ext [] w w := Ext.refl _ _
  have HR := Lib.hid (slAt_of_rows ht.rd (0, 0, 0, 0))
  have HM := Lib.hid (slAt_of_rows hmr 0)
  have hsm := Lib.hid (m_small hs)
  have o1 := ok.S1
  have o2 := ok.S3
  have o3 := ok.A1
  have o4 := ok.A3
  have o6 := ok.rdl
  have o7 := ok.pl1
  have o8 := ok.pm1
  have o9 := ok.p
  have p1 := ok.sl0
  have p2 := ok.sl5
  have hrd := Lib.hid ok.rd
  clear ht hmr hs ok
  have ho : w.ownsRow w.heap.size 3 1 (.slice none 0 0) 0 (ivs []) := World.ownsRow_nil _ _ _ _
  unfold tpV
  refine calls_has 77 Try.func108 rfl Try.ntmps108 (Nat.le_of_ble_eq_true rfl) ?_
  intro fa F
  refine wp_seq_k fun K1 hK1 => ?_
  refine wp_region_lit ?_
  refine sq_new F rfl (by decide) rfl (R_box rfl (F.at rfl)) ?_; clear F fa; intro fa w1 F hw
  obtain ⟨n3, hn⟩ : ∃ n, n = w.heap.size := ⟨_, rfl⟩
  rw [← hn] at F
  have s3 : w.heap.size ≤ n3 := Nat.le_of_eq hn.symm
  have l3_E : w.heap.size ≤ n3 := by rw [hn]; exact E.size
  have o3_ho := Lib.hid (own_ne_new ho hn)
  replace ho := owns_alloc hw ho
  replace E := ext_alloc E hw
  have q3 := new_row hw hn
  clear hw hn
  refine F.vl (R_assign rfl (ev_c fa _)) ?_; clear F fa; intro fa F
  refine wpList_nil ?_
  refine hK1 _ _ ?_
  clear hK1
  refine wp_seq_k fun K2 hK2 => ?_
  refine wp_region_lit ?_
  refine F.vl (R_assign rfl (ev_c fa _)) ?_; clear F fa; intro fa F
  refine wpList_nil ?_
  refine hK2 _ _ ?_
  clear hK2
  refine wp_seq_k fun K3 hK3 => ?_
  refine wp_seq_k fun K4 hK4 => ?_
  refine wp_region_lit ?_
  refine F.vl (R_field rfl (F.at rfl) Try.underlying28 rfl (n := 5) (sz := 2) rfl (by kernel_rfl) (by decide)) ?_; clear F fa; intro fa F
  refine F.vl (R_field rfl (F.at rfl) Try.underlying23 rfl (n := 5) (sz := 1) rfl (by kernel_rfl) (by decide)) ?_; clear F fa; intro fa F
  refine F.vl (R_load rfl (F.at rfl) Try.underlying3 rfl ((cells_of_block q3 5).trans (getS (getS (getS (getS (getS (get0)))))))) ?_; clear F fa; intro fa F
  rw [show t.pl = t.pl + ((0 : Nat) : Int) by omega] at F
  refine F.as ?_; clear F fa; intro fa F
  refine wpList_nil ?_
  refine hK4 _ _ ?_
  clear hK4
  refine wp_block ?_
  have F0 := F.sub (.c 1 rfl (.c 2 rfl (.c 3 rfl .n)))
  refine lp_for F0 ((t.pm - t.pl + 1).toNat) (fun i Lv W => ∃ va : Option Addr, ∃ vc : Nat, ∃ R : List Int, Lv = [(7, .slice va R.length vc), (8, .int .i64 (t.pl + ((i : Nat) : Int)))] ∧ Ext [] w W ∧ W.heap[n3]? = some (.cells #[.int .i64 t.S, .int .i64 t.A, .int .i64 t.T, .int .i64 t.bl, .int .i64 t.bm, .int .i64 t.pl, .int .i64 t.pm, .int .i64 t.sl, .slice ga t.gr.length gc, .slice ra t.rd.length rc, .slice la t.lk.length lc] 28 (0, 0)) ∧ W.ownsRow w.heap.size 3 1 (.slice va R.length vc) R.length (ivs R) ∧ Hid (∀ p, p ∈ R ↔ (t.pl ≤ p ∧ p < t.pl + (i : Int) ∧ pullP t m k p)) ∧ R.length ≤ i) ⟨_, ⟨none, 0, [], rfl, E, q3, ho, Lib.hid (fun p => ⟨fun h => (by simp at h), fun h => absurd h.2.1 (by omega)⟩), Nat.le_refl _⟩, F.sub (.c 7 rfl (.c 8 rfl (.c 1 rfl (.c 2 rfl (.c 3 rfl .n)))))⟩ ?_
  clear F F0
  clear E q3
  clear ho
  rintro i _ fa w2 hi1 ⟨va, vc, R, rfl, E, q3, ho, hR, hRl⟩ F
  refine wp_seq_k fun K5 hK5 => ?_
  refine wp_seq_k fun K6 hK6 => ?_
  refine wp_region_lit ?_
  refine F.mv ?_; clear F fa; intro fa F
  refine F.vl (R_field rfl (F.at rfl) Try.underlying28 rfl (n := 5) (sz := 2) rfl (by kernel_rfl) (by decide)) ?_; clear F fa; intro fa F
  refine F.vl (R_field rfl (F.at rfl) Try.underlying23 rfl (n := 6) (sz := 1) rfl (by kernel_rfl) (by decide)) ?_; clear F fa; intro fa F
  refine F.vl (R_load rfl (F.at rfl) Try.underlying3 rfl ((cells_of_block q3 6).trans (getS (getS (getS (getS (getS (getS (get0))))))))) ?_; clear F fa; intro fa F
  refine F.vl (R_leq rfl (F.at rfl) (F.at rfl)) ?_; clear F fa; intro fa F
  refine wpList_nil ?_
  refine hK6 _ _ ?_
  clear hK6
  refine cd_if F rfl (fun hc20 => ?_) (fun hc20 => ?_)
  · skip
    refine wp_skip ?_
    refine hK5 _ _ ?_
    clear hK5
    refine wp_seq_k fun K7 hK7 => ?_
    refine wp_block ?_
    refine wp_seq_k fun K8 hK8 => ?_
    refine wp_region_lit ?_
    refine F.vl (R_assign rfl (ev_c fa _)) ?_; clear F fa; intro fa F
    refine wpList_nil ?_
    refine hK8 _ _ ?_
    clear hK8
    refine wp_seq_k fun K9 hK9 => ?_
    refine wp_seq_k fun K10 hK10 => ?_
    refine wp_region_lit ?_
    refine F.vl (R_assign rfl (ev_c fa _)) ?_; clear F fa; intro fa F
    refine wpList_nil ?_
    refine hK10 _ _ ?_
    clear hK10
    refine wp_block ?_
    have F0 := F.sub (.c 1 rfl (.c 2 rfl (.c 3 rfl (.c 7 rfl (.c 8 rfl .n)))))
    refine lp_for F0 (t.rd.length) (fun j Lv W => ∃ bm : Bool, Lv = [(9, .bool bm), (10, .int .i64 ((j : Nat) : Int))] ∧ Ext [] w2 W ∧ Hid (bm = true ↔ ∀ j', j' < j → ReadP t m k (t.pl + (i : Int)) (t.rd.getD j' (0, 0, 0, 0)))) ⟨_, ⟨true, rfl, Ext.refl _ _, Lib.hid (iff_of_true rfl fun j' h => absurd h (by omega))⟩, F.sub (.c 9 rfl (.c 10 rfl (.c 1 rfl (.c 2 rfl (.c 3 rfl (.c 7 rfl (.c 8 rfl .n)))))))⟩ ?_
    clear F F0
    rintro j _ fa w3 hi2 ⟨bm, rfl, EL2, hb⟩ F
    have q3 := EL2.keep0 q3
    have E := E.nil EL2
    have ho := owns_ext ho EL2 (by simp)
    refine wp_seq_k fun K11 hK11 => ?_
    refine wp_seq_k fun K12 hK12 => ?_
    refine wp_region_lit ?_
    refine F.mv ?_; clear F fa; intro fa F
    refine F.vl (R_field rfl (F.at rfl) Try.underlying28 rfl (n := 9) (sz := 1) rfl (by kernel_rfl) (by decide)) ?_; clear F fa; intro fa F
    refine F.vl (R_load rfl (F.at rfl) Try.underlying25 rfl ((cells_of_block q3 9).trans (getS (getS (getS (getS (getS (getS (getS (getS (getS (get0)))))))))))) ?_; clear F fa; intro fa F
    refine F.vl (R_len rfl rfl (F.at rfl) Try.underlying25) ?_; clear F fa; intro fa F
    refine F.vl (R_lss rfl (F.at rfl) (F.at rfl)) ?_; clear F fa; intro fa F
    refine wpList_nil ?_
    refine hK12 _ _ ?_
    clear hK12
    refine cd_if F rfl (fun hc27 => ?_) (fun hc27 => ?_)
    · skip
      refine wp_skip ?_
      refine hK11 _ _ ?_
      clear hK11
      refine wp_seq_k fun K13 hK13 => ?_
      refine wp_block ?_
      refine wp_seq_k fun K14 hK14 => ?_
      refine wp_region_lit ?_
      refine F.vl (R_field rfl (F.at rfl) Try.underlying28 rfl (n := 9) (sz := 1) rfl (by kernel_rfl) (by decide)) ?_; clear F fa; intro fa F
      refine F.vl (R_load rfl (F.at rfl) Try.underlying25 rfl ((cells_of_block q3 9).trans (getS (getS (getS (getS (getS (getS (getS (getS (getS (get0)))))))))))) ?_; clear F fa; intro fa F
      refine F.mv ?_; clear F fa; intro fa F
      obtain ⟨xb15, xo15, xa15, xr15⟩ := HR.out j (by omega)
      refine F.vl (R_ixSlice (sz := 4) rfl ((F.at rfl).trans (xa15 _ _)) (F.at rfl) Try.underlying25 (by kernel_rfl) (by omega) (by omega)) ?_; clear F fa; intro fa F
      refine F.vl (R_loadRow rfl (F.at rfl) Try.underlying66 rfl (by kernel_rfl) (xr15 _ E)) ?_; clear F fa; intro fa F
      refine sq_new F rfl (by decide) rfl (R_alloc rfl Try.zeroValue66) ?_; clear F fa; intro fa w4 F hw
      obtain ⟨n11, hn⟩ : ∃ n, n = w3.heap.size := ⟨_, rfl⟩
      rw [← hn] at F
      have s11 : w3.heap.size ≤ n11 := Nat.le_of_eq hn.symm
      have l11_E : w.heap.size ≤ n11 := by rw [hn]; exact E.size
      have l11_EL2 : w2.heap.size ≤ n11 := by rw [hn]; exact EL2.size
      have m11_3 : n3 < n11 := by rw [hn]; exact blk_lt q3
      have o11_ho := Lib.hid (own_ne_new ho hn)
      replace ho := owns_alloc hw ho
      replace q3 := keep_alloc hw q3
      replace E := ext_alloc E hw
      replace EL2 := ext_alloc EL2 hw
      have q11 := new_row hw hn
      clear hw hn
      refine sq_to rfl rfl (R_storeRow rfl (F.at rfl) (F.at rfl) (by kernel_rfl) (by first | (simp [Value.oneCell']; done) | (simp [Value.oneCell', grRow, rdRow, lkRow]; done)) q11 rfl) ?_; intro w5 hw
      replace ho := owns_cellsX hw ho (own_ne_type ho q11 (by decide))
      replace q3 := keep_cells hw q3 (by omega)
      replace q11 := put_row hw q11 rfl
      replace E := ext_cells E hw (fun h => by first | exact absurd h (by omega) | simp)
      replace EL2 := ext_cells EL2 hw (fun h => by first | exact absurd h (by omega) | simp)
      clear hw
      refine wpList_nil ?_
      refine hK14 _ _ ?_
      clear hK14
      refine wp_seq_k fun K16 hK16 => ?_
      have y3 := hrd.out _ (getD_mem (0, 0, 0, 0) (show j < t.rd.length by omega))
      obtain ⟨x1, x2, x3, x4⟩ := idx_in (S := t.S) (A := t.A) (s := (t.rd.getD j (0, 0, 0, 0)).1) (a := (t.rd.getD j (0, 0, 0, 0)).2.1) (by omega) (by omega) (by omega) (by omega) (by omega) (by omega)
      have y1 := hsm.out ((t.rd.getD j (0, 0, 0, 0)).1 * t.A + (t.rd.getD j (0, 0, 0, 0)).2.1).toNat
      refine wp_region_st 16 follows (by kernel_rfl) fun w6 hh eh => ?_
      replace q3 := keep_same hh q3
      replace q11 := keep_same hh q11
      replace E := ext_same E eh
      replace EL2 := ext_same EL2 eh
      replace ho := owns_same hh ho
      clear hh eh
      refine F.sv (R_field rfl (F.at rfl) Try.underlying66 rfl (n := 3) (sz := 1) rfl (by kernel_rfl) (by decide)) ?_; clear F fa; intro fa F
      refine F.sv (R_load rfl (F.at rfl) Try.underlying3 rfl ((cells_of_block q11 3).trans (getS (getS (getS (get0)))))) ?_; clear F fa; intro fa F
      refine F.smv ?_; clear F fa; intro fa F
      refine F.sv (R_sub rfl (F.at rfl) (F.at rfl) (by omega) (by omega)) ?_; clear F fa; intro fa F
      refine F.smv ?_; clear F fa; intro fa F
      refine F.sv (R_field rfl (F.at rfl) Try.underlying66 rfl (n := 0) (sz := 1) rfl (by kernel_rfl) (by decide)) ?_; clear F fa; intro fa F
      refine F.sv (R_load rfl (F.at rfl) Try.underlying3 rfl ((cells_of_block q11 0).trans (get0))) ?_; clear F fa; intro fa F
      refine F.sv (R_field rfl (F.at rfl) Try.underlying28 rfl (n := 1) (sz := 1) rfl (by kernel_rfl) (by decide)) ?_; clear F fa; intro fa F
      refine F.sv (R_load rfl (F.at rfl) Try.underlying3 rfl ((cells_of_block q3 1).trans (getS (get0)))) ?_; clear F fa; intro fa F
      refine F.sv (R_mul rfl (F.at rfl) (F.at rfl) (by omega) (by omega)) ?_; clear F fa; intro fa F
      refine F.sv (R_field rfl (F.at rfl) Try.underlying66 rfl (n := 1) (sz := 1) rfl (by kernel_rfl) (by decide)) ?_; clear F fa; intro fa F
      refine F.sv (R_load rfl (F.at rfl) Try.underlying3 rfl ((cells_of_block q11 1).trans (getS (get0)))) ?_; clear F fa; intro fa F
      refine F.sv (R_add rfl (F.at rfl) (F.at rfl) (by omega) (by omega)) ?_; clear F fa; intro fa F
      obtain ⟨xb17, xo17, xa17, xr17⟩ := HM.out (((((t.rd.getD j (0, 0, 0, 0)).1) * t.A) + ((t.rd.getD j (0, 0, 0, 0)).2.1)).toNat) (by omega)
      refine F.sv (R_ixSlice (sz := 1) rfl ((F.at rfl).trans (xa17 _ _)) (F.at rfl) Try.underlying29 (by kernel_rfl) (by omega) (by omega)) ?_; clear F fa; intro fa F
      refine F.sv (R_load rfl (F.at rfl) Try.underlying3 rfl (xr17 _ E 0 _ rfl)) ?_; clear F fa; intro fa F
      refine F.sv (R_sub rfl (F.at rfl) (F.at rfl) (by omega) (by omega)) ?_; clear F fa; intro fa F
      refine wpStill_nil ?_
      refine F.as ?_; clear F fa; intro fa F
      refine wpList_nil ?_
      refine hK16 _ _ ?_
      clear hK16
      refine wp_region_lit ?_
      refine F.mv ?_; clear F fa; intro fa F
      refine F.mv ?_; clear F fa; intro fa F
      cases hg1 : bm
      · skip
        replace F := F.re (k := 52) rfl (congrArg Value.bool hg1)
        refine sq_no F rfl (by decide) (wantF F rfl rfl (by decide) rfl (by decide)) ?_; clear F fa; intro fa F
        refine sq_no F rfl (by decide) (wantF F rfl rfl (by decide) rfl (by decide)) ?_; clear F fa; intro fa F
        refine sq_no F rfl (by decide) (wantF F rfl rfl (by decide) rfl (by decide)) ?_; clear F fa; intro fa F
        refine sq_no F rfl (by decide) (wantF F rfl rfl (by decide) rfl (by decide)) ?_; clear F fa; intro fa F
        refine sq_no F rfl (by decide) (wantF F rfl rfl (by decide) rfl (by decide)) ?_; clear F fa; intro fa F
        refine sq_no F rfl (by decide) (wantU F rfl rfl (by decide) rfl) ?_; clear F fa; intro fa F
        refine sq_no F rfl (by decide) (wantU F rfl rfl (by decide) rfl) ?_; clear F fa; intro fa F
        refine sq_no F rfl (by decide) (wantU F rfl rfl (by decide) rfl) ?_; clear F fa; intro fa F
        refine sq_no F rfl (by decide) (wantU F rfl rfl (by decide) rfl) ?_; clear F fa; intro fa F
        refine sq_no F rfl (by decide) (wantU F rfl rfl (by decide) rfl) ?_; clear F fa; intro fa F
        refine sq_no F rfl (by decide) (wantU F rfl rfl (by decide) rfl) ?_; clear F fa; intro fa F
        refine sq_no F rfl (by decide) (wantU F rfl rfl (by decide) rfl) ?_; clear F fa; intro fa F
        refine sq_no F rfl (by decide) (wantU F rfl rfl (by decide) rfl) ?_; clear F fa; intro fa F
        refine sq_no F rfl (by decide) (wantU F rfl rfl (by decide) rfl) ?_; clear F fa; intro fa F
        refine sq_no F rfl (by decide) (wantU F rfl rfl (by decide) rfl) ?_; clear F fa; intro fa F
        refine sq_no F rfl (by decide) (wantU F rfl rfl (by decide) rfl) ?_; clear F fa; intro fa F
        refine sq_no F rfl (by decide) (wantF F rfl rfl (by decide) rfl (by decide)) ?_; clear F fa; intro fa F
        refine F.vl (R_pickF rfl (F.at rfl) (ev_c fa _)) ?_; clear F fa; intro fa F
        refine F.as ?_; clear F fa; intro fa F
        refine wpList_nil ?_
        first | have hb2 := Lib.hid (fine_step (b' := false) hb.out (iff_of_false (by decide) (fun h => by first | (have := h.1; simp_all; done) | (have q := h.2; unfold ReadP at q; omega)))) | have hb2 := Lib.hid (fine_step (b' := true) hb.out (iff_of_true rfl ⟨by assumption, fun he => by omega⟩)) | have hb2 := Lib.hid (fine_step (b' := decide ((t.rd.getD j (0, 0, 0, 0)).2.2.2 - (t.pl + ((i : Nat) : Int)) - m.getD ((t.rd.getD j (0, 0, 0, 0)).1 * t.A + (t.rd.getD j (0, 0, 0, 0)).2.1).toNat 0 ≤ t.sl)) hb.out (decide_eq_true_iff.trans ⟨fun h => ⟨by assumption, fun _ => ⟨by omega, by omega⟩⟩, fun h => (h.2 (by omega)).2⟩))
        refine hK13 _ _ ?_
        clear hK13
        refine wp_region_lit ?_
        refine F.mv ?_; clear F fa; intro fa F
        refine F.vl (R_add rfl (F.at rfl) (ev_c fa _) (by omega) (by omega)) ?_; clear F fa; intro fa F
        refine F.as ?_; clear F fa; intro fa F
        refine wpList_nil ?_
        show _ ∧ _
        exact ⟨by omega, _, ⟨_, rfl, EL2, hb2⟩, F.sub (.c 9 rfl (.c 10 rfl (.c 1 rfl (.c 2 rfl (.c 3 rfl (.c 7 rfl (.c 8 rfl .n)))))))⟩
      · skip
        replace F := F.re (k := 52) rfl (congrArg Value.bool hg1)
        refine F.vl (R_field rfl (F.at rfl) Try.underlying66 rfl (n := 2) (sz := 1) rfl (by kernel_rfl) (by decide)) ?_ (hw := (wantT F rfl rfl (by decide) rfl)); clear F fa; intro fa F
        refine F.vl (R_load rfl (F.at rfl) Try.underlying3 rfl ((cells_of_block q11 2).trans (getS (getS (get0))))) ?_ (hw := (wantT F rfl rfl (by decide) rfl)); clear F fa; intro fa F
        refine F.mv ?_ (hw := (wantT F rfl rfl (by decide) rfl)); clear F fa; intro fa F
        refine F.vl (R_neqD rfl (F.at rfl) (F.at rfl)) ?_ (hw := (wantT F rfl rfl (by decide) rfl)); clear F fa; intro fa F
        refine F.mv ?_ (hw := (wantT F rfl rfl (by decide) rfl)); clear F fa; intro fa F
        by_cases hg2 : (¬ (((t.rd.getD j (0, 0, 0, 0)).2.2.1) = k))
        · skip
          replace F := F.re (k := 57) rfl (congrArg Value.bool (decide_eq_true hg2))
          refine sq_no F rfl (by decide) (wantF F rfl rfl (by decide) rfl (by decide)) ?_; clear F fa; intro fa F
          refine sq_no F rfl (by decide) (wantF F rfl rfl (by decide) rfl (by decide)) ?_; clear F fa; intro fa F
          refine sq_no F rfl (by decide) (wantF F rfl rfl (by decide) rfl (by decide)) ?_; clear F fa; intro fa F
          refine sq_no F rfl (by decide) (wantF F rfl rfl (by decide) rfl (by decide)) ?_; clear F fa; intro fa F
          refine sq_no F rfl (by decide) (wantF F rfl rfl (by decide) rfl (by decide)) ?_; clear F fa; intro fa F
          refine sq_no F rfl (by decide) (wantF F rfl rfl (by decide) rfl (by decide)) ?_; clear F fa; intro fa F
          refine sq_no F rfl (by decide) (wantU F rfl rfl (by decide) rfl) ?_; clear F fa; intro fa F
          refine sq_no F rfl (by decide) (wantU F rfl rfl (by decide) rfl) ?_; clear F fa; intro fa F
          refine sq_no F rfl (by decide) (wantU F rfl rfl (by decide) rfl) ?_; clear F fa; intro fa F
          refine sq_no F rfl (by decide) (wantU F rfl rfl (by decide) rfl) ?_; clear F fa; intro fa F
          refine sq_no F rfl (by decide) (wantF F rfl rfl (by decide) rfl (by decide)) ?_; clear F fa; intro fa F
          refine F.vl (R_pickT rfl (F.at rfl) (ev_c fa _)) ?_ (hw := (wantT F rfl rfl (by decide) rfl)); clear F fa; intro fa F
          refine F.vl (R_pickT rfl (F.at rfl) (F.at rfl)) ?_; clear F fa; intro fa F
          refine F.as ?_; clear F fa; intro fa F
          refine wpList_nil ?_
          first | have hb2 := Lib.hid (fine_step (b' := false) hb.out (iff_of_false (by decide) (fun h => by first | (have := h.1; simp_all; done) | (have q := h.2; unfold ReadP at q; omega)))) | have hb2 := Lib.hid (fine_step (b' := true) hb.out (iff_of_true rfl ⟨by assumption, fun he => by omega⟩)) | have hb2 := Lib.hid (fine_step (b' := decide ((t.rd.getD j (0, 0, 0, 0)).2.2.2 - (t.pl + ((i : Nat) : Int)) - m.getD ((t.rd.getD j (0, 0, 0, 0)).1 * t.A + (t.rd.getD j (0, 0, 0, 0)).2.1).toNat 0 ≤ t.sl)) hb.out (decide_eq_true_iff.trans ⟨fun h => ⟨by assumption, fun _ => ⟨by omega, by omega⟩⟩, fun h => (h.2 (by omega)).2⟩))
          refine hK13 _ _ ?_
          clear hK13
          refine wp_region_lit ?_
          refine F.mv ?_; clear F fa; intro fa F
          refine F.vl (R_add rfl (F.at rfl) (ev_c fa _) (by omega) (by omega)) ?_; clear F fa; intro fa F
          refine F.as ?_; clear F fa; intro fa F
          refine wpList_nil ?_
          show _ ∧ _
          exact ⟨by omega, _, ⟨_, rfl, EL2, hb2⟩, F.sub (.c 9 rfl (.c 10 rfl (.c 1 rfl (.c 2 rfl (.c 3 rfl (.c 7 rfl (.c 8 rfl .n)))))))⟩
        · skip
          replace F := F.re (k := 57) rfl (congrArg Value.bool (decide_eq_false hg2))
          refine F.mv ?_ (hw := (wantT F rfl rfl (by decide) rfl)); clear F fa; intro fa F
          refine F.vl (R_field rfl (F.at rfl) Try.underlying28 rfl (n := 7) (sz := 1) rfl (by kernel_rfl) (by decide)) ?_ (hw := (wantT F rfl rfl (by decide) rfl)); clear F fa; intro fa F
          refine F.vl (R_load rfl (F.at rfl) Try.underlying3 rfl ((cells_of_block q3 7).trans (getS (getS (getS (getS (getS (getS (getS (get0)))))))))) ?_ (hw := (wantT F rfl rfl (by decide) rfl)); clear F fa; intro fa F
          refine F.vl (R_neg rfl (F.at rfl) (by omega) (by omega)) ?_ (hw := (wantT F rfl rfl (by decide) rfl)); clear F fa; intro fa F
          refine F.vl (R_geq rfl (F.at rfl) (F.at rfl)) ?_ (hw := (wantT F rfl rfl (by decide) rfl)); clear F fa; intro fa F
          refine F.mv ?_ (hw := (wantT F rfl rfl (by decide) rfl)); clear F fa; intro fa F
          by_cases hg3 : ((-t.sl) ≤ ((((t.rd.getD j (0, 0, 0, 0)).2.2.2) - (t.pl + ((i : Nat) : Int))) - (m.getD (((((t.rd.getD j (0, 0, 0, 0)).1) * t.A) + ((t.rd.getD j (0, 0, 0, 0)).2.1)).toNat) 0)))
          · skip
            replace F := F.re (k := 63) rfl (congrArg Value.bool (decide_eq_true hg3))
            refine F.mv ?_ (hw := (wantT F rfl rfl (by decide) rfl)); clear F fa; intro fa F
            refine F.vl (R_field rfl (F.at rfl) Try.underlying28 rfl (n := 7) (sz := 1) rfl (by kernel_rfl) (by decide)) ?_ (hw := (wantT F rfl rfl (by decide) rfl)); clear F fa; intro fa F
            refine F.vl (R_load rfl (F.at rfl) Try.underlying3 rfl ((cells_of_block q3 7).trans (getS (getS (getS (getS (getS (getS (getS (get0)))))))))) ?_ (hw := (wantT F rfl rfl (by decide) rfl)); clear F fa; intro fa F
            refine F.vl (R_leq rfl (F.at rfl) (F.at rfl)) ?_ (hw := (wantT F rfl rfl (by decide) rfl)); clear F fa; intro fa F
            refine F.vl (R_pickT rfl (F.at rfl) (F.at rfl)) ?_ (hw := (wantT F rfl rfl (by decide) rfl)); clear F fa; intro fa F
            refine F.vl (R_pickF rfl (F.at rfl) (F.at rfl)) ?_ (hw := (wantT F rfl rfl (by decide) rfl)); clear F fa; intro fa F
            refine F.vl (R_pickT rfl (F.at rfl) (F.at rfl)) ?_; clear F fa; intro fa F
            refine F.as ?_; clear F fa; intro fa F
            refine wpList_nil ?_
            first | have hb2 := Lib.hid (fine_step (b' := false) hb.out (iff_of_false (by decide) (fun h => by first | (have := h.1; simp_all; done) | (have q := h.2; unfold ReadP at q; omega)))) | have hb2 := Lib.hid (fine_step (b' := true) hb.out (iff_of_true rfl ⟨by assumption, fun he => by omega⟩)) | have hb2 := Lib.hid (fine_step (b' := decide ((t.rd.getD j (0, 0, 0, 0)).2.2.2 - (t.pl + ((i : Nat) : Int)) - m.getD ((t.rd.getD j (0, 0, 0, 0)).1 * t.A + (t.rd.getD j (0, 0, 0, 0)).2.1).toNat 0 ≤ t.sl)) hb.out (decide_eq_true_iff.trans ⟨fun h => ⟨by assumption, fun _ => ⟨by omega, by omega⟩⟩, fun h => (h.2 (by omega)).2⟩))
            refine hK13 _ _ ?_
            clear hK13
            refine wp_region_lit ?_
            refine F.mv ?_; clear F fa; intro fa F
            refine F.vl (R_add rfl (F.at rfl) (ev_c fa _) (by omega) (by omega)) ?_; clear F fa; intro fa F
            refine F.as ?_; clear F fa; intro fa F
            refine wpList_nil ?_
            show _ ∧ _
            exact ⟨by omega, _, ⟨_, rfl, EL2, hb2⟩, F.sub (.c 9 rfl (.c 10 rfl (.c 1 rfl (.c 2 rfl (.c 3 rfl (.c 7 rfl (.c 8 rfl .n)))))))⟩
          · skip
            replace F := F.re (k := 63) rfl (congrArg Value.bool (decide_eq_false hg3))
            refine sq_no F rfl (by decide) (wantF F rfl rfl (by decide) rfl (by decide)) ?_; clear F fa; intro fa F
            refine sq_no F rfl (by decide) (wantF F rfl rfl (by decide) rfl (by decide)) ?_; clear F fa; intro fa F
            refine sq_no F rfl (by decide) (wantF F rfl rfl (by decide) rfl (by decide)) ?_; clear F fa; intro fa F
            refine sq_no F rfl (by decide) (wantF F rfl rfl (by decide) rfl (by decide)) ?_; clear F fa; intro fa F
            refine F.vl (R_pickF rfl (F.at rfl) (ev_c fa _)) ?_ (hw := (wantT F rfl rfl (by decide) rfl)); clear F fa; intro fa F
            refine F.vl (R_pickF rfl (F.at rfl) (F.at rfl)) ?_ (hw := (wantT F rfl rfl (by decide) rfl)); clear F fa; intro fa F
            refine F.vl (R_pickT rfl (F.at rfl) (F.at rfl)) ?_; clear F fa; intro fa F
            refine F.as ?_; clear F fa; intro fa F
            refine wpList_nil ?_
            first | have hb2 := Lib.hid (fine_step (b' := false) hb.out (iff_of_false (by decide) (fun h => by first | (have := h.1; simp_all; done) | (have q := h.2; unfold ReadP at q; omega)))) | have hb2 := Lib.hid (fine_step (b' := true) hb.out (iff_of_true rfl ⟨by assumption, fun he => by omega⟩)) | have hb2 := Lib.hid (fine_step (b' := decide ((t.rd.getD j (0, 0, 0, 0)).2.2.2 - (t.pl + ((i : Nat) : Int)) - m.getD ((t.rd.getD j (0, 0, 0, 0)).1 * t.A + (t.rd.getD j (0, 0, 0, 0)).2.1).toNat 0 ≤ t.sl)) hb.out (decide_eq_true_iff.trans ⟨fun h => ⟨by assumption, fun _ => ⟨by omega, by omega⟩⟩, fun h => (h.2 (by omega)).2⟩))
            refine hK13 _ _ ?_
            clear hK13
            refine wp_region_lit ?_
            refine F.mv ?_; clear F fa; intro fa F
            refine F.vl (R_add rfl (F.at rfl) (ev_c fa _) (by omega) (by omega)) ?_; clear F fa; intro fa F
            refine F.as ?_; clear F fa; intro fa F
            refine wpList_nil ?_
            show _ ∧ _
            exact ⟨by omega, _, ⟨_, rfl, EL2, hb2⟩, F.sub (.c 9 rfl (.c 10 rfl (.c 1 rfl (.c 2 rfl (.c 3 rfl (.c 7 rfl (.c 8 rfl .n)))))))⟩
    · skip
      refine wp_exit ?_
      obtain rfl : j = t.rd.length := by omega
      refine hK9 _ _ ?_
      clear hK9
      refine wp_seq_k fun K18 hK18 => ?_
      refine wp_region_lit ?_
      refine F.mv ?_; clear F fa; intro fa F
      refine wpList_nil ?_
      refine hK18 _ _ ?_
      clear hK18
      refine cd_b F rfl (fun hc71 => ?_) (fun hc71 => ?_)
      · skip
        have hyes : pullP t m k (t.pl + (i : Int)) := hb.out.1 hc71
        refine wp_region_lit ?_
        refine F.mv ?_; clear F fa; intro fa F
        refine F.mv ?_; clear F fa; intro fa F
        refine sq_new F rfl (by decide) rfl (R_buildSliceV rfl (prS (F.at rfl) pr0) Try.underlying29 (size := 1) (by kernel_rfl) (by decide) (by decide) Try.zeroValue3 (cells := #[.int .i64 (t.pl + ((i : Nat) : Int))]) (by kernel_rfl)) ?_; clear F fa; intro fa w7 F hw
        obtain ⟨n74, hn⟩ : ∃ n, n = w3.heap.size := ⟨_, rfl⟩
        rw [← hn] at F
        have s74 : w3.heap.size ≤ n74 := Nat.le_of_eq hn.symm
        have l74_E : w.heap.size ≤ n74 := by rw [hn]; exact E.size
        have m74_3 : n3 < n74 := by rw [hn]; exact blk_lt q3
        have o74_ho := Lib.hid (own_ne_new ho hn)
        replace ho := owns_alloc hw ho
        replace q3 := keep_alloc hw q3
        replace E := ext_alloc E hw
        have q74 := new_block hw hn
        clear hw hn
        have hEs := E.size
        refine sq_some F rfl (by decide) rfl (append_run rfl (w.heap.size) (e := 3) (size := 1) (bytes := 8) Try.underlying29 (by kernel_rfl) (by decide) (F.at rfl) ho (F.at rfl) q74 rfl (by simp [Value.oneCell']) (by omega) (by omega) (by omega)) ?_; clear F fa; rintro fa v' w8 F ⟨hown', hg⟩
        obtain ⟨va75, vc75, rfl⟩ := owns_slice hown'
        replace q3 := keep_type ho hg q3 (by decide)
        replace E := ext_appendX E ho hg (by omega)
        replace ho := hown'
        clear hg
        obtain ⟨P2, hP2e⟩ : ∃ P2, P2 = R ++ [t.pl + ((i : Nat) : Int)] := ⟨_, rfl⟩
        have hPl3 : R.length + 1 = P2.length := by rw [hP2e, List.length_append]; rfl
        have hRl2 : P2.length ≤ i + 1 := by omega
        have hR2 : Hid (∀ p, p ∈ P2 ↔ (t.pl ≤ p ∧ p < t.pl + ((i + 1 : Nat) : Int) ∧ pullP t m k p)) := Lib.hid fun p => by rw [hP2e, List.mem_append, List.mem_singleton, hR.out p]; exact ⟨fun h => h.elim (fun h => ⟨h.1, by omega, h.2.2⟩) (fun e => by subst e; exact ⟨by omega, by omega, hyes⟩), fun h => if e : p = t.pl + (i : Int) then .inr e else .inl ⟨h.1, by omega, h.2.2⟩⟩
        rw [ivs_snoc1, ← hP2e, hPl3] at ho
        rw [hPl3] at F
        refine F.as ?_; clear F fa; intro fa F
        refine wpList_nil ?_
        refine hK7 _ _ ?_
        clear hK7
        refine wp_region_lit ?_
        refine F.mv ?_; clear F fa; intro fa F
        refine F.vl (R_add rfl (F.at rfl) (ev_c fa _) (by omega) (by omega)) ?_; clear F fa; intro fa F
        rw [show t.pl + ((i : Nat) : Int) + 1 = t.pl + ((i + 1 : Nat) : Int) by omega] at F
        refine F.as ?_; clear F fa; intro fa F
        refine wpList_nil ?_
        show _ ∧ _
        exact ⟨by omega, _, ⟨_, _, _, rfl, E, q3, ho, hR2, hRl2⟩, F.sub (.c 7 rfl (.c 8 rfl (.c 1 rfl (.c 2 rfl (.c 3 rfl .n)))))⟩
      · skip
        have hno : ¬ pullP t m k (t.pl + (i : Int)) := fun h => by have := hb.out.2 h; rw [hc71] at this; cases this
        have hRl2 : R.length ≤ i + 1 := by omega
        have hR2 : Hid (∀ p, p ∈ R ↔ (t.pl ≤ p ∧ p < t.pl + ((i + 1 : Nat) : Int) ∧ pullP t m k p)) := Lib.hid fun p => (hR.out p).trans ⟨fun h => ⟨h.1, by omega, h.2.2⟩, fun h => ⟨h.1, (if e : p = t.pl + (i : Int) then absurd (e ▸ h.2.2) hno else by omega), h.2.2⟩⟩
        refine wp_skip ?_
        refine hK7 _ _ ?_
        clear hK7
        refine wp_region_lit ?_
        refine F.mv ?_; clear F fa; intro fa F
        refine F.vl (R_add rfl (F.at rfl) (ev_c fa _) (by omega) (by omega)) ?_; clear F fa; intro fa F
        rw [show t.pl + ((i : Nat) : Int) + 1 = t.pl + ((i + 1 : Nat) : Int) by omega] at F
        refine F.as ?_; clear F fa; intro fa F
        refine wpList_nil ?_
        show _ ∧ _
        exact ⟨by omega, _, ⟨_, _, _, rfl, E, q3, ho, hR2, hRl2⟩, F.sub (.c 7 rfl (.c 8 rfl (.c 1 rfl (.c 2 rfl (.c 3 rfl .n)))))⟩
  · skip
    refine wp_exit ?_
    refine hK3 _ _ ?_
    clear hK3
    refine wp_seq_k fun K19 hK19 => ?_
    refine wp_region_lit ?_
    refine F.mv ?_; clear F fa; intro fa F
    refine F.as ?_; clear F fa; intro fa F
    refine wpList_nil ?_
    refine hK19 _ _ ?_
    clear hK19
    refine wp_ret ?_
    (try simp only [Exit.inBlock, Exit.then])
    refine rt_v F (rs_1 F rfl rfl) ?_
    exact ⟨R, va, vc, rfl, fun p => (hR.out p).trans ⟨fun h => ⟨h.1, by omega, h.2.2⟩, fun h => ⟨h.1, by omega, h.2.2⟩⟩, by omega, ho, E⟩
theorem int_one (x : Int) : ∀ u ∈ intRow x, u.oneCell' = true := by simp [intRow, Value.oneCell']
theorem flat_take {L : List (List Int)} {i : Nat} (h : i < L.length) : (L.take (i + 1)).flatten = (L.take i).flatten ++ L.getD i [] := by
  rw [take_snoc [] h, List.flatten_append]
  simp
theorem flat_lens {L : List (List Int)} {A : Nat} (h : ∀ l ∈ L, l.length = A) : L.flatten.length = L.length * A := by
  induction L with
  | nil => simp
  | cons a l ih =>
    rw [List.flatten_cons, List.length_append, h a (by simp), ih fun x hx => h x (by simp [hx]), List.length_cons, Nat.add_mul]
    omega
set_option maxRecDepth 100000 in
set_option maxHeartbeats 1000000 in
theorem right_yes {t : Tp} (ok : t.Ok) (L : List (Value × List Int)) (hLl : (L.length : Int) = t.S) (hrow : ∀ p ∈ L, (p.2.length : Int) = t.A) (m : List Int) (hm : m = (L.map (·.2)).flatten) (l : List Int) (hl : (l.length : Int) = t.T)
    (hg : growP t m) (hp : ∀ i : Nat, (i : Int) < t.T → t.pl ≤ l.getD i 0 ∧ l.getD i 0 ≤ t.pm ∧ pullP t m i (l.getD i 0)) (hs : ∀ x ∈ m, -100000 ≤ x ∧ x ≤ 100000)
    (ga ra la ya pa : Option Addr) (gc rc lc yc pc : Nat) (w : World) (ht : IsTp w (.slice ga t.gr.length gc) (.slice ra t.rd.length rc) (.slice la t.lk.length lc) t)
    (HLs : SlAt [] w ya 1 L.length (fun i => [(L.getD i (.bool true, [])).1])) (HLr : ∀ p ∈ L, RowOf w p.1 p.2) (hpr : IsRows w (.slice pa l.length pc) 1 (l.map intRow)) :
    Calls Try.prog 67 #[tpV t (.slice ga t.gr.length gc) (.slice ra t.rd.length rc) (.slice la t.lk.length lc), .slice ya L.length yc, .slice pa l.length pc] w fun e w' => e = .returned (.bool true) ∧ Ext [] w w' := by
  have E : Ext [] w w := Ext.refl _ _
  have HT := Lib.hid ht
  have HY := Lib.hid HLs
  have HR := Lib.hid HLr
  have HP := Lib.hid (slAt_of_rows hpr 0)
  have Hs := Lib.hid hs
  have Hp := Lib.hid hp
  have Hrow := Lib.hid hrow
  have o1 := ok.S1
  have o2 := ok.S3
  have o3 := ok.A1
  have o4 := ok.A3
  have o5 := ok.T1
  have o6 := ok.T3
  have hml : (m.length : Int) = t.S * t.A := by
    rw [hm, flat_lens (A := t.A.toNat) fun x hx => by obtain ⟨p, hp, rfl⟩ := List.mem_map.1 hx; have := hrow p hp; omega, List.length_map, Int.natCast_mul, hLl]
    congr 1
    omega
  obtain ⟨x1, x2, x3, x4⟩ := idx_in (S := t.S) (A := t.A) (s := 0) (a := 0) (by omega) (by omega) (by omega) (by omega) (by omega) (by omega)
  clear ht HLs HLr hpr hs hp hrow
  have ho : w.ownsRow w.heap.size 3 1 (.slice none 0 0) 0 (ivs []) := World.ownsRow_nil _ _ _ _
  unfold tpV
  refine calls_has 61 Try.func67 rfl Try.ntmps67 (Nat.le_of_ble_eq_true rfl) ?_
  intro fa F
  refine wp_seq_k fun K1 hK1 => ?_
  refine wp_region_lit ?_
  refine sq_new F rfl (by decide) rfl (R_box rfl (F.at rfl)) ?_; clear F fa; intro fa w1 F hw
  obtain ⟨n3, hn⟩ : ∃ n, n = w.heap.size := ⟨_, rfl⟩
  rw [← hn] at F
  have s3 : w.heap.size ≤ n3 := Nat.le_of_eq hn.symm
  have l3_E : w.heap.size ≤ n3 := by rw [hn]; exact E.size
  have o3_ho := Lib.hid (own_ne_new ho hn)
  replace ho := owns_alloc hw ho
  replace E := ext_alloc E hw
  have q3 := new_row hw hn
  clear hw hn
  refine F.vl (R_assign rfl (ev_c fa _)) ?_; clear F fa; intro fa F
  refine wpList_nil ?_
  refine hK1 _ _ ?_
  clear hK1
  refine wp_seq_k fun K2 hK2 => ?_
  refine wp_seq_k fun K3 hK3 => ?_
  refine wp_region_lit ?_
  refine F.mv ?_; clear F fa; intro fa F
  refine F.vl (R_len rfl rfl (F.at rfl) Try.underlying50) ?_; clear F fa; intro fa F
  refine F.vl (R_field rfl (F.at rfl) Try.underlying28 rfl (n := 0) (sz := 1) rfl (by kernel_rfl) (by decide)) ?_; clear F fa; intro fa F
  refine F.vl (R_load rfl (F.at rfl) Try.underlying3 rfl ((cells_of_block q3 0).trans (get0))) ?_; clear F fa; intro fa F
  refine F.vl (R_neqB (b := false) rfl (F.at rfl) (F.at rfl) (decide_eq_true (hLl))) ?_; clear F fa; intro fa F
  refine F.mv ?_; clear F fa; intro fa F
  refine F.mv ?_ (hw := (wantT F rfl rfl (by decide) rfl)); clear F fa; intro fa F
  refine F.vl (R_len rfl rfl (F.at rfl) Try.underlying29) ?_ (hw := (wantT F rfl rfl (by decide) rfl)); clear F fa; intro fa F
  refine F.vl (R_field rfl (F.at rfl) Try.underlying28 rfl (n := 2) (sz := 1) rfl (by kernel_rfl) (by decide)) ?_ (hw := (wantT F rfl rfl (by decide) rfl)); clear F fa; intro fa F
  refine F.vl (R_load rfl (F.at rfl) Try.underlying3 rfl ((cells_of_block q3 2).trans (getS (getS (get0))))) ?_ (hw := (wantT F rfl rfl (by decide) rfl)); clear F fa; intro fa F
  refine F.vl (R_neqB (b := false) rfl (F.at rfl) (F.at rfl) (decide_eq_true (hl))) ?_ (hw := (wantT F rfl rfl (by decide) rfl)); clear F fa; intro fa F
  refine F.vl (R_pickF rfl (F.at rfl) (F.at rfl)) ?_; clear F fa; intro fa F
  refine wpList_nil ?_
  refine hK3 _ _ ?_
  clear hK3
  refine cd_F F rfl ?_
  refine wp_skip ?_
  refine hK2 _ _ ?_
  clear hK2
  refine wp_seq_k fun K4 hK4 => ?_
  refine wp_region_lit ?_
  refine F.vl (R_assign rfl (ev_c fa _)) ?_; clear F fa; intro fa F
  refine wpList_nil ?_
  refine hK4 _ _ ?_
  clear hK4
  refine wp_seq_k fun K5 hK5 => ?_
  refine wp_seq_k fun K6 hK6 => ?_
  refine wp_region_lit ?_
  refine F.vl (R_assign rfl (ev_c fa _)) ?_; clear F fa; intro fa F
  refine wpList_nil ?_
  refine hK6 _ _ ?_
  clear hK6
  refine wp_block ?_
  have F0 := F.sub (.c 1 rfl (.c 2 rfl (.c 3 rfl .n)))
  refine lp_for F0 (L.length) (fun i Lv W => ∃ va : Option Addr, ∃ vc : Nat, ∃ R : List Int, Lv = [(7, .slice va R.length vc), (8, .int .i64 ((i : Nat) : Int))] ∧ Ext [] w W ∧ W.heap[n3]? = some (.cells #[.int .i64 t.S, .int .i64 t.A, .int .i64 t.T, .int .i64 t.bl, .int .i64 t.bm, .int .i64 t.pl, .int .i64 t.pm, .int .i64 t.sl, .slice ga t.gr.length gc, .slice ra t.rd.length rc, .slice la t.lk.length lc] 28 (0, 0)) ∧ W.ownsRow w.heap.size 3 1 (.slice va R.length vc) R.length (ivs R) ∧ R = ((L.map (·.2)).take i).flatten ∧ R.length ≤ i * 3) ⟨_, ⟨none, 0, [], rfl, E, q3, ho, rfl, Nat.le_refl _⟩, F.sub (.c 7 rfl (.c 8 rfl (.c 1 rfl (.c 2 rfl (.c 3 rfl .n)))))⟩ ?_
  clear F F0
  clear E q3
  clear ho
  rintro i _ fa w2 hi1 ⟨va, vc, R, rfl, E, q3, ho, hR, hRl⟩ F
  refine wp_seq_k fun K7 hK7 => ?_
  refine wp_seq_k fun K8 hK8 => ?_
  refine wp_region_lit ?_
  refine F.mv ?_; clear F fa; intro fa F
  refine F.vl (R_field rfl (F.at rfl) Try.underlying28 rfl (n := 0) (sz := 1) rfl (by kernel_rfl) (by decide)) ?_; clear F fa; intro fa F
  refine F.vl (R_load rfl (F.at rfl) Try.underlying3 rfl ((cells_of_block q3 0).trans (get0))) ?_; clear F fa; intro fa F
  refine F.vl (R_lss rfl (F.at rfl) (F.at rfl)) ?_; clear F fa; intro fa F
  refine wpList_nil ?_
  refine hK8 _ _ ?_
  clear hK8
  refine cd_if F rfl (fun hc25 => ?_) (fun hc25 => ?_)
  · skip
    refine wp_skip ?_
    refine hK7 _ _ ?_
    clear hK7
    refine wp_seq_k fun K9 hK9 => ?_
    refine wp_block ?_
    refine wp_seq_k fun K10 hK10 => ?_
    refine wp_seq_k fun K11 hK11 => ?_
    have hmm : L.getD i (.bool true, []) ∈ L := getD_mem _ (by omega)
    obtain ⟨za, zc, hz1, hz2⟩ := HR.out _ hmm
    have hzl := Hrow.out _ hmm
    refine wp_region_st 7 follows (by kernel_rfl) fun w3 hh eh => ?_
    replace q3 := keep_same hh q3
    replace E := ext_same E eh
    replace ho := owns_same hh ho
    clear hh eh
    refine F.smv ?_; clear F fa; intro fa F
    refine F.smv ?_; clear F fa; intro fa F
    obtain ⟨xb12, xo12, xa12, xr12⟩ := HY.out i (by omega)
    refine F.sv (R_ixSlice (sz := 1) rfl ((F.at rfl).trans (xa12 _ _)) (F.at rfl) Try.underlying50 (by kernel_rfl) (by omega) (by omega)) ?_; clear F fa; intro fa F
    refine F.sv (R_load rfl (F.at rfl) Try.underlying29 rfl (xr12 _ E 0 _ rfl)) ?_; clear F fa; intro fa F
    rw [hz1] at F
    refine F.sv (R_len rfl rfl (F.at rfl) Try.underlying29) ?_; clear F fa; intro fa F
    refine F.sv (R_field rfl (F.at rfl) Try.underlying28 rfl (n := 1) (sz := 1) rfl (by kernel_rfl) (by decide)) ?_; clear F fa; intro fa F
    refine F.sv (R_load rfl (F.at rfl) Try.underlying3 rfl ((cells_of_block q3 1).trans (getS (get0)))) ?_; clear F fa; intro fa F
    refine wpStill_nil ?_
    refine F.vl (R_neqB (b := false) rfl (F.at rfl) (F.at rfl) (decide_eq_true (hzl))) ?_; clear F fa; intro fa F
    refine wpList_nil ?_
    refine hK11 _ _ ?_
    clear hK11
    refine cd_F F rfl ?_
    refine wp_skip ?_
    refine hK10 _ _ ?_
    clear hK10
    refine wp_region_lit ?_
    refine F.mv ?_; clear F fa; intro fa F
    refine F.mv ?_; clear F fa; intro fa F
    refine F.mv ?_; clear F fa; intro fa F
    obtain ⟨xb13, xo13, xa13, xr13⟩ := HY.out i (by omega)
    refine F.vl (R_ixSlice (sz := 1) rfl ((F.at rfl).trans (xa13 _ _)) (F.at rfl) Try.underlying50 (by kernel_rfl) (by omega) (by omega)) ?_; clear F fa; intro fa F
    refine F.vl (R_load rfl (F.at rfl) Try.underlying29 rfl (xr13 _ E 0 _ rfl)) ?_; clear F fa; intro fa F
    rw [hz1] at F
    have hEs := E.size
    refine sq_some F rfl (by decide) rfl (appends_run rfl (w.heap.size) (e := 3) (size := 1) (bytes := 8) Try.underlying29 (by kernel_rfl) (by decide) (F.at rfl) ho (F.at rfl) (srcAt_of_rows (hz2.ext E (by simp)) (by decide) (fun _ => rfl) int_one) (by omega) (by omega) (by omega)) ?_; clear F fa; rintro fa v' w4 F ⟨hown', hg⟩
    obtain ⟨va41, vc41, rfl⟩ := owns_slice hown'
    replace q3 := keep_type ho hg q3 (by decide)
    replace E := ext_appendX E ho hg (by omega)
    replace ho := hown'
    clear hg
    obtain ⟨P2, hP2e⟩ : ∃ P2, P2 = R ++ (L.getD i (.bool true, [])).2 := ⟨_, rfl⟩
    have hPl3 : R.length + (L.getD i (.bool true, [])).2.length = P2.length := by rw [hP2e, List.length_append]
    have hRl2 : P2.length ≤ (i + 1) * 3 := by omega
    have hR2 : P2 = ((L.map (·.2)).take (i + 1)).flatten := by rw [flat_take (by rw [List.length_map]; omega), getD_key (fun p : Value × List Int => p.2) (.bool true, []) L (by omega), hP2e, hR]
    rw [← ivs_flat, show ivs R ++ ivs (L.getD i (.bool true, [])).2 = ivs P2 by rw [hP2e]; simp [ivs], hPl3] at ho
    rw [hPl3] at F
    refine F.as ?_; clear F fa; intro fa F
    refine wpList_nil ?_
    refine hK9 _ _ ?_
    clear hK9
    refine wp_region_lit ?_
    refine F.mv ?_; clear F fa; intro fa F
    refine F.vl (R_add rfl (F.at rfl) (ev_c fa _) (by omega) (by omega)) ?_; clear F fa; intro fa F
    refine F.as ?_; clear F fa; intro fa F
    refine wpList_nil ?_
    show _ ∧ _
    exact ⟨by omega, _, ⟨_, _, _, rfl, E, q3, ho, hR2, hRl2⟩, F.sub (.c 7 rfl (.c 8 rfl (.c 1 rfl (.c 2 rfl (.c 3 rfl .n)))))⟩
  · skip
    refine wp_exit ?_
    have hRm : R = m := by rw [hR, List.take_of_length_le (by rw [List.length_map]; omega), hm]
    subst hRm
    have HMr := Lib.hid (rows_of_owns (xs := R) (row := intRow) (by rw [← ivs_flat]; exact ho) (fun _ => rfl))
    have EM : Ext [] w2 w2 := Ext.refl _ _
    clear ho
    refine hK5 _ _ ?_
    clear hK5
    refine wp_seq_k fun K14 hK14 => ?_
    refine wp_seq_k fun K15 hK15 => ?_
    refine wp_region_lit ?_
    refine F.vl (R_assign rfl (ev_c fa _)) ?_; clear F fa; intro fa F
    refine wpList_nil ?_
    refine hK15 _ _ ?_
    clear hK15
    refine wp_block ?_
    have F0 := F.sub (.c 2 rfl (.c 3 rfl (.c 7 rfl .n)))
    refine lp_for F0 (t.T.toNat) (fun k Lv W => Lv = [(9, .int .i64 ((k : Nat) : Int))] ∧ Ext [] w2 W) ⟨_, ⟨rfl, Ext.refl _ _⟩, F.sub (.c 9 rfl (.c 2 rfl (.c 3 rfl (.c 7 rfl .n))))⟩ ?_
    clear F F0
    rintro k _ fa w5 hi2 ⟨rfl, EL2⟩ F
    have q3 := EL2.keep0 q3
    have E := E.nil EL2
    have EM := EM.nil EL2
    refine wp_seq_k fun K16 hK16 => ?_
    refine wp_seq_k fun K17 hK17 => ?_
    refine wp_region_lit ?_
    refine F.mv ?_; clear F fa; intro fa F
    refine F.vl (R_field rfl (F.at rfl) Try.underlying28 rfl (n := 2) (sz := 1) rfl (by kernel_rfl) (by decide)) ?_; clear F fa; intro fa F
    refine F.vl (R_load rfl (F.at rfl) Try.underlying3 rfl ((cells_of_block q3 2).trans (getS (getS (get0))))) ?_; clear F fa; intro fa F
    refine F.vl (R_lss rfl (F.at rfl) (F.at rfl)) ?_; clear F fa; intro fa F
    refine wpList_nil ?_
    refine hK17 _ _ ?_
    clear hK17
    refine cd_if F rfl (fun hc45 => ?_) (fun hc45 => ?_)
    · skip
      refine wp_skip ?_
      refine hK16 _ _ ?_
      clear hK16
      refine wp_seq_k fun K18 hK18 => ?_
      refine wp_block ?_
      refine wp_seq_k fun K19 hK19 => ?_
      obtain ⟨y1, y2, y3⟩ := Hp.out k (by omega)
      refine region_x (Ext [] w5) none follows fun w6 hh eh => ?_
      have q3_ := q3
      replace q3 := keep_same hh q3
      have E_ := E
      have zEw6 := E.size
      replace E := ext_same E eh
      have EM_ := EM
      have zEMw6 := EM.size
      replace EM := ext_same EM eh
      have EL2_ := EL2
      have zEL2w6 := EL2.size
      replace EL2 := ext_same EL2 eh
      have eT := eh
      clear hh eh
      refine F.xr (i := 0) rfl (fun w' hS => R_loadBlk rfl (F.at rfl) Try.underlying28 rfl (by kernel_rfl) (hS.keep q3_ (by simp))) (fun _ => eT) ?_; clear F fa; intro fa F
      refine F.x (i := 1) rfl (fun w' => R_move rfl (F.at rfl)) (fun _ => eT) ?_; clear F fa; intro fa F
      refine F.x (i := 2) rfl (fun w' => R_move rfl (F.at rfl)) (fun _ => eT) ?_; clear F fa; intro fa F
      refine F.x (i := 4) rfl (fun w' => R_move rfl (F.at rfl)) (fun _ => eT) ?_; clear F fa; intro fa F
      refine F.x (i := 5) rfl (fun w' => R_move rfl (F.at rfl)) (fun _ => eT) ?_; clear F fa; intro fa F
      obtain ⟨xb20, xo20, xa20, xr20⟩ := HP.out k (by omega)
      refine F.x (i := 6) rfl (fun w' => R_ixSlice (sz := 1) rfl ((F.at rfl).trans (xa20 _ _)) (F.at rfl) Try.underlying29 (by kernel_rfl) (by omega) (by omega)) (fun _ => eT) ?_; clear F fa; intro fa F
      refine F.xr (i := 7) rfl (fun w' hS => R_load rfl (F.at rfl) Try.underlying3 rfl (xr20 _ (E_.nil hS) 0 _ rfl)) (fun _ => eT) ?_; clear F fa; intro fa F
      refine ax_only (i := 3) (by kernel_rfl) (op_call F rfl rfl (by decide) rfl (R_callV rfl rfl Try.call108 (mpS (F.at rfl) (mpS (F.at rfl) (mpS (F.at rfl) mp0)))) (pulls_any ok R (k : Int) hml Hs.out ga ra la _ gc rc lc _ _ (HT.out.ext E (by simp)) (HMr.out.ext EM (by simp))) fun e w7 hR => ?_)
      obtain ⟨K, ka, kc, rfl, hK, hKl, oK, eX⟩ := hR
      refine ⟨_, rfl, ?_⟩; clear F fa; intro fa F
      replace q3 := (eX).keep0 q3
      replace E := ext_same E (eX)
      replace EM := ext_same EM (eX)
      replace EL2 := ext_same EL2 (eX)
      replace eT := ext_same eT (eX)
      refine ⟨fun _ => eT, ?_⟩
      have HKr := Lib.hid (rows_of_owns (xs := K) (row := intRow) (by rw [← ivs_flat]; exact oK) (fun _ => rfl))
      have EK : Ext [] w7 w7 := Ext.refl _ _
      have hin : atI K (l.getD k 0) ≥ 0 := (atI_mem _ _).2 ((hK _).2 ⟨y1, y2, y3⟩)
      clear oK hK eX
      refine ax_only (i := 8) (by kernel_rfl) (op_call F rfl rfl (by decide) rfl (R_callV rfl rfl Try.call60 (mpS (F.at rfl) (mpS (F.at rfl) mp0))) (at_any K _ _ _ _ (HKr.out.ext EK (by simp)) (by omega)) fun e w8 hR => ?_)
      obtain ⟨rfl, e9⟩ := hR
      refine ⟨_, rfl, ?_⟩; clear F fa; intro fa F
      replace q3 := (e9).keep0 q3
      replace E := ext_same E (e9)
      replace EM := ext_same EM (e9)
      replace EL2 := ext_same EL2 (e9)
      replace EK := ext_same EK (e9)
      replace eT := ext_same eT (e9)
      clear e9
      refine ⟨fun _ => eT, ?_⟩
      refine F.x (i := 9) rfl (fun w' => R_lss rfl (F.at rfl) (ev_c fa _)) (fun _ => eT) ?_; clear F fa; intro fa F
      refine ax_done (by kernel_rfl) ?_ _
      clear eT q3_ E_ EM_ EL2_
      refine hK19 _ _ ?_
      clear hK19
      refine cd_Fb F rfl (decide_eq_false ((by omega))) ?_
      refine wp_skip ?_
      refine hK18 _ _ ?_
      clear hK18
      refine wp_region_lit ?_
      refine F.mv ?_; clear F fa; intro fa F
      refine F.vl (R_add rfl (F.at rfl) (ev_c fa _) (by omega) (by omega)) ?_; clear F fa; intro fa F
      refine F.as ?_; clear F fa; intro fa F
      refine wpList_nil ?_
      show _ ∧ _
      exact ⟨by omega, _, ⟨rfl, EL2⟩, F.sub (.c 9 rfl (.c 2 rfl (.c 3 rfl (.c 7 rfl .n))))⟩
    · skip
      refine wp_exit ?_
      refine hK14 _ _ ?_
      clear hK14
      refine wp_seq_k fun K21 hK21 => ?_
      refine wp_region_lit ?_
      refine F.vl (R_loadBlk rfl (F.at rfl) Try.underlying28 rfl (by kernel_rfl) q3) ?_; clear F fa; intro fa F
      refine F.mv ?_; clear F fa; intro fa F
      refine sq_call F rfl (by decide) rfl (R_callV rfl rfl Try.call107 (mpS (F.at rfl) (mpS (F.at rfl) mp0))) (grown_any ok R hml Hs.out ga ra la _ gc rc lc _ _ (HT.out.ext E (by simp)) (HMr.out.ext EM (by simp))) fun e w9 hR => ?_
      obtain ⟨b, rfl, hb, e9⟩ := hR
      refine ⟨_, rfl, ?_⟩; clear F fa; intro fa F
      replace q3 := (e9).keep0 q3
      replace E := ext_same E (e9)
      replace EM := ext_same EM (e9)
      clear e9
      have hbt : b = true := hb.2 hg
      subst hbt
      refine F.as ?_; clear F fa; intro fa F
      refine wpList_nil ?_
      refine hK21 _ _ ?_
      clear hK21
      refine wp_ret ?_
      (try simp only [Exit.inBlock, Exit.then])
      refine rt_v F (rs_1 F rfl rfl) ?_
      exact ⟨rfl, E⟩
/-! ends. -/
section
variable {P : Program} {ρ : Operand → Value} {o : Oper} {w : World}
theorem R_callT {x : Operand} {f : FuncId} {l : List Operand} {ts : Array TypeId} {vs : List Value} (ho : o.op = .call { callee := .value x, args := l.toArray, argTypes := ts }) (hf : ρ x = .func (.func f) #[] #[]) (hc : ∀ args w, (callFunc f args).run P w = .ok (.enter f args) w) (ha : l.map ρ = vs) : (execOp ρ o).run P w = .ok (.enter f vs.toArray) w := by
  have ha := mapsN ha
  rw [← ha]
  unfold execOp
  simp [ho, resolve, hf, invoke, hc, go_sem]
end
theorem slAt_ext {w w' : World} {a : Option Addr} {sz n : Nat} {row : Nat → List Value} (h : SlAt [] w a sz n row) (e : Ext [] w w') : SlAt [] w' a sz n row := fun i hi => by
  obtain ⟨xb, xo, h1, h2⟩ := h i hi
  exact ⟨xb, xo, h1, fun W hW => h2 W (e.nil hW)⟩
theorem fam_below {w w' : World} {base B1 n : Nat} {v : Value} {xs : List Value} {L : List (Value × List Int)} (fam : FamT w base L) (hlt : ∀ q ∈ L, ∀ b, q.1.ownBlock = some b → b < B1) (ro : w.ownsRow B1 3 1 v n xs) (hg : w.grownBy w' v.ownBlock) : FamT w' base L :=
  ⟨fun p hp => (fam.1 p hp).kept hg (by
    cases hq : p.1.ownBlock with
    | none => exact .inl rfl
    | some b =>
      refine .inr fun e => ?_
      have := hlt p hp b hq
      have := (ro.lt b e.symm).1
      omega), fam.2⟩
theorem solved_ok {t : Tp} (ok : t.Ok) (h8 : t.rd.length ≤ 8) {gv rv lv : Value} {W : World} (ht : IsTp W gv rv lv t) :
    Calls Try.prog 90 #[tpV t gv rv lv, .slice none 0 0, .slice none 0 0, .slice none 0 0] W fun e w' => e = .returned (.tuple #[tpV t gv rv lv, .agg (matCells (bdV t 0)), .int .i64 (qe t)]) ∧ Ext [] W w' := by
  have c := solved_any t gv rv lv noX (fun _ => none) (fun _ => 0) W ht (by have := ok.grl; have := ok.S3; omega) (by omega) (by have := ok.lkl; omega) (fun i hi => rows_nil _ _ _) (fun i hi => by simp [noX])
  have hc := check_of ok h8
  have h1 : openE t noX = 0 := (open_noX t).trans hc
  have h2 : solvedE t noX = qe t := by
    unfold solvedE qe
    rw [if_neg (by omega)]
  rw [openV_ok h1, show solvedM t noX = bdV t 0 from if_pos h1, h2] at c
  exact c
theorem cell_live {t : Tp} (h : t.Live) (s a : Nat) (hs : (s : Int) < t.S) (ha : (a : Int) < t.A) (W : World) :
    Calls Try.prog 91 #[.agg (matCells (bdV t 0)), .int .i64 0, .int .i64 (nodeC s a : Nat)] W fun e w' => e = .returned (.agg #[.int .i64 (mlo t s a), .int .i64 (mhi t s a)]) ∧ Ext [] W w' := by
  have k1 := h.ok.S3
  have k2 := h.ok.A3
  have hc : nodeC s a < 13 := by unfold nodeC; omega
  exact apart_n (bdV t 0) 0 (nodeC s a) (by omega) hc (bd_big h.ok 0 hc (by omega)) W
theorem tail_live {t : Tp} (h : t.Live) (i : Nat) (hi : (i : Int) < t.T) (W : World) :
    Calls Try.prog 97 #[.agg (matCells (bdV t 0)), .int .i64 (i : Nat)] W fun e w' => e = .returned (.agg #[.int .i64 (plo t i), .int .i64 (phi t i)]) ∧ Ext [] W w' := by
  have k1 := h.ok.T3
  have hb := bd_big h.ok 0 (p := 0) (q := nodeT i) (by omega) (by unfold nodeT; omega)
  exact (pull_any (bdV t 0) i W (by omega) (by omega) hb.1 hb.2).mono fun e w' hr => ⟨hr.1, Ext.of_below hr.2⟩
def endL (t : Tp) (pe : Int → Int → Int) : List (List Int) := (List.range t.S.toNat).map fun s => (List.range t.A.toNat).map fun a => pe (mlo t (s : Nat) (a : Nat)) (mhi t (s : Nat) (a : Nat))
def pullL (t : Tp) (po : Int → Int → Int) : List Int := (List.range t.T.toNat).map fun i => po (plo t (i : Nat)) (phi t (i : Nat))
def EndPost (t : Tp) (pe po : Int → Int → Int) (w : World) (e : Ending) (w' : World) : Prop :=
  ∃ (L : List (Value × List Int)) (P : List Int) (a pa : Option Addr) (c pc : Nat), e = .returned (.tuple #[.slice a L.length c, .slice pa P.length pc, .int .i64 0]) ∧ L.map (·.2) = endL t pe ∧ P = pullL t po ∧
    SlAt [] w' a 1 L.length (fun i => [(L.getD i (.bool true, [])).1]) ∧ (∀ p ∈ L, RowOf w' p.1 p.2) ∧ IsRows w' (.slice pa P.length pc) 1 (P.map intRow) ∧ Ext [] w w'
set_option maxRecDepth 100000 in
theorem ends_no {t : Tp} (ok : t.Ok) (h8 : t.rd.length ≤ 8) (hb : bdB t 0 = false) (fe fo : FuncId) (ga ra la : Option Addr) (gc rc lc : Nat) (w : World) (ht : IsTp w (.slice ga t.gr.length gc) (.slice ra t.rd.length rc) (.slice la t.lk.length lc) t) :
    Calls Try.prog 117 #[tpV t (.slice ga t.gr.length gc) (.slice ra t.rd.length rc) (.slice la t.lk.length lc), .func (.func fe) #[] #[], .func (.func fo) #[] #[]] w fun e w' => e = .returned (.tuple #[.slice none 0 0, .slice none 0 0, .int .i64 9]) ∧ Ext [] w w' := by
  have E : Ext [] w w := Ext.refl _ _
  have hq : qe t = 9 := by rw [qe, hb]; rfl
  have HT := Lib.hid ht
  clear ht
  have HK := Lib.hid (fun W (h : Ext [] w W) => solved_ok ok h8 (HT.out.ext h (by simp)))
  rw [hq] at HK
  clear hq hb
  unfold tpV at HK ⊢
  refine calls_has 72 Try.func117 rfl Try.ntmps117 (Nat.le_of_ble_eq_true rfl) ?_
  intro fa F
  refine wp_seq_k fun K1 hK1 => ?_
  refine wp_region_lit ?_
  refine sq_new F rfl (by decide) rfl (R_box rfl (F.at rfl)) ?_; clear F fa; intro fa w1 F hw
  obtain ⟨n3, hn⟩ : ∃ n, n = w.heap.size := ⟨_, rfl⟩
  rw [← hn] at F
  have s3 : w.heap.size ≤ n3 := Nat.le_of_eq hn.symm
  have l3_E : w.heap.size ≤ n3 := by rw [hn]; exact E.size
  replace E := ext_alloc E hw
  have q3 := new_row hw hn
  clear hw hn
  refine F.vl (R_assign rfl (ev_c fa _)) ?_; clear F fa; intro fa F
  refine F.vl (R_assign rfl (ev_c fa _)) ?_; clear F fa; intro fa F
  refine F.vl (R_assign rfl (ev_c fa _)) ?_; clear F fa; intro fa F
  refine wpList_nil ?_
  refine hK1 _ _ ?_
  clear hK1
  refine wp_seq_k fun K2 hK2 => ?_
  refine wp_region_lit ?_
  refine F.vl (R_loadBlk rfl (F.at rfl) Try.underlying28 rfl (by kernel_rfl) q3) ?_; clear F fa; intro fa F
  refine sq_call F rfl (by decide) rfl (R_callV rfl rfl Try.call90 (mpS (F.at rfl) (mpS (ev_c fa _) (mpS (ev_c fa _) (mpS (ev_c fa _) mp0))))) (HK.out _ E) fun e w2 hR => ?_
  obtain ⟨rfl, e9⟩ := hR
  refine ⟨_, rfl, ?_⟩; clear F fa; intro fa F
  replace q3 := (e9).keep0 q3
  replace E := ext_same E (e9)
  clear e9
  refine F.mv ?_; clear F fa; intro fa F
  refine F.vl (R_extract rfl (F.at rfl) (get0)) ?_; clear F fa; intro fa F
  refine F.vl (R_extract rfl (F.at rfl) (getS (get0))) ?_; clear F fa; intro fa F
  refine F.vl (R_extract rfl (F.at rfl) (getS (getS (get0)))) ?_; clear F fa; intro fa F
  refine sq_new F rfl (by decide) rfl (R_alloc rfl Try.zeroValue100) ?_; clear F fa; intro fa w3 F hw
  obtain ⟨n9, hn⟩ : ∃ n, n = w2.heap.size := ⟨_, rfl⟩
  rw [← hn] at F
  have s9 : w2.heap.size ≤ n9 := Nat.le_of_eq hn.symm
  have l9_E : w.heap.size ≤ n9 := by rw [hn]; exact E.size
  have m9_3 : n3 < n9 := by rw [hn]; exact blk_lt q3
  replace q3 := keep_alloc hw q3
  replace E := ext_alloc E hw
  have q9 := new_row hw hn
  clear hw hn
  refine sq_new F rfl (by decide) rfl (R_alloc rfl Try.zeroValue105) ?_; clear F fa; intro fa w4 F hw
  obtain ⟨n10, hn⟩ : ∃ n, n = w3.heap.size := ⟨_, rfl⟩
  rw [← hn] at F
  have s10 : w3.heap.size ≤ n10 := Nat.le_of_eq hn.symm
  have l10_E : w.heap.size ≤ n10 := by rw [hn]; exact E.size
  have m10_3 : n3 < n10 := by rw [hn]; exact blk_lt q3
  have m10_9 : n9 < n10 := by rw [hn]; exact blk_lt q9
  replace q3 := keep_alloc hw q3
  replace q9 := keep_alloc hw q9
  replace E := ext_alloc E hw
  have q10 := new_row hw hn
  clear hw hn
  refine sq_to rfl rfl (R_storeRow rfl (F.at rfl) (F.at rfl) (by kernel_rfl) (by first | (simp [Value.oneCell']; done) | (simp [Value.oneCell', grRow, rdRow, lkRow]; done)) q9 rfl) ?_; intro w5 hw
  replace q3 := keep_cells hw q3 (by omega)
  replace q9 := put_row hw q9 rfl
  replace q10 := keep_cells hw q10 (by omega)
  replace E := ext_cells E hw (fun h => by first | exact absurd h (by omega) | simp)
  clear hw
  refine sq_to rfl rfl (R_storeRow rfl (F.at rfl) (F.at rfl) (by rw [matCells_size]; kernel_rfl) (by rw [← matList_toArray]; exact all_oneCell_toArray (matList_one _)) q10 (by show Try.zeroCells105.size = _; rw [Try.zeroCells105_size, matCells_size])) ?_; intro w6 hw
  replace q3 := keep_cells hw q3 (by omega)
  replace q9 := keep_cells hw q9 (by omega)
  replace q10 := put_row hw q10 (by show Try.zeroCells105.size = _; rw [Try.zeroCells105_size, matCells_size])
  replace E := ext_cells E hw (fun h => by first | exact absurd h (by omega) | simp)
  clear hw
  refine F.as ?_; clear F fa; intro fa F
  refine wpList_nil ?_
  refine hK2 _ _ ?_
  clear hK2
  refine wp_seq_k fun K3 hK3 => ?_
  refine wp_seq_k fun K4 hK4 => ?_
  refine wp_region_lit ?_
  refine F.mv ?_; clear F fa; intro fa F
  refine F.vl (R_neqB (b := true) rfl (F.at rfl) (ev_c fa _) (by decide)) ?_; clear F fa; intro fa F
  refine wpList_nil ?_
  refine hK4 _ _ ?_
  clear hK4
  refine cd_T F rfl ?_
  refine wp_seq_k fun K5 hK5 => ?_
  refine wp_region_lit ?_
  refine F.mv ?_; clear F fa; intro fa F
  refine F.vl (R_assign rfl (ev_c fa _)) ?_; clear F fa; intro fa F
  refine F.vl (R_assign rfl (ev_c fa _)) ?_; clear F fa; intro fa F
  refine F.as ?_; clear F fa; intro fa F
  refine wpList_nil ?_
  refine hK5 _ _ ?_
  clear hK5
  refine wp_ret ?_
  (try simp only [Exit.inBlock, Exit.then])
  refine rt_v F (rs_3 F rfl rfl rfl rfl) ?_
  exact ⟨rfl, E⟩
def rowL (t : Tp) (pe : Int → Int → Int) (s : Nat) (j : Nat) : List Int := (List.range j).map fun a => pe (mlo t (s : Nat) (a : Nat)) (mhi t (s : Nat) (a : Nat))
theorem rowL_succ (t : Tp) (pe : Int → Int → Int) (s j : Nat) : rowL t pe s (j + 1) = rowL t pe s j ++ [pe (mlo t (s : Nat) (j : Nat)) (mhi t (s : Nat) (j : Nat))] := by simp [rowL, List.range_succ]
set_option maxRecDepth 100000 in
set_option maxHeartbeats 1000000 in
theorem ends_yes {t : Tp} (hL : t.Live) (fe fo : FuncId) (pe po : Int → Int → Int) (hce : ∀ args w, (callFunc fe args).run Try.prog w = .ok (.enter fe args) w) (hco : ∀ args w, (callFunc fo args).run Try.prog w = .ok (.enter fo args) w)
    (hfe : ∀ a b W, Calls Try.prog fe #[.agg #[.int .i64 a, .int .i64 b]] W fun e w' => e = .returned (.int .i64 (pe a b)) ∧ Ext [] W w') (hfo : ∀ a b W, Calls Try.prog fo #[.agg #[.int .i64 a, .int .i64 b]] W fun e w' => e = .returned (.int .i64 (po a b)) ∧ Ext [] W w')
    (ga ra la : Option Addr) (gc rc lc : Nat) (w : World) (ht : IsTp w (.slice ga t.gr.length gc) (.slice ra t.rd.length rc) (.slice la t.lk.length lc) t) :
    Calls Try.prog 117 #[tpV t (.slice ga t.gr.length gc) (.slice ra t.rd.length rc) (.slice la t.lk.length lc), .func (.func fe) #[] #[], .func (.func fo) #[] #[]] w (EndPost t pe po w) := by
  have E : Ext [] w w := Ext.refl _ _
  have ok := hL.ok
  have o1 := ok.S1
  have o2 := ok.S3
  have o3 := ok.A1
  have o4 := ok.A3
  have o5 := ok.T1
  have o6 := ok.T3
  have hq : qe t = 0 := qe_zero.2 hL.bdB
  have HT := Lib.hid ht
  clear ht
  have HK := Lib.hid (fun W (h : Ext [] w W) => solved_ok ok hL.rd8 (HT.out.ext h (by simp)))
  rw [hq] at HK
  have Hce := Lib.hid hce
  have Hco := Lib.hid hco
  have Hfe := Lib.hid hfe
  have Hfo := Lib.hid hfo
  clear hq hce hco hfe hfo
  have oo : w.ownsRow w.heap.size 29 1 (.slice none 0 0) 0 (([] : List (Value × List Int)).map (·.1)) := World.ownsRow_nil _ _ _ _
  have fam : FamT w w.heap.size [] := fam_nil _ _
  unfold tpV at HK ⊢
  refine calls_has 72 Try.func117 rfl Try.ntmps117 (Nat.le_of_ble_eq_true rfl) ?_
  intro fa F
  refine wp_seq_k fun K1 hK1 => ?_
  refine wp_region_lit ?_
  refine sq_new F rfl (by decide) rfl (R_box rfl (F.at rfl)) ?_; clear F fa; intro fa w1 F hw
  obtain ⟨n3, hn⟩ : ∃ n, n = w.heap.size := ⟨_, rfl⟩
  rw [← hn] at F
  have s3 : w.heap.size ≤ n3 := Nat.le_of_eq hn.symm
  have l3_E : w.heap.size ≤ n3 := by rw [hn]; exact E.size
  have o3_oo := Lib.hid (own_ne_new oo hn)
  replace oo := owns_alloc hw oo
  replace fam := fam_lift fam fun _ _ _ h => owns_alloc hw h
  replace E := ext_alloc E hw
  have q3 := new_row hw hn
  clear hw hn
  refine F.vl (R_assign rfl (ev_c fa _)) ?_; clear F fa; intro fa F
  refine F.vl (R_assign rfl (ev_c fa _)) ?_; clear F fa; intro fa F
  refine F.vl (R_assign rfl (ev_c fa _)) ?_; clear F fa; intro fa F
  refine wpList_nil ?_
  refine hK1 _ _ ?_
  clear hK1
  refine wp_seq_k fun K2 hK2 => ?_
  refine wp_region_lit ?_
  refine F.vl (R_loadBlk rfl (F.at rfl) Try.underlying28 rfl (by kernel_rfl) q3) ?_; clear F fa; intro fa F
  refine sq_call F rfl (by decide) rfl (R_callV rfl rfl Try.call90 (mpS (F.at rfl) (mpS (ev_c fa _) (mpS (ev_c fa _) (mpS (ev_c fa _) mp0))))) (HK.out _ E) fun e w2 hR => ?_
  obtain ⟨rfl, e9⟩ := hR
  refine ⟨_, rfl, ?_⟩; clear F fa; intro fa F
  replace oo := owns_ext oo (e9) (by simp)
  replace fam := fam_lift fam fun _ _ _ h => owns_ext h (e9) (by simp)
  replace q3 := (e9).keep0 q3
  replace E := ext_same E (e9)
  clear e9
  refine F.mv ?_; clear F fa; intro fa F
  refine F.vl (R_extract rfl (F.at rfl) (get0)) ?_; clear F fa; intro fa F
  refine F.vl (R_extract rfl (F.at rfl) (getS (get0))) ?_; clear F fa; intro fa F
  refine F.vl (R_extract rfl (F.at rfl) (getS (getS (get0)))) ?_; clear F fa; intro fa F
  refine sq_new F rfl (by decide) rfl (R_alloc rfl Try.zeroValue100) ?_; clear F fa; intro fa w3 F hw
  obtain ⟨n9, hn⟩ : ∃ n, n = w2.heap.size := ⟨_, rfl⟩
  rw [← hn] at F
  have s9 : w2.heap.size ≤ n9 := Nat.le_of_eq hn.symm
  have l9_E : w.heap.size ≤ n9 := by rw [hn]; exact E.size
  have m9_3 : n3 < n9 := by rw [hn]; exact blk_lt q3
  have o9_oo := Lib.hid (own_ne_new oo hn)
  replace oo := owns_alloc hw oo
  replace fam := fam_lift fam fun _ _ _ h => owns_alloc hw h
  replace q3 := keep_alloc hw q3
  replace E := ext_alloc E hw
  have q9 := new_row hw hn
  clear hw hn
  refine sq_new F rfl (by decide) rfl (R_alloc rfl Try.zeroValue105) ?_; clear F fa; intro fa w4 F hw
  obtain ⟨n10, hn⟩ : ∃ n, n = w3.heap.size := ⟨_, rfl⟩
  rw [← hn] at F
  have s10 : w3.heap.size ≤ n10 := Nat.le_of_eq hn.symm
  have l10_E : w.heap.size ≤ n10 := by rw [hn]; exact E.size
  have m10_3 : n3 < n10 := by rw [hn]; exact blk_lt q3
  have m10_9 : n9 < n10 := by rw [hn]; exact blk_lt q9
  have o10_oo := Lib.hid (own_ne_new oo hn)
  replace oo := owns_alloc hw oo
  replace fam := fam_lift fam fun _ _ _ h => owns_alloc hw h
  replace q3 := keep_alloc hw q3
  replace q9 := keep_alloc hw q9
  replace E := ext_alloc E hw
  have q10 := new_row hw hn
  clear hw hn
  refine sq_to rfl rfl (R_storeRow rfl (F.at rfl) (F.at rfl) (by kernel_rfl) (by first | (simp [Value.oneCell']; done) | (simp [Value.oneCell', grRow, rdRow, lkRow]; done)) q9 rfl) ?_; intro w5 hw
  replace oo := owns_cellsX hw oo (own_ne_type oo q9 (by decide))
  replace fam := fam_lift fam fun _ _ _ h => owns_cellsX hw h (own_ne_type h q9 (by decide))
  replace q3 := keep_cells hw q3 (by omega)
  replace q9 := put_row hw q9 rfl
  replace q10 := keep_cells hw q10 (by omega)
  replace E := ext_cells E hw (fun h => by first | exact absurd h (by omega) | simp)
  clear hw
  refine sq_to rfl rfl (R_storeRow rfl (F.at rfl) (F.at rfl) (by rw [matCells_size]; kernel_rfl) (by rw [← matList_toArray]; exact all_oneCell_toArray (matList_one _)) q10 (by show Try.zeroCells105.size = _; rw [Try.zeroCells105_size, matCells_size])) ?_; intro w6 hw
  replace oo := owns_cellsX hw oo (own_ne_type oo q10 (by decide))
  replace fam := fam_lift fam fun _ _ _ h => owns_cellsX hw h (own_ne_type h q10 (by decide))
  replace q3 := keep_cells hw q3 (by omega)
  replace q9 := keep_cells hw q9 (by omega)
  replace q10 := put_row hw q10 (by show Try.zeroCells105.size = _; rw [Try.zeroCells105_size, matCells_size])
  replace E := ext_cells E hw (fun h => by first | exact absurd h (by omega) | simp)
  clear hw
  refine F.as ?_; clear F fa; intro fa F
  refine wpList_nil ?_
  refine hK2 _ _ ?_
  clear hK2
  refine wp_seq_k fun K3 hK3 => ?_
  refine wp_seq_k fun K4 hK4 => ?_
  refine wp_region_lit ?_
  refine F.mv ?_; clear F fa; intro fa F
  refine F.vl (R_neqB (b := false) rfl (F.at rfl) (ev_c fa _) (by decide)) ?_; clear F fa; intro fa F
  refine wpList_nil ?_
  refine hK4 _ _ ?_
  clear hK4
  refine cd_F F rfl ?_
  refine wp_skip ?_
  refine hK3 _ _ ?_
  clear hK3
  refine wp_seq_k fun K5 hK5 => ?_
  refine wp_region_lit ?_
  refine F.vl (R_assign rfl (ev_c fa _)) ?_; clear F fa; intro fa F
  refine wpList_nil ?_
  refine hK5 _ _ ?_
  clear hK5
  refine wp_seq_k fun K6 hK6 => ?_
  refine wp_region_lit ?_
  refine F.vl (R_assign rfl (ev_c fa _)) ?_; clear F fa; intro fa F
  refine wpList_nil ?_
  refine hK6 _ _ ?_
  clear hK6
  refine wp_seq_k fun K7 hK7 => ?_
  refine wp_seq_k fun K8 hK8 => ?_
  refine wp_region_lit ?_
  refine F.vl (R_field rfl (F.at rfl) Try.underlying100 rfl (n := 0) (sz := 11) rfl (by kernel_rfl) (by decide)) ?_; clear F fa; intro fa F
  refine F.vl (R_field rfl (F.at rfl) Try.underlying28 rfl (n := 0) (sz := 1) rfl (by kernel_rfl) (by decide)) ?_; clear F fa; intro fa F
  refine F.vl (R_load rfl (F.at rfl) Try.underlying3 rfl ((cells_of_block q9 0).trans (get0))) ?_; clear F fa; intro fa F
  refine F.vl (R_move rfl (ev_c fa _)) ?_; clear F fa; intro fa F
  refine wpList_nil ?_
  refine hK8 _ _ ?_
  clear hK8
  refine wp_block ?_
  have F0 := F.sub (.c 1 rfl (.c 2 rfl (.c 9 rfl (.c 10 rfl (.c 13 rfl (.c 29 rfl .n))))))
  refine lp_for F0 (t.S.toNat) (fun i Lv W => ∃ va : Option Addr, ∃ vc : Nat, ∃ O : List (Value × List Int), Lv = [(12, .slice va O.length vc), (30, .int .i64 ((i : Nat) : Int))] ∧ Ext [] w W ∧ W.heap[n3]? = some (.cells #[.int .i64 t.S, .int .i64 t.A, .int .i64 t.T, .int .i64 t.bl, .int .i64 t.bm, .int .i64 t.pl, .int .i64 t.pm, .int .i64 t.sl, .slice ga t.gr.length gc, .slice ra t.rd.length rc, .slice la t.lk.length lc] 28 (0, 0)) ∧ W.heap[n9]? = some (.cells #[.int .i64 t.S, .int .i64 t.A, .int .i64 t.T, .int .i64 t.bl, .int .i64 t.bm, .int .i64 t.pl, .int .i64 t.pm, .int .i64 t.sl, .slice ga t.gr.length gc, .slice ra t.rd.length rc, .slice la t.lk.length lc] 100 (0, 0)) ∧ W.heap[n10]? = some (.cells (matCells (bdV t 0)) 105 (0, 0)) ∧ W.ownsRow w.heap.size 29 1 (.slice va O.length vc) O.length (O.map (·.1)) ∧ FamT W w.heap.size O ∧ O.map (·.2) = (List.range i).map (fun s => rowL t pe s t.A.toNat)) ⟨_, ⟨none, 0, [], rfl, E, q3, q9, q10, oo, fam, rfl⟩, F.sub (.c 12 rfl (.c 30 rfl (.c 1 rfl (.c 2 rfl (.c 9 rfl (.c 10 rfl (.c 13 rfl (.c 29 rfl .n))))))))⟩ ?_
  clear F F0
  clear E q3 q9 q10
  clear oo
  clear fam
  rintro i _ fa w7 hi1 ⟨va, vc, O, rfl, E, q3, q9, q10, oo, fam, hO⟩ F
  have hOl : O.length = i := by have := congrArg List.length hO; simpa using this
  refine wp_seq_k fun K9 hK9 => ?_
  refine wp_region_lit ?_
  refine F.vl (R_lss rfl (F.at rfl) (F.at rfl)) ?_; clear F fa; intro fa F
  refine wpList_nil ?_
  refine hK9 _ _ ?_
  clear hK9
  refine wp_seq_k fun K10 hK10 => ?_
  refine cd_if F rfl (fun hc31 => ?_) (fun hc31 => ?_)
  · skip
    refine wp_skip ?_
    refine hK10 _ _ ?_
    clear hK10
    refine wp_seq_k fun K11 hK11 => ?_
    refine wp_block ?_
    refine wp_seq_k fun K12 hK12 => ?_
    refine wp_region_lit ?_
    refine F.mv ?_; clear F fa; intro fa F
    refine F.as ?_; clear F fa; intro fa F
    refine wpList_nil ?_
    refine hK12 _ _ ?_
    clear hK12
    refine wp_seq_k fun K13 hK13 => ?_
    refine wp_region_lit ?_
    refine F.vl (R_assign rfl (ev_c fa _)) ?_; clear F fa; intro fa F
    refine wpList_nil ?_
    have hflt := Lib.hid (fam_lt fam)
    obtain ⟨B1, hB1⟩ : ∃ B1, B1 = w7.heap.size := ⟨_, rfl⟩
    rw [← hB1] at hflt
    have hB1w : w.heap.size ≤ B1 := by rw [hB1]; exact E.size
    have hB1i : w7.heap.size ≤ B1 := by rw [hB1]; exact Nat.le_refl _
    have ro : w7.ownsRow B1 3 1 (.slice none 0 0) 0 (ivs []) := World.ownsRow_nil _ _ _ _
    have EB : Ext [] w7 w7 := Ext.refl _ _
    refine hK13 _ _ ?_
    clear hK13
    refine wp_seq_k fun K14 hK14 => ?_
    refine wp_seq_k fun K15 hK15 => ?_
    refine wp_region_lit ?_
    refine F.vl (R_field rfl (F.at rfl) Try.underlying100 rfl (n := 0) (sz := 11) rfl (by kernel_rfl) (by decide)) ?_; clear F fa; intro fa F
    refine F.vl (R_field rfl (F.at rfl) Try.underlying28 rfl (n := 1) (sz := 1) rfl (by kernel_rfl) (by decide)) ?_; clear F fa; intro fa F
    refine F.vl (R_load rfl (F.at rfl) Try.underlying3 rfl ((cells_of_block q9 1).trans (getS (get0)))) ?_; clear F fa; intro fa F
    refine F.vl (R_move rfl (ev_c fa _)) ?_; clear F fa; intro fa F
    refine wpList_nil ?_
    refine hK15 _ _ ?_
    clear hK15
    refine wp_block ?_
    have F0 := F.sub (.c 1 rfl (.c 2 rfl (.c 9 rfl (.c 10 rfl (.c 12 rfl (.c 13 rfl (.c 14 rfl (.c 29 rfl (.c 30 rfl (.c 35 rfl .n))))))))))
    refine lp_for F0 (t.A.toNat) (fun j Lv W => ∃ va2 : Option Addr, ∃ vc2 : Nat, ∃ R : List Int, Lv = [(15, .slice va2 R.length vc2), (36, .int .i64 ((j : Nat) : Int))] ∧ Ext [] w W ∧ Ext [] w7 W ∧ W.heap[n3]? = some (.cells #[.int .i64 t.S, .int .i64 t.A, .int .i64 t.T, .int .i64 t.bl, .int .i64 t.bm, .int .i64 t.pl, .int .i64 t.pm, .int .i64 t.sl, .slice ga t.gr.length gc, .slice ra t.rd.length rc, .slice la t.lk.length lc] 28 (0, 0)) ∧ W.heap[n9]? = some (.cells #[.int .i64 t.S, .int .i64 t.A, .int .i64 t.T, .int .i64 t.bl, .int .i64 t.bm, .int .i64 t.pl, .int .i64 t.pm, .int .i64 t.sl, .slice ga t.gr.length gc, .slice ra t.rd.length rc, .slice la t.lk.length lc] 100 (0, 0)) ∧ W.heap[n10]? = some (.cells (matCells (bdV t 0)) 105 (0, 0)) ∧ W.ownsRow w.heap.size 29 1 (.slice va O.length vc) O.length (O.map (·.1)) ∧ FamT W w.heap.size O ∧ W.ownsRow B1 3 1 (.slice va2 R.length vc2) R.length (ivs R) ∧ R = rowL t pe i j ∧ R.length = j) ⟨_, ⟨none, 0, [], rfl, E, EB, q3, q9, q10, oo, fam, ro, rfl, rfl⟩, F.sub (.c 15 rfl (.c 36 rfl (.c 1 rfl (.c 2 rfl (.c 9 rfl (.c 10 rfl (.c 12 rfl (.c 13 rfl (.c 14 rfl (.c 29 rfl (.c 30 rfl (.c 35 rfl .n))))))))))))⟩ ?_
    clear F F0
    clear E EB q3 q9 q10 oo fam
    clear ro
    rintro j _ fa w8 hi2 ⟨va2, vc2, R, rfl, E, EB, q3, q9, q10, oo, fam, ro, hR, hRl⟩ F
    refine wp_seq_k fun K16 hK16 => ?_
    refine wp_region_lit ?_
    refine F.vl (R_lss rfl (F.at rfl) (F.at rfl)) ?_; clear F fa; intro fa F
    refine wpList_nil ?_
    refine hK16 _ _ ?_
    clear hK16
    refine wp_seq_k fun K17 hK17 => ?_
    refine cd_if F rfl (fun hc37 => ?_) (fun hc37 => ?_)
    · skip
      refine wp_skip ?_
      refine hK17 _ _ ?_
      clear hK17
      refine wp_seq_k fun K18 hK18 => ?_
      refine wp_block ?_
      refine wp_seq_k fun K19 hK19 => ?_
      refine wp_region_lit ?_
      refine F.mv ?_; clear F fa; intro fa F
      refine F.as ?_; clear F fa; intro fa F
      refine wpList_nil ?_
      refine hK19 _ _ ?_
      clear hK19
      refine region_x (Ext [] w8) (some 9) follows fun w9 hh eh => ?_
      have q3_ := q3
      replace q3 := keep_same hh q3
      have q9_ := q9
      replace q9 := keep_same hh q9
      have q10_ := q10
      replace q10 := keep_same hh q10
      have E_ := E
      have zEw9 := E.size
      replace E := ext_same E eh
      have EB_ := EB
      have zEBw9 := EB.size
      replace EB := ext_same EB eh
      replace oo := owns_same hh oo
      replace fam := fam_lift fam fun _ _ _ h => owns_same hh h
      replace ro := owns_same hh ro
      have eT := eh
      clear hh eh
      refine F.x (i := 0) rfl (fun w' => R_move rfl (F.at rfl)) (fun _ => eT) ?_; clear F fa; intro fa F
      refine F.x (i := 1) rfl (fun w' => R_move rfl (F.at rfl)) (fun _ => eT) ?_; clear F fa; intro fa F
      refine F.xr2 (i := 2) [6, 7, 8, 9] rfl (fun w' hS => R_loadBlk rfl (F.at rfl) Try.underlying105 rfl (by rw [matCells_size]; kernel_rfl) (hS.keep q10_ (by simp))) (fun _ => eT) ?_; clear F fa; intro fa F
      refine F.x (i := 3) rfl (fun w' => R_move rfl (F.at rfl)) (fun _ => eT) ?_; clear F fa; intro fa F
      refine F.x (i := 4) rfl (fun w' => R_move rfl (F.at rfl)) (fun _ => eT) ?_; clear F fa; intro fa F
      refine ax_only (i := 5) (by kernel_rfl) (op_call F rfl rfl (by decide) rfl (R_callV rfl rfl Try.call92 (mpS (F.at rfl) (mpS (F.at rfl) mp0))) (cell_n i j (by omega) (by omega) _) fun e w' hR => ?_)
      obtain ⟨rfl, rfl⟩ := hR
      refine ⟨_, rfl, ?_⟩; clear F fa; intro fa F
      refine ⟨fun _ => eT, ?_⟩
      refine ax_only (i := 6) (by kernel_rfl) (op_call F rfl rfl (by decide) rfl (R_callV rfl rfl Try.call91 (mpS (F.at rfl) (mpS (ev_c fa _) (mpS (F.at rfl) mp0)))) (cell_live hL i j (by omega) (by omega) _) fun e w10 hR => ?_)
      obtain ⟨rfl, e9⟩ := hR
      refine ⟨_, rfl, ?_⟩; clear F fa; intro fa F
      replace oo := owns_ext oo (e9) (by simp)
      replace fam := fam_lift fam fun _ _ _ h => owns_ext h (e9) (by simp)
      replace ro := owns_ext ro (e9) (by simp)
      replace q3 := (e9).keep0 q3
      replace q9 := (e9).keep0 q9
      replace q10 := (e9).keep0 q10
      replace E := ext_same E (e9)
      replace EB := ext_same EB (e9)
      replace eT := ext_same eT (e9)
      clear e9
      refine ⟨fun _ => eT, ?_⟩
      refine ax_only (i := 7) (by kernel_rfl) (op_call F rfl rfl (by decide) rfl (R_callT rfl (F.at rfl) Hce.out (mpS (F.at rfl) mp0)) (Hfe.out _ _ _) fun e w11 hR => ?_)
      obtain ⟨rfl, e9⟩ := hR
      refine ⟨_, rfl, ?_⟩; clear F fa; intro fa F
      replace oo := owns_ext oo (e9) (by simp)
      replace fam := fam_lift fam fun _ _ _ h => owns_ext h (e9) (by simp)
      replace ro := owns_ext ro (e9) (by simp)
      replace q3 := (e9).keep0 q3
      replace q9 := (e9).keep0 q9
      replace q10 := (e9).keep0 q10
      replace E := ext_same E (e9)
      replace EB := ext_same EB (e9)
      replace eT := ext_same eT (e9)
      clear e9
      refine ⟨fun _ => eT, ?_⟩
      refine ax_only (i := 8) (by kernel_rfl) (op_new F rfl rfl (by decide) rfl (R_buildSliceV rfl (prS (F.at rfl) pr0) Try.underlying29 (size := 1) (by kernel_rfl) (by decide) (by decide) Try.zeroValue3 (cells := #[.int .i64 (pe (mlo t i j) (mhi t i j))]) (by kernel_rfl)) ?_); clear F fa; intro fa w12 F hw
      obtain ⟨n47, hn⟩ : ∃ n, n = w11.heap.size := ⟨_, rfl⟩
      rw [← hn] at F
      have s47 : w11.heap.size ≤ n47 := Nat.le_of_eq hn.symm
      have l47_E : w.heap.size ≤ n47 := by rw [hn]; exact E.size
      have l47_EB : w7.heap.size ≤ n47 := by rw [hn]; exact EB.size
      have lT47 : w8.heap.size ≤ n47 := by rw [hn]; exact eT.size
      have m47_3 : n3 < n47 := by rw [hn]; exact blk_lt q3
      have m47_9 : n9 < n47 := by rw [hn]; exact blk_lt q9
      have m47_10 : n10 < n47 := by rw [hn]; exact blk_lt q10
      have o47_oo := Lib.hid (own_ne_new oo hn)
      have o47_ro := Lib.hid (own_ne_new ro hn)
      replace oo := owns_alloc hw oo
      replace fam := fam_lift fam fun _ _ _ h => owns_alloc hw h
      replace ro := owns_alloc hw ro
      replace q3 := keep_alloc hw q3
      replace q9 := keep_alloc hw q9
      replace q10 := keep_alloc hw q10
      replace E := ext_alloc E hw
      replace EB := ext_alloc EB hw
      replace eT := ext_alloc eT hw
      have q47 := new_block hw hn
      clear hw hn
      refine ⟨fun _ => eT, ?_⟩
      have hEs := EB.size
      refine ax_only (i := 9) (by kernel_rfl) (op_some F rfl rfl (by decide) rfl (append_run rfl (B1) (e := 3) (size := 1) (bytes := 8) Try.underlying29 (by kernel_rfl) (by decide) (F.at rfl) ro (F.at rfl) q47 rfl (by simp [Value.oneCell']) (by omega) (by omega) (by omega)) ?_); clear F fa; rintro fa v' w13 F ⟨hown', hg⟩
      obtain ⟨va48, vc48, rfl⟩ := owns_slice hown'
      replace q3 := keep_type ro hg q3 (by decide)
      replace q9 := keep_type ro hg q9 (by decide)
      replace q10 := keep_type ro hg q10 (by decide)
      replace oo := owns_other oo ro hg (by decide)
      replace fam := fam_below fam hflt.out ro hg
      replace E := ext_appendX E ro hg (by omega)
      replace EB := ext_appendX EB ro hg (by omega)
      replace ro := hown'
      clear hg
      refine ⟨gone (by kernel_rfl), ?_⟩
      obtain ⟨P2, hP2e⟩ : ∃ P2, P2 = R ++ [pe (mlo t i j) (mhi t i j)] := ⟨_, rfl⟩
      have hPl3 : R.length + 1 = P2.length := by rw [hP2e, List.length_append]; rfl
      have hRl2 : P2.length = j + 1 := by omega
      have hR2 : P2 = rowL t pe i (j + 1) := by rw [rowL_succ, hP2e, hR]
      rw [ivs_snoc1, ← hP2e, hPl3] at ro
      rw [hPl3] at F
      refine F.x (i := 10) rfl (fun w' => R_assign rfl (F.at rfl)) (gone (by kernel_rfl)) ?_; clear F fa; intro fa F
      refine ax_done (by kernel_rfl) ?_ _
      clear eT q3_ q9_ q10_ E_ EB_
      refine hK18 _ _ ?_
      clear hK18
      refine wp_region_lit ?_
      refine F.vl (R_add rfl (F.at rfl) (ev_c fa _) (by omega) (by omega)) ?_; clear F fa; intro fa F
      refine F.mv ?_; clear F fa; intro fa F
      refine wpList_nil ?_
      show _ ∧ _
      exact ⟨by omega, _, ⟨_, _, _, rfl, E, EB, q3, q9, q10, oo, fam, ro, hR2, hRl2⟩, F.sub (.c 15 rfl (.c 36 rfl (.c 1 rfl (.c 2 rfl (.c 9 rfl (.c 10 rfl (.c 12 rfl (.c 13 rfl (.c 14 rfl (.c 29 rfl (.c 30 rfl (.c 35 rfl .n))))))))))))⟩
    · skip
      refine wp_exit ?_
      obtain rfl : j = t.A.toNat := by omega
      refine hK14 _ _ ?_
      clear hK14
      refine wp_region_lit ?_
      refine F.mv ?_; clear F fa; intro fa F
      refine F.mv ?_; clear F fa; intro fa F
      refine sq_new F rfl (by decide) rfl (R_buildSliceV rfl (prS (F.at rfl) pr0) Try.underlying50 (size := 1) (by kernel_rfl) (by decide) (by decide) Try.zeroValue29 (cells := #[.slice va2 R.length vc2]) (by kernel_rfl)) ?_; clear F fa; intro fa w14 F hw
      obtain ⟨n52, hn⟩ : ∃ n, n = w8.heap.size := ⟨_, rfl⟩
      rw [← hn] at F
      have s52 : w8.heap.size ≤ n52 := Nat.le_of_eq hn.symm
      have l52_E : w.heap.size ≤ n52 := by rw [hn]; exact E.size
      have l52_EB : w7.heap.size ≤ n52 := by rw [hn]; exact EB.size
      have m52_3 : n3 < n52 := by rw [hn]; exact blk_lt q3
      have m52_9 : n9 < n52 := by rw [hn]; exact blk_lt q9
      have m52_10 : n10 < n52 := by rw [hn]; exact blk_lt q10
      have o52_oo := Lib.hid (own_ne_new oo hn)
      have o52_ro := Lib.hid (own_ne_new ro hn)
      replace oo := owns_alloc hw oo
      replace fam := fam_lift fam fun _ _ _ h => owns_alloc hw h
      replace ro := owns_alloc hw ro
      replace q3 := keep_alloc hw q3
      replace q9 := keep_alloc hw q9
      replace q10 := keep_alloc hw q10
      replace E := ext_alloc E hw
      replace EB := ext_alloc EB hw
      have q52 := new_block hw hn
      clear hw hn
      have hEs := E.size
      have fam2 := fam_perm (fam_join (b1 := B1) (L := [(Value.slice va2 R.length vc2, R)]) ⟨fun p hp => (by obtain rfl : p = (Value.slice va2 R.length vc2, R) := (by simpa using hp); exact ro), List.pairwise_singleton _ _⟩ fam hflt.out hB1w) (M := O ++ [(Value.slice va2 R.length vc2, R)]) List.perm_append_comm
      clear fam ro EB
      have fam := fam2
      clear fam2
      refine sq_some F rfl (by decide) rfl (append_run rfl (w.heap.size) (e := 29) (size := 1) (bytes := 24) Try.underlying50 (by kernel_rfl) (by decide) (F.at rfl) oo (F.at rfl) q52 rfl (by simp [Value.oneCell']) (by omega) (by omega) (by omega)) ?_; clear F fa; rintro fa v' w15 F ⟨hown', hg⟩
      obtain ⟨va53, vc53, rfl⟩ := owns_slice hown'
      replace q3 := keep_type oo hg q3 (by decide)
      replace q9 := keep_type oo hg q9 (by decide)
      replace q10 := keep_type oo hg q10 (by decide)
      replace fam := fam_lift fam fun _ _ _ h => owns_other h oo hg (by decide)
      replace E := ext_appendX E oo hg (by omega)
      replace oo := hown'
      clear hg
      obtain ⟨P2, hP2e⟩ : ∃ P2, P2 = O ++ [(Value.slice va2 R.length vc2, R)] := ⟨_, rfl⟩
      have hPl3 : O.length + 1 = P2.length := by rw [hP2e, List.length_append]; rfl
      have hO3 : P2.map (·.2) = (List.range (i + 1)).map (fun s => rowL t pe s t.A.toNat) := by rw [hP2e, List.map_append, hO, List.range_succ, List.map_append, hR]; rfl
      rw [show O.map (·.1) ++ [Value.slice va2 R.length vc2] = P2.map (·.1) by rw [hP2e, List.map_append]; rfl, hPl3] at oo
      rw [hPl3] at F
      rw [← hP2e] at fam
      refine F.as ?_; clear F fa; intro fa F
      refine wpList_nil ?_
      refine hK11 _ _ ?_
      clear hK11
      refine wp_region_lit ?_
      refine F.vl (R_add rfl (F.at rfl) (ev_c fa _) (by omega) (by omega)) ?_; clear F fa; intro fa F
      refine F.mv ?_; clear F fa; intro fa F
      refine wpList_nil ?_
      show _ ∧ _
      exact ⟨by omega, _, ⟨_, _, _, rfl, E, q3, q9, q10, oo, fam, hO3⟩, F.sub (.c 12 rfl (.c 30 rfl (.c 1 rfl (.c 2 rfl (.c 9 rfl (.c 10 rfl (.c 13 rfl (.c 29 rfl .n))))))))⟩
  · skip
    refine wp_exit ?_
    obtain rfl : i = t.S.toNat := by omega
    have HLs := Lib.hid (slAt_of_outer oo rfl)
    have HLr : Hid (∀ p ∈ O, RowOf w7 p.1 p.2) := fun p hp => fam_row fam hp
    have EL : Ext [] w7 w7 := Ext.refl _ _
    have po' : w7.ownsRow w7.heap.size 3 1 (.slice none 0 0) 0 (ivs []) := World.ownsRow_nil _ _ _ _
    obtain ⟨B2, hB2⟩ : ∃ B2, B2 = w7.heap.size := ⟨_, rfl⟩
    have hB2w : w.heap.size ≤ B2 := by rw [hB2]; exact E.size
    have hB2L : w7.heap.size ≤ B2 := by rw [hB2]; exact Nat.le_refl _
    rw [← hB2] at po'
    clear oo fam
    refine hK7 _ _ ?_
    clear hK7
    refine wp_seq_k fun K20 hK20 => ?_
    refine wp_seq_k fun K21 hK21 => ?_
    refine wp_region_lit ?_
    refine F.vl (R_field rfl (F.at rfl) Try.underlying100 rfl (n := 0) (sz := 11) rfl (by kernel_rfl) (by decide)) ?_; clear F fa; intro fa F
    refine F.vl (R_field rfl (F.at rfl) Try.underlying28 rfl (n := 2) (sz := 1) rfl (by kernel_rfl) (by decide)) ?_; clear F fa; intro fa F
    refine F.vl (R_load rfl (F.at rfl) Try.underlying3 rfl ((cells_of_block q9 2).trans (getS (getS (get0))))) ?_; clear F fa; intro fa F
    refine F.vl (R_move rfl (ev_c fa _)) ?_; clear F fa; intro fa F
    refine wpList_nil ?_
    refine hK21 _ _ ?_
    clear hK21
    refine wp_block ?_
    have F0 := F.sub (.c 2 rfl (.c 10 rfl (.c 12 rfl (.c 57 rfl .n))))
    refine lp_for F0 (t.T.toNat) (fun k Lv W => ∃ va3 : Option Addr, ∃ vc3 : Nat, ∃ R3 : List Int, Lv = [(13, .slice va3 R3.length vc3), (58, .int .i64 ((k : Nat) : Int))] ∧ Ext [] w W ∧ Ext [] w7 W ∧ W.heap[n3]? = some (.cells #[.int .i64 t.S, .int .i64 t.A, .int .i64 t.T, .int .i64 t.bl, .int .i64 t.bm, .int .i64 t.pl, .int .i64 t.pm, .int .i64 t.sl, .slice ga t.gr.length gc, .slice ra t.rd.length rc, .slice la t.lk.length lc] 28 (0, 0)) ∧ W.heap[n9]? = some (.cells #[.int .i64 t.S, .int .i64 t.A, .int .i64 t.T, .int .i64 t.bl, .int .i64 t.bm, .int .i64 t.pl, .int .i64 t.pm, .int .i64 t.sl, .slice ga t.gr.length gc, .slice ra t.rd.length rc, .slice la t.lk.length lc] 100 (0, 0)) ∧ W.heap[n10]? = some (.cells (matCells (bdV t 0)) 105 (0, 0)) ∧ W.ownsRow B2 3 1 (.slice va3 R3.length vc3) R3.length (ivs R3) ∧ R3 = (List.range k).map (fun i => po (plo t (i : Nat)) (phi t (i : Nat))) ∧ R3.length = k) ⟨_, ⟨none, 0, [], rfl, E, EL, q3, q9, q10, po', rfl, rfl⟩, F.sub (.c 13 rfl (.c 58 rfl (.c 2 rfl (.c 10 rfl (.c 12 rfl (.c 57 rfl .n))))))⟩ ?_
    clear F F0
    clear E EL q3 q9 q10
    clear po'
    rintro k _ fa w16 hi3 ⟨va3, vc3, R3, rfl, E, EL, q3, q9, q10, po', hR3, hRl3⟩ F
    refine wp_seq_k fun K22 hK22 => ?_
    refine wp_region_lit ?_
    refine F.vl (R_lss rfl (F.at rfl) (F.at rfl)) ?_; clear F fa; intro fa F
    refine wpList_nil ?_
    refine hK22 _ _ ?_
    clear hK22
    refine wp_seq_k fun K23 hK23 => ?_
    refine cd_if F rfl (fun hc59 => ?_) (fun hc59 => ?_)
    · skip
      refine wp_skip ?_
      refine hK23 _ _ ?_
      clear hK23
      refine wp_seq_k fun K24 hK24 => ?_
      refine wp_block ?_
      refine wp_seq_k fun K25 hK25 => ?_
      refine wp_region_lit ?_
      refine F.mv ?_; clear F fa; intro fa F
      refine F.as ?_; clear F fa; intro fa F
      refine wpList_nil ?_
      refine hK25 _ _ ?_
      clear hK25
      refine wp_region_lit ?_
      refine F.mv ?_; clear F fa; intro fa F
      refine F.mv ?_; clear F fa; intro fa F
      refine F.vl (R_loadBlk rfl (F.at rfl) Try.underlying105 rfl (by rw [matCells_size]; kernel_rfl) q10) ?_; clear F fa; intro fa F
      refine F.mv ?_; clear F fa; intro fa F
      refine sq_call F rfl (by decide) rfl (R_callV rfl rfl Try.call97 (mpS (F.at rfl) (mpS (F.at rfl) mp0))) (tail_live hL k (by omega) _) fun e w17 hR => ?_
      obtain ⟨rfl, e9⟩ := hR
      refine ⟨_, rfl, ?_⟩; clear F fa; intro fa F
      replace po' := owns_ext po' (e9) (by simp)
      replace q3 := (e9).keep0 q3
      replace q9 := (e9).keep0 q9
      replace q10 := (e9).keep0 q10
      replace E := ext_same E (e9)
      replace EL := ext_same EL (e9)
      clear e9
      refine sq_call F rfl (by decide) rfl (R_callT rfl (F.at rfl) Hco.out (mpS (F.at rfl) mp0)) (Hfo.out _ _ _) fun e w18 hR => ?_
      obtain ⟨rfl, e9⟩ := hR
      refine ⟨_, rfl, ?_⟩; clear F fa; intro fa F
      replace po' := owns_ext po' (e9) (by simp)
      replace q3 := (e9).keep0 q3
      replace q9 := (e9).keep0 q9
      replace q10 := (e9).keep0 q10
      replace E := ext_same E (e9)
      replace EL := ext_same EL (e9)
      clear e9
      refine sq_new F rfl (by decide) rfl (R_buildSliceV rfl (prS (F.at rfl) pr0) Try.underlying29 (size := 1) (by kernel_rfl) (by decide) (by decide) Try.zeroValue3 (cells := #[.int .i64 (po (plo t k) (phi t k))]) (by kernel_rfl)) ?_; clear F fa; intro fa w19 F hw
      obtain ⟨n67, hn⟩ : ∃ n, n = w18.heap.size := ⟨_, rfl⟩
      rw [← hn] at F
      have s67 : w18.heap.size ≤ n67 := Nat.le_of_eq hn.symm
      have l67_E : w.heap.size ≤ n67 := by rw [hn]; exact E.size
      have l67_EL : w7.heap.size ≤ n67 := by rw [hn]; exact EL.size
      have m67_3 : n3 < n67 := by rw [hn]; exact blk_lt q3
      have m67_9 : n9 < n67 := by rw [hn]; exact blk_lt q9
      have m67_10 : n10 < n67 := by rw [hn]; exact blk_lt q10
      have o67_po' := Lib.hid (own_ne_new po' hn)
      replace po' := owns_alloc hw po'
      replace q3 := keep_alloc hw q3
      replace q9 := keep_alloc hw q9
      replace q10 := keep_alloc hw q10
      replace E := ext_alloc E hw
      replace EL := ext_alloc EL hw
      have q67 := new_block hw hn
      clear hw hn
      have hEs := EL.size
      refine sq_some F rfl (by decide) rfl (append_run rfl (B2) (e := 3) (size := 1) (bytes := 8) Try.underlying29 (by kernel_rfl) (by decide) (F.at rfl) po' (F.at rfl) q67 rfl (by simp [Value.oneCell']) (by omega) (by omega) (by omega)) ?_; clear F fa; rintro fa v' w20 F ⟨hown', hg⟩
      obtain ⟨va68, vc68, rfl⟩ := owns_slice hown'
      replace q3 := keep_type po' hg q3 (by decide)
      replace q9 := keep_type po' hg q9 (by decide)
      replace q10 := keep_type po' hg q10 (by decide)
      replace E := ext_appendX E po' hg (by omega)
      replace EL := ext_appendX EL po' hg (by omega)
      replace po' := hown'
      clear hg
      obtain ⟨P2, hP2e⟩ : ∃ P2, P2 = R3 ++ [po (plo t k) (phi t k)] := ⟨_, rfl⟩
      have hPl3 : R3.length + 1 = P2.length := by rw [hP2e, List.length_append]; rfl
      have hRl4 : P2.length = k + 1 := by omega
      have hR4 : P2 = (List.range (k + 1)).map (fun i => po (plo t (i : Nat)) (phi t (i : Nat))) := by rw [hP2e, hR3, List.range_succ, List.map_append]; rfl
      rw [ivs_snoc1, ← hP2e, hPl3] at po'
      rw [hPl3] at F
      refine F.as ?_; clear F fa; intro fa F
      refine wpList_nil ?_
      refine hK24 _ _ ?_
      clear hK24
      refine wp_region_lit ?_
      refine F.vl (R_add rfl (F.at rfl) (ev_c fa _) (by omega) (by omega)) ?_; clear F fa; intro fa F
      refine F.mv ?_; clear F fa; intro fa F
      refine wpList_nil ?_
      show _ ∧ _
      exact ⟨by omega, _, ⟨_, _, _, rfl, E, EL, q3, q9, q10, po', hR4, hRl4⟩, F.sub (.c 13 rfl (.c 58 rfl (.c 2 rfl (.c 10 rfl (.c 12 rfl (.c 57 rfl .n))))))⟩
    · skip
      refine wp_exit ?_
      obtain rfl : k = t.T.toNat := by omega
      refine hK20 _ _ ?_
      clear hK20
      refine wp_seq_k fun K26 hK26 => ?_
      refine wp_region_lit ?_
      refine F.mv ?_; clear F fa; intro fa F
      refine F.mv ?_; clear F fa; intro fa F
      refine F.as ?_; clear F fa; intro fa F
      refine F.as ?_; clear F fa; intro fa F
      refine F.vl (R_assign rfl (ev_c fa _)) ?_; clear F fa; intro fa F
      refine wpList_nil ?_
      refine hK26 _ _ ?_
      clear hK26
      refine wp_ret ?_
      (try simp only [Exit.inBlock, Exit.then])
      refine rt_v F (rs_3 F rfl rfl rfl rfl) ?_
      exact ⟨O, R3, va, va3, vc, vc3, rfl, hO, hR3, slAt_ext HLs.out EL, fun p hp => (HLr.out p hp).ext EL, rows_of_owns (row := intRow) (by rw [← ivs_flat]; exact po') (fun _ => rfl), E⟩
end Go.Proofs.Ytholfdgebdlgjaa
