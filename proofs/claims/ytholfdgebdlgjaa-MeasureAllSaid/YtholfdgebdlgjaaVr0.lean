/- The walks of grown and pulls. Conditions: valid tapes; as many measures as there are. -/
import Derived.Test.YtholfdgebdlgjaaVo
namespace Go.Proofs.Ytholfdgebdlgjaa
open Go.RowKit
set_option linter.unusedVariables false
set_option linter.unusedSimpArgs false
def CellG (t : Tp) (m : List Int) (s a : Int) : Prop := t.bl ≤ m.getD (s * t.A + a).toNat 0 ∧ m.getD (s * t.A + a).toNat 0 ≤ t.bm ∧
  (0 < a → (t.gr.getD s.toNat (0, 0)).1 ≤ m.getD (s * t.A + a).toNat 0 - m.getD (s * t.A + a - 1).toNat 0 ∧ m.getD (s * t.A + a).toNat 0 - m.getD (s * t.A + a - 1).toNat 0 ≤ (t.gr.getD s.toNat (0, 0)).2)
def LinkG (t : Tp) (m : List Int) (l : Int × Int × Int × Int × Int × Int) : Prop :=
  l.2.2.2.2.1 ≤ m.getD (l.1 * t.A + l.2.1).toNat 0 - m.getD (l.2.2.1 * t.A + l.2.2.2.1).toNat 0 ∧ m.getD (l.1 * t.A + l.2.1).toNat 0 - m.getD (l.2.2.1 * t.A + l.2.2.2.1).toNat 0 ≤ l.2.2.2.2.2
def growP (t : Tp) (m : List Int) : Prop := (∀ s a : Nat, (s : Int) < t.S → (a : Int) < t.A → CellG t m s a) ∧ ∀ i, i < t.lk.length → LinkG t m (t.lk.getD i (0, 0, 0, 0, 0, 0))
theorem idx_in {S A s a : Int} (s0 : 0 ≤ s) (s1 : s < S) (a0 : 0 ≤ a) (a1 : a < A) (hS : S ≤ 3) (hA : A ≤ 3) : 0 ≤ s * A ∧ s * A ≤ 6 ∧ s * A + a < S * A ∧ S * A ≤ 9 := by
  have h1 : s * A + A ≤ S * A := by
    have := Int.mul_le_mul_of_nonneg_right (show s + 1 ≤ S by omega) (show 0 ≤ A by omega)
    rw [Int.add_mul, Int.one_mul] at this
    exact this
  have h2 : S * A ≤ 3 * A := Int.mul_le_mul_of_nonneg_right hS (by omega)
  have h3 : 0 ≤ s * A := Int.mul_nonneg s0 (by omega)
  have h4 : s * A ≤ 2 * A := Int.mul_le_mul_of_nonneg_right (by omega) (by omega)
  omega
theorem m_small {m : List Int} (h : ∀ x ∈ m, -100000 ≤ x ∧ x ≤ 100000) (i : Nat) : -100000 ≤ m.getD i 0 ∧ m.getD i 0 ≤ 100000 := by
  by_cases hi : i < m.length
  · exact h _ (getD_mem 0 hi)
  · rw [List.getD_eq_getElem?_getD, List.getElem?_eq_none (by omega)]
    decide
set_option maxRecDepth 100000 in
set_option maxHeartbeats 1000000 in
theorem grown_any {t : Tp} (ok : t.Ok) (m : List Int) (hm : (m.length : Int) = t.S * t.A) (hs : ∀ x ∈ m, -100000 ≤ x ∧ x ≤ 100000) (ga ra la ma : Option Addr) (gc rc lc mc : Nat) (w : World)
    (ht : IsTp w (.slice ga t.gr.length gc) (.slice ra t.rd.length rc) (.slice la t.lk.length lc) t) (hmr : IsRows w (.slice ma m.length mc) 1 (m.map intRow)) :
    Calls Try.prog 107 #[tpV t (.slice ga t.gr.length gc) (.slice ra t.rd.length rc) (.slice la t.lk.length lc), .slice ma m.length mc] w fun e w' => ∃ b : Bool, e = .returned (.bool b) ∧ (b = true ↔ growP t m) ∧ Ext [] w w' := by
  have E : Ext [] w w := Ext.refl _ _
  have HG := Lib.hid (slAt_of_rows ht.gr (0, 0))
  have HL := Lib.hid (slAt_of_rows ht.lk (0, 0, 0, 0, 0, 0))
  have HM := Lib.hid (slAt_of_rows hmr 0)
  have hsm := Lib.hid (m_small hs)
  have o1 := ok.S1
  have o2 := ok.S3
  have o3 := ok.A1
  have o4 := ok.A3
  have o5 := ok.grl
  have o6 := ok.lkl
  have o7 := ok.bl1
  have o8 := ok.bm1
  have o9 := ok.b
  have hgr := Lib.hid ok.gr
  have hlk := Lib.hid ok.lk
  clear ht hmr hs ok
  unfold tpV
  refine calls_has 137 Try.func107 rfl Try.ntmps107 (Nat.le_of_ble_eq_true rfl) ?_
  intro fa F
  refine wp_seq_k fun K1 hK1 => ?_
  refine wp_region_lit ?_
  refine sq_new F rfl (by decide) rfl (R_box rfl (F.at rfl)) ?_; clear F fa; intro fa w1 F hw
  obtain ⟨n2, hn⟩ : ∃ n, n = w.heap.size := ⟨_, rfl⟩
  rw [← hn] at F
  have s2 : w.heap.size ≤ n2 := Nat.le_of_eq hn.symm
  have l2_E : w.heap.size ≤ n2 := by rw [hn]; exact E.size
  replace E := ext_alloc E hw
  have q2 := new_row hw hn
  clear hw hn
  refine F.vl (R_assign rfl (ev_c fa _)) ?_; clear F fa; intro fa F
  refine wpList_nil ?_
  refine hK1 _ _ ?_
  clear hK1
  refine wp_seq_k fun K2 hK2 => ?_
  refine wp_seq_k fun K3 hK3 => ?_
  refine wp_region_lit ?_
  refine F.vl (R_assign rfl (ev_c fa _)) ?_; clear F fa; intro fa F
  refine wpList_nil ?_
  refine hK3 _ _ ?_
  clear hK3
  refine wp_block ?_
  have F0 := F.sub (.c 1 rfl (.c 2 rfl .n))
  refine lp_for F0 (t.S.toNat) (fun i Lv W => Lv = [(5, .int .i64 ((i : Nat) : Int))] ∧ Ext [] w1 W ∧ Hid (∀ s a : Nat, s < i → (a : Int) < t.A → CellG t m s a)) ⟨_, ⟨rfl, Ext.refl _ _, Lib.hid fun s a h => absurd h (by omega)⟩, F.sub (.c 5 rfl (.c 1 rfl (.c 2 rfl .n)))⟩ ?_
  clear F F0
  rintro i _ fa w2 hi1 ⟨rfl, EL1, hS⟩ F
  have q2 := EL1.keep0 q2
  have E := E.nil EL1
  refine wp_seq_k fun K4 hK4 => ?_
  refine wp_seq_k fun K5 hK5 => ?_
  refine wp_region_lit ?_
  refine F.mv ?_; clear F fa; intro fa F
  refine F.vl (R_field rfl (F.at rfl) Try.underlying28 rfl (n := 0) (sz := 1) rfl (by kernel_rfl) (by decide)) ?_; clear F fa; intro fa F
  refine F.vl (R_load rfl (F.at rfl) Try.underlying3 rfl ((cells_of_block q2 0).trans (get0))) ?_; clear F fa; intro fa F
  refine F.vl (R_lss rfl (F.at rfl) (F.at rfl)) ?_; clear F fa; intro fa F
  refine wpList_nil ?_
  refine hK5 _ _ ?_
  clear hK5
  refine cd_if F rfl (fun hc14 => ?_) (fun hc14 => ?_)
  · skip
    refine wp_skip ?_
    refine hK4 _ _ ?_
    clear hK4
    refine wp_seq_k fun K6 hK6 => ?_
    refine wp_block ?_
    refine wp_seq_k fun K7 hK7 => ?_
    refine wp_region_lit ?_
    refine F.vl (R_assign rfl (ev_c fa _)) ?_; clear F fa; intro fa F
    refine wpList_nil ?_
    refine hK7 _ _ ?_
    clear hK7
    refine wp_block ?_
    have F0 := F.sub (.c 1 rfl (.c 2 rfl (.c 5 rfl .n)))
    refine lp_for F0 (t.A.toNat) (fun j Lv W => Lv = [(6, .int .i64 ((j : Nat) : Int))] ∧ Ext [] w2 W ∧ Hid (∀ a : Nat, a < j → CellG t m i a)) ⟨_, ⟨rfl, Ext.refl _ _, Lib.hid fun a h => absurd h (by omega)⟩, F.sub (.c 6 rfl (.c 1 rfl (.c 2 rfl (.c 5 rfl .n))))⟩ ?_
    clear F F0
    rintro j _ fa w3 hi2 ⟨rfl, EL2, hA⟩ F
    have q2 := EL2.keep0 q2
    have E := E.nil EL2
    have EL1 := EL1.nil EL2
    refine wp_seq_k fun K8 hK8 => ?_
    refine wp_seq_k fun K9 hK9 => ?_
    refine wp_region_lit ?_
    refine F.mv ?_; clear F fa; intro fa F
    refine F.vl (R_field rfl (F.at rfl) Try.underlying28 rfl (n := 1) (sz := 1) rfl (by kernel_rfl) (by decide)) ?_; clear F fa; intro fa F
    refine F.vl (R_load rfl (F.at rfl) Try.underlying3 rfl ((cells_of_block q2 1).trans (getS (get0)))) ?_; clear F fa; intro fa F
    refine F.vl (R_lss rfl (F.at rfl) (F.at rfl)) ?_; clear F fa; intro fa F
    refine wpList_nil ?_
    refine hK9 _ _ ?_
    clear hK9
    refine cd_if F rfl (fun hc20 => ?_) (fun hc20 => ?_)
    · skip
      refine wp_skip ?_
      refine hK8 _ _ ?_
      clear hK8
      refine wp_seq_k fun K10 hK10 => ?_
      refine wp_block ?_
      refine wp_seq_k fun K11 hK11 => ?_
      obtain ⟨x1, x2, x3, x4⟩ := idx_in (S := t.S) (A := t.A) (s := (i : Int)) (a := (j : Int)) (by omega) (by omega) (by omega) (by omega) (by omega) (by omega)
      refine wp_region_lit ?_
      refine F.mv ?_; clear F fa; intro fa F
      refine F.mv ?_; clear F fa; intro fa F
      refine F.vl (R_field rfl (F.at rfl) Try.underlying28 rfl (n := 1) (sz := 1) rfl (by kernel_rfl) (by decide)) ?_; clear F fa; intro fa F
      refine F.vl (R_load rfl (F.at rfl) Try.underlying3 rfl ((cells_of_block q2 1).trans (getS (get0)))) ?_; clear F fa; intro fa F
      refine F.vl (R_mul rfl (F.at rfl) (F.at rfl) (by omega) (by omega)) ?_; clear F fa; intro fa F
      refine F.mv ?_; clear F fa; intro fa F
      refine F.vl (R_add rfl (F.at rfl) (F.at rfl) (by omega) (by omega)) ?_; clear F fa; intro fa F
      obtain ⟨xb12, xo12, xa12, xr12⟩ := HM.out (((((i : Nat) : Int) * t.A) + ((j : Nat) : Int)).toNat) (by omega)
      refine F.vl (R_ixSlice (sz := 1) rfl ((F.at rfl).trans (xa12 _ _)) (F.at rfl) Try.underlying29 (by kernel_rfl) (by omega) (by omega)) ?_; clear F fa; intro fa F
      refine F.vl (R_load rfl (F.at rfl) Try.underlying3 rfl (xr12 _ E 0 _ rfl)) ?_; clear F fa; intro fa F
      refine F.as ?_; clear F fa; intro fa F
      refine wpList_nil ?_
      refine hK11 _ _ ?_
      clear hK11
      refine wp_seq_k fun K13 hK13 => ?_
      have y1 := hsm.out ((i : Int) * t.A + (j : Int)).toNat
      have y2 := hsm.out ((i : Int) * t.A + (j : Int) - 1).toNat
      have y3 := hgr.out _ (getD_mem (0, 0) (show i < t.gr.length by omega))
      refine wp_region_st 57 follows (by kernel_rfl) fun w4 hh eh => ?_
      replace q2 := keep_same hh q2
      replace E := ext_same E eh
      replace EL1 := ext_same EL1 eh
      replace EL2 := ext_same EL2 eh
      clear hh eh
      refine F.smv ?_; clear F fa; intro fa F
      refine F.sv (R_field rfl (F.at rfl) Try.underlying28 rfl (n := 3) (sz := 2) rfl (by kernel_rfl) (by decide)) ?_; clear F fa; intro fa F
      refine F.sv (R_field rfl (F.at rfl) Try.underlying23 rfl (n := 3) (sz := 1) rfl (by kernel_rfl) (by decide)) ?_; clear F fa; intro fa F
      refine F.sv (R_load rfl (F.at rfl) Try.underlying3 rfl ((cells_of_block q2 3).trans (getS (getS (getS (get0)))))) ?_; clear F fa; intro fa F
      refine F.sv (R_lss rfl (F.at rfl) (F.at rfl)) ?_; clear F fa; intro fa F
      refine F.smv ?_; clear F fa; intro fa F
      by_cases hg1 : ((m.getD (((((i : Nat) : Int) * t.A) + ((j : Nat) : Int)).toNat) 0) < t.bl)
      · skip
        replace F := F.re (k := 37) rfl (congrArg Value.bool (decide_eq_true hg1))
        refine st_no F rfl (by decide) (wantF F rfl rfl (by decide) rfl (by decide)) ?_; clear F fa; intro fa F
        refine st_no F rfl (by decide) (wantF F rfl rfl (by decide) rfl (by decide)) ?_; clear F fa; intro fa F
        refine st_no F rfl (by decide) (wantF F rfl rfl (by decide) rfl (by decide)) ?_; clear F fa; intro fa F
        refine st_no F rfl (by decide) (wantF F rfl rfl (by decide) rfl (by decide)) ?_; clear F fa; intro fa F
        refine st_no F rfl (by decide) (wantF F rfl rfl (by decide) rfl (by decide)) ?_; clear F fa; intro fa F
        refine F.sv (R_pickT rfl (F.at rfl) (ev_c fa _)) ?_; clear F fa; intro fa F
        refine F.smv ?_; clear F fa; intro fa F
        refine st_no F rfl (by decide) (wantF F rfl rfl (by decide) rfl (by decide)) ?_; clear F fa; intro fa F
        refine st_no F rfl (by decide) (wantF F rfl rfl (by decide) rfl (by decide)) ?_; clear F fa; intro fa F
        refine st_no F rfl (by decide) (wantF F rfl rfl (by decide) rfl (by decide)) ?_; clear F fa; intro fa F
        refine st_no F rfl (by decide) (wantU F rfl rfl (by decide) rfl) ?_; clear F fa; intro fa F
        refine st_no F rfl (by decide) (wantU F rfl rfl (by decide) rfl) ?_; clear F fa; intro fa F
        refine st_no F rfl (by decide) (wantU F rfl rfl (by decide) rfl) ?_; clear F fa; intro fa F
        refine st_no F rfl (by decide) (wantU F rfl rfl (by decide) rfl) ?_; clear F fa; intro fa F
        refine st_no F rfl (by decide) (wantU F rfl rfl (by decide) rfl) ?_; clear F fa; intro fa F
        refine st_no F rfl (by decide) (wantU F rfl rfl (by decide) rfl) ?_; clear F fa; intro fa F
        refine st_no F rfl (by decide) (wantU F rfl rfl (by decide) rfl) ?_; clear F fa; intro fa F
        refine st_no F rfl (by decide) (wantU F rfl rfl (by decide) rfl) ?_; clear F fa; intro fa F
        refine st_no F rfl (by decide) (wantU F rfl rfl (by decide) rfl) ?_; clear F fa; intro fa F
        refine st_no F rfl (by decide) (wantU F rfl rfl (by decide) rfl) ?_; clear F fa; intro fa F
        refine st_no F rfl (by decide) (wantU F rfl rfl (by decide) rfl) ?_; clear F fa; intro fa F
        refine st_no F rfl (by decide) (wantU F rfl rfl (by decide) rfl) ?_; clear F fa; intro fa F
        refine st_no F rfl (by decide) (wantU F rfl rfl (by decide) rfl) ?_; clear F fa; intro fa F
        refine st_no F rfl (by decide) (wantU F rfl rfl (by decide) rfl) ?_; clear F fa; intro fa F
        refine st_no F rfl (by decide) (wantU F rfl rfl (by decide) rfl) ?_; clear F fa; intro fa F
        refine st_no F rfl (by decide) (wantU F rfl rfl (by decide) rfl) ?_; clear F fa; intro fa F
        refine st_no F rfl (by decide) (wantU F rfl rfl (by decide) rfl) ?_; clear F fa; intro fa F
        refine st_no F rfl (by decide) (wantU F rfl rfl (by decide) rfl) ?_; clear F fa; intro fa F
        refine st_no F rfl (by decide) (wantU F rfl rfl (by decide) rfl) ?_; clear F fa; intro fa F
        refine st_no F rfl (by decide) (wantU F rfl rfl (by decide) rfl) ?_; clear F fa; intro fa F
        refine st_no F rfl (by decide) (wantU F rfl rfl (by decide) rfl) ?_; clear F fa; intro fa F
        refine st_no F rfl (by decide) (wantU F rfl rfl (by decide) rfl) ?_; clear F fa; intro fa F
        refine st_no F rfl (by decide) (wantU F rfl rfl (by decide) rfl) ?_; clear F fa; intro fa F
        refine st_no F rfl (by decide) (wantU F rfl rfl (by decide) rfl) ?_; clear F fa; intro fa F
        refine st_no F rfl (by decide) (wantU F rfl rfl (by decide) rfl) ?_; clear F fa; intro fa F
        refine st_no F rfl (by decide) (wantU F rfl rfl (by decide) rfl) ?_; clear F fa; intro fa F
        refine st_no F rfl (by decide) (wantU F rfl rfl (by decide) rfl) ?_; clear F fa; intro fa F
        refine st_no F rfl (by decide) (wantU F rfl rfl (by decide) rfl) ?_; clear F fa; intro fa F
        refine st_no F rfl (by decide) (wantU F rfl rfl (by decide) rfl) ?_; clear F fa; intro fa F
        refine st_no F rfl (by decide) (wantU F rfl rfl (by decide) rfl) ?_; clear F fa; intro fa F
        refine st_no F rfl (by decide) (wantU F rfl rfl (by decide) rfl) ?_; clear F fa; intro fa F
        refine st_no F rfl (by decide) (wantU F rfl rfl (by decide) rfl) ?_; clear F fa; intro fa F
        refine st_no F rfl (by decide) (wantU F rfl rfl (by decide) rfl) ?_; clear F fa; intro fa F
        refine st_no F rfl (by decide) (wantU F rfl rfl (by decide) rfl) ?_; clear F fa; intro fa F
        refine st_no F rfl (by decide) (wantU F rfl rfl (by decide) rfl) ?_; clear F fa; intro fa F
        refine st_no F rfl (by decide) (wantU F rfl rfl (by decide) rfl) ?_; clear F fa; intro fa F
        refine st_no F rfl (by decide) (wantU F rfl rfl (by decide) rfl) ?_; clear F fa; intro fa F
        refine st_no F rfl (by decide) (wantU F rfl rfl (by decide) rfl) ?_; clear F fa; intro fa F
        refine st_no F rfl (by decide) (wantU F rfl rfl (by decide) rfl) ?_; clear F fa; intro fa F
        refine st_no F rfl (by decide) (wantU F rfl rfl (by decide) rfl) ?_; clear F fa; intro fa F
        refine st_no F rfl (by decide) (wantF F rfl rfl (by decide) rfl (by decide)) ?_; clear F fa; intro fa F
        refine wpStill_nil ?_
        refine F.vl (R_pickT rfl (F.at rfl) (ev_c fa _)) ?_; clear F fa; intro fa F
        refine wpList_nil ?_
        refine hK13 _ _ ?_
        clear hK13
        refine cd_T F rfl ?_
        refine wp_seq_k fun K14 hK14 => ?_
        replace F := F.sub .n
        clear q2
        refine wp_region_lit ?_
        refine F.vl (R_assign rfl (ev_c fa _)) ?_; clear F fa; intro fa F
        refine wpList_nil ?_
        have hno : ¬ growP t m := fun h => by have q := h.1 i j (by omega) (by omega); unfold CellG at q; rw [Int.toNat_natCast] at q; omega
        refine hK14 _ _ ?_
        clear hK14
        refine wp_ret ?_
        (try simp only [Exit.inBlock, Exit.then])
        refine rt_v F (rs_1 F rfl rfl) ?_
        first | exact ⟨true, rfl, iff_of_true rfl hyes, E⟩ | exact ⟨false, rfl, iff_of_false (by decide) hno, E⟩
      · skip
        replace F := F.re (k := 37) rfl (congrArg Value.bool (decide_eq_false hg1))
        refine F.smv ?_ (hw := (wantT F rfl rfl (by decide) rfl)); clear F fa; intro fa F
        refine F.sv (R_field rfl (F.at rfl) Try.underlying28 rfl (n := 3) (sz := 2) rfl (by kernel_rfl) (by decide)) ?_ (hw := (wantT F rfl rfl (by decide) rfl)); clear F fa; intro fa F
        refine F.sv (R_field rfl (F.at rfl) Try.underlying23 rfl (n := 4) (sz := 1) rfl (by kernel_rfl) (by decide)) ?_ (hw := (wantT F rfl rfl (by decide) rfl)); clear F fa; intro fa F
        refine F.sv (R_load rfl (F.at rfl) Try.underlying3 rfl ((cells_of_block q2 4).trans (getS (getS (getS (getS (get0))))))) ?_ (hw := (wantT F rfl rfl (by decide) rfl)); clear F fa; intro fa F
        refine F.sv (R_gtr rfl (F.at rfl) (F.at rfl)) ?_ (hw := (wantT F rfl rfl (by decide) rfl)); clear F fa; intro fa F
        refine F.sv (R_pickF rfl (F.at rfl) (F.at rfl)) ?_; clear F fa; intro fa F
        refine F.smv ?_; clear F fa; intro fa F
        by_cases hg2 : (t.bm < (m.getD (((((i : Nat) : Int) * t.A) + ((j : Nat) : Int)).toNat) 0))
        · skip
          replace F := F.re (k := 44) rfl (congrArg Value.bool (decide_eq_true hg2))
          refine st_no F rfl (by decide) (wantF F rfl rfl (by decide) rfl (by decide)) ?_; clear F fa; intro fa F
          refine st_no F rfl (by decide) (wantF F rfl rfl (by decide) rfl (by decide)) ?_; clear F fa; intro fa F
          refine st_no F rfl (by decide) (wantF F rfl rfl (by decide) rfl (by decide)) ?_; clear F fa; intro fa F
          refine st_no F rfl (by decide) (wantU F rfl rfl (by decide) rfl) ?_; clear F fa; intro fa F
          refine st_no F rfl (by decide) (wantU F rfl rfl (by decide) rfl) ?_; clear F fa; intro fa F
          refine st_no F rfl (by decide) (wantU F rfl rfl (by decide) rfl) ?_; clear F fa; intro fa F
          refine st_no F rfl (by decide) (wantU F rfl rfl (by decide) rfl) ?_; clear F fa; intro fa F
          refine st_no F rfl (by decide) (wantU F rfl rfl (by decide) rfl) ?_; clear F fa; intro fa F
          refine st_no F rfl (by decide) (wantU F rfl rfl (by decide) rfl) ?_; clear F fa; intro fa F
          refine st_no F rfl (by decide) (wantU F rfl rfl (by decide) rfl) ?_; clear F fa; intro fa F
          refine st_no F rfl (by decide) (wantU F rfl rfl (by decide) rfl) ?_; clear F fa; intro fa F
          refine st_no F rfl (by decide) (wantU F rfl rfl (by decide) rfl) ?_; clear F fa; intro fa F
          refine st_no F rfl (by decide) (wantU F rfl rfl (by decide) rfl) ?_; clear F fa; intro fa F
          refine st_no F rfl (by decide) (wantU F rfl rfl (by decide) rfl) ?_; clear F fa; intro fa F
          refine st_no F rfl (by decide) (wantU F rfl rfl (by decide) rfl) ?_; clear F fa; intro fa F
          refine st_no F rfl (by decide) (wantU F rfl rfl (by decide) rfl) ?_; clear F fa; intro fa F
          refine st_no F rfl (by decide) (wantU F rfl rfl (by decide) rfl) ?_; clear F fa; intro fa F
          refine st_no F rfl (by decide) (wantU F rfl rfl (by decide) rfl) ?_; clear F fa; intro fa F
          refine st_no F rfl (by decide) (wantU F rfl rfl (by decide) rfl) ?_; clear F fa; intro fa F
          refine st_no F rfl (by decide) (wantU F rfl rfl (by decide) rfl) ?_; clear F fa; intro fa F
          refine st_no F rfl (by decide) (wantU F rfl rfl (by decide) rfl) ?_; clear F fa; intro fa F
          refine st_no F rfl (by decide) (wantU F rfl rfl (by decide) rfl) ?_; clear F fa; intro fa F
          refine st_no F rfl (by decide) (wantU F rfl rfl (by decide) rfl) ?_; clear F fa; intro fa F
          refine st_no F rfl (by decide) (wantU F rfl rfl (by decide) rfl) ?_; clear F fa; intro fa F
          refine st_no F rfl (by decide) (wantU F rfl rfl (by decide) rfl) ?_; clear F fa; intro fa F
          refine st_no F rfl (by decide) (wantU F rfl rfl (by decide) rfl) ?_; clear F fa; intro fa F
          refine st_no F rfl (by decide) (wantU F rfl rfl (by decide) rfl) ?_; clear F fa; intro fa F
          refine st_no F rfl (by decide) (wantU F rfl rfl (by decide) rfl) ?_; clear F fa; intro fa F
          refine st_no F rfl (by decide) (wantU F rfl rfl (by decide) rfl) ?_; clear F fa; intro fa F
          refine st_no F rfl (by decide) (wantU F rfl rfl (by decide) rfl) ?_; clear F fa; intro fa F
          refine st_no F rfl (by decide) (wantU F rfl rfl (by decide) rfl) ?_; clear F fa; intro fa F
          refine st_no F rfl (by decide) (wantU F rfl rfl (by decide) rfl) ?_; clear F fa; intro fa F
          refine st_no F rfl (by decide) (wantU F rfl rfl (by decide) rfl) ?_; clear F fa; intro fa F
          refine st_no F rfl (by decide) (wantU F rfl rfl (by decide) rfl) ?_; clear F fa; intro fa F
          refine st_no F rfl (by decide) (wantU F rfl rfl (by decide) rfl) ?_; clear F fa; intro fa F
          refine st_no F rfl (by decide) (wantU F rfl rfl (by decide) rfl) ?_; clear F fa; intro fa F
          refine st_no F rfl (by decide) (wantU F rfl rfl (by decide) rfl) ?_; clear F fa; intro fa F
          refine st_no F rfl (by decide) (wantU F rfl rfl (by decide) rfl) ?_; clear F fa; intro fa F
          refine st_no F rfl (by decide) (wantU F rfl rfl (by decide) rfl) ?_; clear F fa; intro fa F
          refine st_no F rfl (by decide) (wantU F rfl rfl (by decide) rfl) ?_; clear F fa; intro fa F
          refine st_no F rfl (by decide) (wantU F rfl rfl (by decide) rfl) ?_; clear F fa; intro fa F
          refine st_no F rfl (by decide) (wantU F rfl rfl (by decide) rfl) ?_; clear F fa; intro fa F
          refine st_no F rfl (by decide) (wantU F rfl rfl (by decide) rfl) ?_; clear F fa; intro fa F
          refine st_no F rfl (by decide) (wantF F rfl rfl (by decide) rfl (by decide)) ?_; clear F fa; intro fa F
          refine wpStill_nil ?_
          refine F.vl (R_pickT rfl (F.at rfl) (ev_c fa _)) ?_; clear F fa; intro fa F
          refine wpList_nil ?_
          refine hK13 _ _ ?_
          clear hK13
          refine cd_T F rfl ?_
          refine wp_seq_k fun K15 hK15 => ?_
          replace F := F.sub .n
          clear q2
          refine wp_region_lit ?_
          refine F.vl (R_assign rfl (ev_c fa _)) ?_; clear F fa; intro fa F
          refine wpList_nil ?_
          have hno : ¬ growP t m := fun h => by have q := h.1 i j (by omega) (by omega); unfold CellG at q; rw [Int.toNat_natCast] at q; omega
          refine hK15 _ _ ?_
          clear hK15
          refine wp_ret ?_
          (try simp only [Exit.inBlock, Exit.then])
          refine rt_v F (rs_1 F rfl rfl) ?_
          first | exact ⟨true, rfl, iff_of_true rfl hyes, E⟩ | exact ⟨false, rfl, iff_of_false (by decide) hno, E⟩
        · skip
          replace F := F.re (k := 44) rfl (congrArg Value.bool (decide_eq_false hg2))
          refine F.smv ?_ (hw := (wantT F rfl rfl (by decide) rfl)); clear F fa; intro fa F
          refine F.sv (R_gtr rfl (F.at rfl) (ev_c fa _)) ?_ (hw := (wantT F rfl rfl (by decide) rfl)); clear F fa; intro fa F
          refine F.smv ?_ (hw := (wantT F rfl rfl (by decide) rfl)); clear F fa; intro fa F
          by_cases hg3 : (0 < ((j : Nat) : Int))
          · skip
            replace F := F.re (k := 47) rfl (congrArg Value.bool (decide_eq_true hg3))
            refine F.smv ?_ (hw := (wantT F rfl rfl (by decide) rfl)); clear F fa; intro fa F
            refine F.smv ?_ (hw := (wantT F rfl rfl (by decide) rfl)); clear F fa; intro fa F
            refine F.smv ?_ (hw := (wantT F rfl rfl (by decide) rfl)); clear F fa; intro fa F
            refine F.sv (R_field rfl (F.at rfl) Try.underlying28 rfl (n := 1) (sz := 1) rfl (by kernel_rfl) (by decide)) ?_ (hw := (wantT F rfl rfl (by decide) rfl)); clear F fa; intro fa F
            refine F.sv (R_load rfl (F.at rfl) Try.underlying3 rfl ((cells_of_block q2 1).trans (getS (get0)))) ?_ (hw := (wantT F rfl rfl (by decide) rfl)); clear F fa; intro fa F
            refine F.sv (R_mul rfl (F.at rfl) (F.at rfl) (by omega) (by omega)) ?_ (hw := (wantT F rfl rfl (by decide) rfl)); clear F fa; intro fa F
            refine F.smv ?_ (hw := (wantT F rfl rfl (by decide) rfl)); clear F fa; intro fa F
            refine F.sv (R_add rfl (F.at rfl) (F.at rfl) (by omega) (by omega)) ?_ (hw := (wantT F rfl rfl (by decide) rfl)); clear F fa; intro fa F
            refine F.sv (R_sub rfl (F.at rfl) (ev_c fa _) (by omega) (by omega)) ?_ (hw := (wantT F rfl rfl (by decide) rfl)); clear F fa; intro fa F
            obtain ⟨xb16, xo16, xa16, xr16⟩ := HM.out ((((((i : Nat) : Int) * t.A) + ((j : Nat) : Int)) - 1).toNat) (by omega)
            refine F.sv (R_ixSlice (sz := 1) rfl ((F.at rfl).trans (xa16 _ _)) (F.at rfl) Try.underlying29 (by kernel_rfl) (by omega) (by omega)) ?_ (hw := (wantT F rfl rfl (by decide) rfl)); clear F fa; intro fa F
            refine F.sv (R_load rfl (F.at rfl) Try.underlying3 rfl (xr16 _ E 0 _ rfl)) ?_ (hw := (wantT F rfl rfl (by decide) rfl)); clear F fa; intro fa F
            refine F.sv (R_sub rfl (F.at rfl) (F.at rfl) (by omega) (by omega)) ?_ (hw := (wantT F rfl rfl (by decide) rfl)); clear F fa; intro fa F
            refine F.sv (R_field rfl (F.at rfl) Try.underlying28 rfl (n := 8) (sz := 1) rfl (by kernel_rfl) (by decide)) ?_ (hw := (wantT F rfl rfl (by decide) rfl)); clear F fa; intro fa F
            refine F.sv (R_load rfl (F.at rfl) Try.underlying24 rfl ((cells_of_block q2 8).trans (getS (getS (getS (getS (getS (getS (getS (getS (get0))))))))))) ?_ (hw := (wantT F rfl rfl (by decide) rfl)); clear F fa; intro fa F
            refine F.smv ?_ (hw := (wantT F rfl rfl (by decide) rfl)); clear F fa; intro fa F
            obtain ⟨xb17, xo17, xa17, xr17⟩ := HG.out i (by omega)
            refine F.sv (R_ixSlice (sz := 2) rfl ((F.at rfl).trans (xa17 _ _)) (F.at rfl) Try.underlying24 (by kernel_rfl) (by omega) (by omega)) ?_ (hw := (wantT F rfl rfl (by decide) rfl)); clear F fa; intro fa F
            refine F.sv (R_field rfl (F.at rfl) Try.underlying23 rfl (n := xo17 + ((i : Nat) : Int).toNat * 2 + 0) (sz := 1) rfl (by kernel_rfl) (by decide)) ?_ (hw := (wantT F rfl rfl (by decide) rfl)); clear F fa; intro fa F
            refine F.sv (R_load rfl (F.at rfl) Try.underlying3 rfl (xr17 _ E 0 _ rfl)) ?_ (hw := (wantT F rfl rfl (by decide) rfl)); clear F fa; intro fa F
            refine F.sv (R_lss rfl (F.at rfl) (F.at rfl)) ?_ (hw := (wantT F rfl rfl (by decide) rfl)); clear F fa; intro fa F
            refine F.smv ?_ (hw := (wantT F rfl rfl (by decide) rfl)); clear F fa; intro fa F
            by_cases hg4 : (((m.getD (((((i : Nat) : Int) * t.A) + ((j : Nat) : Int)).toNat) 0) - (m.getD ((((((i : Nat) : Int) * t.A) + ((j : Nat) : Int)) - 1).toNat) 0)) < ((t.gr.getD i (0, 0)).1))
            · skip
              replace F := F.re (k := 67) rfl (congrArg Value.bool (decide_eq_true hg4))
              refine st_no F rfl (by decide) (wantF F rfl rfl (by decide) rfl (by decide)) ?_; clear F fa; intro fa F
              refine st_no F rfl (by decide) (wantF F rfl rfl (by decide) rfl (by decide)) ?_; clear F fa; intro fa F
              refine st_no F rfl (by decide) (wantF F rfl rfl (by decide) rfl (by decide)) ?_; clear F fa; intro fa F
              refine st_no F rfl (by decide) (wantF F rfl rfl (by decide) rfl (by decide)) ?_; clear F fa; intro fa F
              refine st_no F rfl (by decide) (wantF F rfl rfl (by decide) rfl (by decide)) ?_; clear F fa; intro fa F
              refine st_no F rfl (by decide) (wantF F rfl rfl (by decide) rfl (by decide)) ?_; clear F fa; intro fa F
              refine st_no F rfl (by decide) (wantF F rfl rfl (by decide) rfl (by decide)) ?_; clear F fa; intro fa F
              refine st_no F rfl (by decide) (wantF F rfl rfl (by decide) rfl (by decide)) ?_; clear F fa; intro fa F
              refine st_no F rfl (by decide) (wantF F rfl rfl (by decide) rfl (by decide)) ?_; clear F fa; intro fa F
              refine st_no F rfl (by decide) (wantF F rfl rfl (by decide) rfl (by decide)) ?_; clear F fa; intro fa F
              refine st_no F rfl (by decide) (wantF F rfl rfl (by decide) rfl (by decide)) ?_; clear F fa; intro fa F
              refine st_no F rfl (by decide) (wantF F rfl rfl (by decide) rfl (by decide)) ?_; clear F fa; intro fa F
              refine st_no F rfl (by decide) (wantF F rfl rfl (by decide) rfl (by decide)) ?_; clear F fa; intro fa F
              refine st_no F rfl (by decide) (wantF F rfl rfl (by decide) rfl (by decide)) ?_; clear F fa; intro fa F
              refine st_no F rfl (by decide) (wantF F rfl rfl (by decide) rfl (by decide)) ?_; clear F fa; intro fa F
              refine st_no F rfl (by decide) (wantF F rfl rfl (by decide) rfl (by decide)) ?_; clear F fa; intro fa F
              refine st_no F rfl (by decide) (wantF F rfl rfl (by decide) rfl (by decide)) ?_; clear F fa; intro fa F
              refine st_no F rfl (by decide) (wantF F rfl rfl (by decide) rfl (by decide)) ?_; clear F fa; intro fa F
              refine st_no F rfl (by decide) (wantF F rfl rfl (by decide) rfl (by decide)) ?_; clear F fa; intro fa F
              refine F.sv (R_pickT rfl (F.at rfl) (ev_c fa _)) ?_ (hw := (wantT F rfl rfl (by decide) rfl)); clear F fa; intro fa F
              refine F.sv (R_pickT rfl (F.at rfl) (F.at rfl)) ?_ (hw := (wantT F rfl rfl (by decide) rfl)); clear F fa; intro fa F
              refine wpStill_nil ?_
              refine F.vl (R_pickF rfl (F.at rfl) (F.at rfl)) ?_; clear F fa; intro fa F
              refine wpList_nil ?_
              refine hK13 _ _ ?_
              clear hK13
              refine cd_T F rfl ?_
              refine wp_seq_k fun K18 hK18 => ?_
              replace F := F.sub .n
              clear q2
              refine wp_region_lit ?_
              refine F.vl (R_assign rfl (ev_c fa _)) ?_; clear F fa; intro fa F
              refine wpList_nil ?_
              have hno : ¬ growP t m := fun h => by have q := h.1 i j (by omega) (by omega); unfold CellG at q; rw [Int.toNat_natCast] at q; omega
              refine hK18 _ _ ?_
              clear hK18
              refine wp_ret ?_
              (try simp only [Exit.inBlock, Exit.then])
              refine rt_v F (rs_1 F rfl rfl) ?_
              first | exact ⟨true, rfl, iff_of_true rfl hyes, E⟩ | exact ⟨false, rfl, iff_of_false (by decide) hno, E⟩
            · skip
              replace F := F.re (k := 67) rfl (congrArg Value.bool (decide_eq_false hg4))
              refine F.smv ?_ (hw := (wantT F rfl rfl (by decide) rfl)); clear F fa; intro fa F
              refine F.smv ?_ (hw := (wantT F rfl rfl (by decide) rfl)); clear F fa; intro fa F
              refine F.smv ?_ (hw := (wantT F rfl rfl (by decide) rfl)); clear F fa; intro fa F
              refine F.sv (R_field rfl (F.at rfl) Try.underlying28 rfl (n := 1) (sz := 1) rfl (by kernel_rfl) (by decide)) ?_ (hw := (wantT F rfl rfl (by decide) rfl)); clear F fa; intro fa F
              refine F.sv (R_load rfl (F.at rfl) Try.underlying3 rfl ((cells_of_block q2 1).trans (getS (get0)))) ?_ (hw := (wantT F rfl rfl (by decide) rfl)); clear F fa; intro fa F
              refine F.sv (R_mul rfl (F.at rfl) (F.at rfl) (by omega) (by omega)) ?_ (hw := (wantT F rfl rfl (by decide) rfl)); clear F fa; intro fa F
              refine F.smv ?_ (hw := (wantT F rfl rfl (by decide) rfl)); clear F fa; intro fa F
              refine F.sv (R_add rfl (F.at rfl) (F.at rfl) (by omega) (by omega)) ?_ (hw := (wantT F rfl rfl (by decide) rfl)); clear F fa; intro fa F
              refine F.sv (R_sub rfl (F.at rfl) (ev_c fa _) (by omega) (by omega)) ?_ (hw := (wantT F rfl rfl (by decide) rfl)); clear F fa; intro fa F
              obtain ⟨xb19, xo19, xa19, xr19⟩ := HM.out ((((((i : Nat) : Int) * t.A) + ((j : Nat) : Int)) - 1).toNat) (by omega)
              refine F.sv (R_ixSlice (sz := 1) rfl ((F.at rfl).trans (xa19 _ _)) (F.at rfl) Try.underlying29 (by kernel_rfl) (by omega) (by omega)) ?_ (hw := (wantT F rfl rfl (by decide) rfl)); clear F fa; intro fa F
              refine F.sv (R_load rfl (F.at rfl) Try.underlying3 rfl (xr19 _ E 0 _ rfl)) ?_ (hw := (wantT F rfl rfl (by decide) rfl)); clear F fa; intro fa F
              refine F.sv (R_sub rfl (F.at rfl) (F.at rfl) (by omega) (by omega)) ?_ (hw := (wantT F rfl rfl (by decide) rfl)); clear F fa; intro fa F
              refine F.sv (R_field rfl (F.at rfl) Try.underlying28 rfl (n := 8) (sz := 1) rfl (by kernel_rfl) (by decide)) ?_ (hw := (wantT F rfl rfl (by decide) rfl)); clear F fa; intro fa F
              refine F.sv (R_load rfl (F.at rfl) Try.underlying24 rfl ((cells_of_block q2 8).trans (getS (getS (getS (getS (getS (getS (getS (getS (get0))))))))))) ?_ (hw := (wantT F rfl rfl (by decide) rfl)); clear F fa; intro fa F
              refine F.smv ?_ (hw := (wantT F rfl rfl (by decide) rfl)); clear F fa; intro fa F
              obtain ⟨xb20, xo20, xa20, xr20⟩ := HG.out i (by omega)
              refine F.sv (R_ixSlice (sz := 2) rfl ((F.at rfl).trans (xa20 _ _)) (F.at rfl) Try.underlying24 (by kernel_rfl) (by omega) (by omega)) ?_ (hw := (wantT F rfl rfl (by decide) rfl)); clear F fa; intro fa F
              refine F.sv (R_field rfl (F.at rfl) Try.underlying23 rfl (n := xo20 + ((i : Nat) : Int).toNat * 2 + 1) (sz := 1) rfl (by kernel_rfl) (by decide)) ?_ (hw := (wantT F rfl rfl (by decide) rfl)); clear F fa; intro fa F
              refine F.sv (R_load rfl (F.at rfl) Try.underlying3 rfl (xr20 _ E 1 _ rfl)) ?_ (hw := (wantT F rfl rfl (by decide) rfl)); clear F fa; intro fa F
              refine F.sv (R_gtr rfl (F.at rfl) (F.at rfl)) ?_ (hw := (wantT F rfl rfl (by decide) rfl)); clear F fa; intro fa F
              refine F.sv (R_pickF rfl (F.at rfl) (F.at rfl)) ?_ (hw := (wantT F rfl rfl (by decide) rfl)); clear F fa; intro fa F
              refine F.sv (R_pickT rfl (F.at rfl) (F.at rfl)) ?_ (hw := (wantT F rfl rfl (by decide) rfl)); clear F fa; intro fa F
              refine wpStill_nil ?_
              refine F.vl (R_pickF rfl (F.at rfl) (F.at rfl)) ?_; clear F fa; intro fa F
              refine wpList_nil ?_
              refine hK13 _ _ ?_
              clear hK13
              refine cd_if F rfl (fun hc89 => ?_) (fun hc89 => ?_)
              · skip
                refine wp_seq_k fun K21 hK21 => ?_
                replace F := F.sub .n
                clear q2
                refine wp_region_lit ?_
                refine F.vl (R_assign rfl (ev_c fa _)) ?_; clear F fa; intro fa F
                refine wpList_nil ?_
                have hno : ¬ growP t m := fun h => by have q := h.1 i j (by omega) (by omega); unfold CellG at q; rw [Int.toNat_natCast] at q; omega
                refine hK21 _ _ ?_
                clear hK21
                refine wp_ret ?_
                (try simp only [Exit.inBlock, Exit.then])
                refine rt_v F (rs_1 F rfl rfl) ?_
                first | exact ⟨true, rfl, iff_of_true rfl hyes, E⟩ | exact ⟨false, rfl, iff_of_false (by decide) hno, E⟩
              · skip
                refine wp_skip ?_
                refine hK10 _ _ ?_
                clear hK10
                replace F := F.sub (.c 1 rfl (.c 2 rfl (.c 5 rfl (.c 6 rfl .n))))
                refine wp_region_lit ?_
                refine F.mv ?_; clear F fa; intro fa F
                refine F.vl (R_add rfl (F.at rfl) (ev_c fa _) (by omega) (by omega)) ?_; clear F fa; intro fa F
                refine F.as ?_; clear F fa; intro fa F
                refine wpList_nil ?_
                have hcell : CellG t m i j := ⟨by omega, by omega, fun h0 => ⟨by rw [Int.toNat_natCast]; omega, by rw [Int.toNat_natCast]; omega⟩⟩
                show _ ∧ _
                exact ⟨by omega, _, ⟨rfl, EL2, Lib.hid fun a h => if e : a = j then e ▸ hcell else hA.out a (by omega)⟩, F.sub (.c 6 rfl (.c 1 rfl (.c 2 rfl (.c 5 rfl .n))))⟩
          · skip
            replace F := F.re (k := 47) rfl (congrArg Value.bool (decide_eq_false hg3))
            refine st_no F rfl (by decide) (wantF F rfl rfl (by decide) rfl (by decide)) ?_; clear F fa; intro fa F
            refine st_no F rfl (by decide) (wantF F rfl rfl (by decide) rfl (by decide)) ?_; clear F fa; intro fa F
            refine st_no F rfl (by decide) (wantF F rfl rfl (by decide) rfl (by decide)) ?_; clear F fa; intro fa F
            refine st_no F rfl (by decide) (wantF F rfl rfl (by decide) rfl (by decide)) ?_; clear F fa; intro fa F
            refine st_no F rfl (by decide) (wantF F rfl rfl (by decide) rfl (by decide)) ?_; clear F fa; intro fa F
            refine st_no F rfl (by decide) (wantF F rfl rfl (by decide) rfl (by decide)) ?_; clear F fa; intro fa F
            refine st_no F rfl (by decide) (wantF F rfl rfl (by decide) rfl (by decide)) ?_; clear F fa; intro fa F
            refine st_no F rfl (by decide) (wantF F rfl rfl (by decide) rfl (by decide)) ?_; clear F fa; intro fa F
            refine st_no F rfl (by decide) (wantF F rfl rfl (by decide) rfl (by decide)) ?_; clear F fa; intro fa F
            refine st_no F rfl (by decide) (wantF F rfl rfl (by decide) rfl (by decide)) ?_; clear F fa; intro fa F
            refine st_no F rfl (by decide) (wantF F rfl rfl (by decide) rfl (by decide)) ?_; clear F fa; intro fa F
            refine st_no F rfl (by decide) (wantF F rfl rfl (by decide) rfl (by decide)) ?_; clear F fa; intro fa F
            refine st_no F rfl (by decide) (wantF F rfl rfl (by decide) rfl (by decide)) ?_; clear F fa; intro fa F
            refine st_no F rfl (by decide) (wantF F rfl rfl (by decide) rfl (by decide)) ?_; clear F fa; intro fa F
            refine st_no F rfl (by decide) (wantF F rfl rfl (by decide) rfl (by decide)) ?_; clear F fa; intro fa F
            refine st_no F rfl (by decide) (wantF F rfl rfl (by decide) rfl (by decide)) ?_; clear F fa; intro fa F
            refine st_no F rfl (by decide) (wantF F rfl rfl (by decide) rfl (by decide)) ?_; clear F fa; intro fa F
            refine st_no F rfl (by decide) (wantF F rfl rfl (by decide) rfl (by decide)) ?_; clear F fa; intro fa F
            refine st_no F rfl (by decide) (wantF F rfl rfl (by decide) rfl (by decide)) ?_; clear F fa; intro fa F
            refine st_no F rfl (by decide) (wantF F rfl rfl (by decide) rfl (by decide)) ?_; clear F fa; intro fa F
            refine st_no F rfl (by decide) (wantU F rfl rfl (by decide) rfl) ?_; clear F fa; intro fa F
            refine st_no F rfl (by decide) (wantU F rfl rfl (by decide) rfl) ?_; clear F fa; intro fa F
            refine st_no F rfl (by decide) (wantU F rfl rfl (by decide) rfl) ?_; clear F fa; intro fa F
            refine st_no F rfl (by decide) (wantU F rfl rfl (by decide) rfl) ?_; clear F fa; intro fa F
            refine st_no F rfl (by decide) (wantU F rfl rfl (by decide) rfl) ?_; clear F fa; intro fa F
            refine st_no F rfl (by decide) (wantU F rfl rfl (by decide) rfl) ?_; clear F fa; intro fa F
            refine st_no F rfl (by decide) (wantU F rfl rfl (by decide) rfl) ?_; clear F fa; intro fa F
            refine st_no F rfl (by decide) (wantU F rfl rfl (by decide) rfl) ?_; clear F fa; intro fa F
            refine st_no F rfl (by decide) (wantU F rfl rfl (by decide) rfl) ?_; clear F fa; intro fa F
            refine st_no F rfl (by decide) (wantU F rfl rfl (by decide) rfl) ?_; clear F fa; intro fa F
            refine st_no F rfl (by decide) (wantU F rfl rfl (by decide) rfl) ?_; clear F fa; intro fa F
            refine st_no F rfl (by decide) (wantU F rfl rfl (by decide) rfl) ?_; clear F fa; intro fa F
            refine st_no F rfl (by decide) (wantU F rfl rfl (by decide) rfl) ?_; clear F fa; intro fa F
            refine st_no F rfl (by decide) (wantU F rfl rfl (by decide) rfl) ?_; clear F fa; intro fa F
            refine st_no F rfl (by decide) (wantU F rfl rfl (by decide) rfl) ?_; clear F fa; intro fa F
            refine st_no F rfl (by decide) (wantU F rfl rfl (by decide) rfl) ?_; clear F fa; intro fa F
            refine st_no F rfl (by decide) (wantU F rfl rfl (by decide) rfl) ?_; clear F fa; intro fa F
            refine st_no F rfl (by decide) (wantU F rfl rfl (by decide) rfl) ?_; clear F fa; intro fa F
            refine st_no F rfl (by decide) (wantU F rfl rfl (by decide) rfl) ?_; clear F fa; intro fa F
            refine st_no F rfl (by decide) (wantF F rfl rfl (by decide) rfl (by decide)) ?_; clear F fa; intro fa F
            refine F.sv (R_pickF rfl (F.at rfl) (ev_c fa _)) ?_ (hw := (wantT F rfl rfl (by decide) rfl)); clear F fa; intro fa F
            refine wpStill_nil ?_
            refine F.vl (R_pickF rfl (F.at rfl) (F.at rfl)) ?_; clear F fa; intro fa F
            refine wpList_nil ?_
            refine hK13 _ _ ?_
            clear hK13
            refine cd_F F rfl ?_
            refine wp_skip ?_
            refine hK10 _ _ ?_
            clear hK10
            replace F := F.sub (.c 1 rfl (.c 2 rfl (.c 5 rfl (.c 6 rfl .n))))
            refine wp_region_lit ?_
            refine F.mv ?_; clear F fa; intro fa F
            refine F.vl (R_add rfl (F.at rfl) (ev_c fa _) (by omega) (by omega)) ?_; clear F fa; intro fa F
            refine F.as ?_; clear F fa; intro fa F
            refine wpList_nil ?_
            have hcell : CellG t m i j := ⟨by omega, by omega, fun h0 => ⟨by rw [Int.toNat_natCast]; omega, by rw [Int.toNat_natCast]; omega⟩⟩
            show _ ∧ _
            exact ⟨by omega, _, ⟨rfl, EL2, Lib.hid fun a h => if e : a = j then e ▸ hcell else hA.out a (by omega)⟩, F.sub (.c 6 rfl (.c 1 rfl (.c 2 rfl (.c 5 rfl .n))))⟩
    · skip
      refine wp_exit ?_
      refine hK6 _ _ ?_
      clear hK6
      refine wp_region_lit ?_
      refine F.mv ?_; clear F fa; intro fa F
      refine F.vl (R_add rfl (F.at rfl) (ev_c fa _) (by omega) (by omega)) ?_; clear F fa; intro fa F
      refine F.as ?_; clear F fa; intro fa F
      refine wpList_nil ?_
      show _ ∧ _
      exact ⟨by omega, _, ⟨rfl, EL1, Lib.hid fun s a h h2 => if e : s = i then e ▸ hA.out a (by omega) else hS.out s a (by omega) h2⟩, F.sub (.c 5 rfl (.c 1 rfl (.c 2 rfl .n)))⟩
  · skip
    refine wp_exit ?_
    refine hK2 _ _ ?_
    clear hK2
    refine wp_seq_k fun K22 hK22 => ?_
    refine wp_seq_k fun K23 hK23 => ?_
    refine wp_region_lit ?_
    refine F.vl (R_assign rfl (ev_c fa _)) ?_; clear F fa; intro fa F
    refine wpList_nil ?_
    refine hK23 _ _ ?_
    clear hK23
    refine wp_block ?_
    have F0 := F.sub (.c 1 rfl (.c 2 rfl .n))
    refine lp_for F0 (t.lk.length) (fun i Lv W => Lv = [(8, .int .i64 ((i : Nat) : Int))] ∧ Ext [] w2 W ∧ Hid (∀ j, j < i → LinkG t m (t.lk.getD j (0, 0, 0, 0, 0, 0)))) ⟨_, ⟨rfl, Ext.refl _ _, Lib.hid fun s h => absurd h (by omega)⟩, F.sub (.c 8 rfl (.c 1 rfl (.c 2 rfl .n)))⟩ ?_
    clear F F0
    rintro i _ fa w5 hi3 ⟨rfl, EL3, hK⟩ F
    have q2 := EL3.keep0 q2
    have E := E.nil EL3
    refine wp_seq_k fun K24 hK24 => ?_
    refine wp_seq_k fun K25 hK25 => ?_
    refine wp_region_lit ?_
    refine F.mv ?_; clear F fa; intro fa F
    refine F.vl (R_field rfl (F.at rfl) Try.underlying28 rfl (n := 10) (sz := 1) rfl (by kernel_rfl) (by decide)) ?_; clear F fa; intro fa F
    refine F.vl (R_load rfl (F.at rfl) Try.underlying26 rfl ((cells_of_block q2 10).trans (getS (getS (getS (getS (getS (getS (getS (getS (getS (getS (get0))))))))))))) ?_; clear F fa; intro fa F
    refine F.vl (R_len rfl rfl (F.at rfl) Try.underlying26) ?_; clear F fa; intro fa F
    refine F.vl (R_lss rfl (F.at rfl) (F.at rfl)) ?_; clear F fa; intro fa F
    refine wpList_nil ?_
    refine hK25 _ _ ?_
    clear hK25
    refine cd_if F rfl (fun hc94 => ?_) (fun hc94 => ?_)
    · skip
      refine wp_skip ?_
      refine hK24 _ _ ?_
      clear hK24
      refine wp_seq_k fun K26 hK26 => ?_
      refine wp_block ?_
      refine wp_seq_k fun K27 hK27 => ?_
      refine wp_region_lit ?_
      refine F.vl (R_field rfl (F.at rfl) Try.underlying28 rfl (n := 10) (sz := 1) rfl (by kernel_rfl) (by decide)) ?_; clear F fa; intro fa F
      refine F.vl (R_load rfl (F.at rfl) Try.underlying26 rfl ((cells_of_block q2 10).trans (getS (getS (getS (getS (getS (getS (getS (getS (getS (getS (get0))))))))))))) ?_; clear F fa; intro fa F
      refine F.mv ?_; clear F fa; intro fa F
      obtain ⟨xb28, xo28, xa28, xr28⟩ := HL.out i (by omega)
      refine F.vl (R_ixSlice (sz := 6) rfl ((F.at rfl).trans (xa28 _ _)) (F.at rfl) Try.underlying26 (by kernel_rfl) (by omega) (by omega)) ?_; clear F fa; intro fa F
      refine F.vl (R_loadRow rfl (F.at rfl) Try.underlying75 rfl (by kernel_rfl) (xr28 _ E)) ?_; clear F fa; intro fa F
      refine sq_new F rfl (by decide) rfl (R_alloc rfl Try.zeroValue75) ?_; clear F fa; intro fa w6 F hw
      obtain ⟨n9, hn⟩ : ∃ n, n = w5.heap.size := ⟨_, rfl⟩
      rw [← hn] at F
      have s9 : w5.heap.size ≤ n9 := Nat.le_of_eq hn.symm
      have l9_E : w.heap.size ≤ n9 := by rw [hn]; exact E.size
      have l9_EL3 : w2.heap.size ≤ n9 := by rw [hn]; exact EL3.size
      have m9_2 : n2 < n9 := by rw [hn]; exact blk_lt q2
      replace q2 := keep_alloc hw q2
      replace E := ext_alloc E hw
      replace EL3 := ext_alloc EL3 hw
      have q9 := new_row hw hn
      clear hw hn
      refine sq_to rfl rfl (R_storeRow rfl (F.at rfl) (F.at rfl) (by kernel_rfl) (by first | (simp [Value.oneCell']; done) | (simp [Value.oneCell', grRow, rdRow, lkRow]; done)) q9 rfl) ?_; intro w7 hw
      replace q2 := keep_cells hw q2 (by omega)
      replace q9 := put_row hw q9 rfl
      replace E := ext_cells E hw (fun h => by first | exact absurd h (by omega) | simp)
      replace EL3 := ext_cells EL3 hw (fun h => by first | exact absurd h (by omega) | simp)
      clear hw
      refine wpList_nil ?_
      have y3 := hlk.out _ (getD_mem (0, 0, 0, 0, 0, 0) (show i < t.lk.length by omega))
      obtain ⟨x1, x2, x3, x4⟩ := idx_in (S := t.S) (A := t.A) (s := (t.lk.getD i (0, 0, 0, 0, 0, 0)).1) (a := (t.lk.getD i (0, 0, 0, 0, 0, 0)).2.1) (by omega) (by omega) (by omega) (by omega) (by omega) (by omega)
      obtain ⟨x5, x6, x7, x8⟩ := idx_in (S := t.S) (A := t.A) (s := (t.lk.getD i (0, 0, 0, 0, 0, 0)).2.2.1) (a := (t.lk.getD i (0, 0, 0, 0, 0, 0)).2.2.2.1) (by omega) (by omega) (by omega) (by omega) (by omega) (by omega)
      have y1 := hsm.out ((t.lk.getD i (0, 0, 0, 0, 0, 0)).1 * t.A + (t.lk.getD i (0, 0, 0, 0, 0, 0)).2.1).toNat
      have y2 := hsm.out ((t.lk.getD i (0, 0, 0, 0, 0, 0)).2.2.1 * t.A + (t.lk.getD i (0, 0, 0, 0, 0, 0)).2.2.2.1).toNat
      refine hK27 _ _ ?_
      clear hK27
      refine wp_seq_k fun K29 hK29 => ?_
      refine wp_region_st 23 follows (by kernel_rfl) fun w8 hh eh => ?_
      replace q2 := keep_same hh q2
      replace q9 := keep_same hh q9
      replace E := ext_same E eh
      replace EL3 := ext_same EL3 eh
      clear hh eh
      refine F.smv ?_; clear F fa; intro fa F
      refine F.sv (R_field rfl (F.at rfl) Try.underlying75 rfl (n := 0) (sz := 1) rfl (by kernel_rfl) (by decide)) ?_; clear F fa; intro fa F
      refine F.sv (R_load rfl (F.at rfl) Try.underlying3 rfl ((cells_of_block q9 0).trans (get0))) ?_; clear F fa; intro fa F
      refine F.sv (R_field rfl (F.at rfl) Try.underlying28 rfl (n := 1) (sz := 1) rfl (by kernel_rfl) (by decide)) ?_; clear F fa; intro fa F
      refine F.sv (R_load rfl (F.at rfl) Try.underlying3 rfl ((cells_of_block q2 1).trans (getS (get0)))) ?_; clear F fa; intro fa F
      refine F.sv (R_mul rfl (F.at rfl) (F.at rfl) (by omega) (by omega)) ?_; clear F fa; intro fa F
      refine F.sv (R_field rfl (F.at rfl) Try.underlying75 rfl (n := 1) (sz := 1) rfl (by kernel_rfl) (by decide)) ?_; clear F fa; intro fa F
      refine F.sv (R_load rfl (F.at rfl) Try.underlying3 rfl ((cells_of_block q9 1).trans (getS (get0)))) ?_; clear F fa; intro fa F
      refine F.sv (R_add rfl (F.at rfl) (F.at rfl) (by omega) (by omega)) ?_; clear F fa; intro fa F
      obtain ⟨xb30, xo30, xa30, xr30⟩ := HM.out (((((t.lk.getD i (0, 0, 0, 0, 0, 0)).1) * t.A) + ((t.lk.getD i (0, 0, 0, 0, 0, 0)).2.1)).toNat) (by omega)
      refine F.sv (R_ixSlice (sz := 1) rfl ((F.at rfl).trans (xa30 _ _)) (F.at rfl) Try.underlying29 (by kernel_rfl) (by omega) (by omega)) ?_; clear F fa; intro fa F
      refine F.sv (R_load rfl (F.at rfl) Try.underlying3 rfl (xr30 _ E 0 _ rfl)) ?_; clear F fa; intro fa F
      refine F.smv ?_; clear F fa; intro fa F
      refine F.sv (R_field rfl (F.at rfl) Try.underlying75 rfl (n := 2) (sz := 1) rfl (by kernel_rfl) (by decide)) ?_; clear F fa; intro fa F
      refine F.sv (R_load rfl (F.at rfl) Try.underlying3 rfl ((cells_of_block q9 2).trans (getS (getS (get0))))) ?_; clear F fa; intro fa F
      refine F.sv (R_field rfl (F.at rfl) Try.underlying28 rfl (n := 1) (sz := 1) rfl (by kernel_rfl) (by decide)) ?_; clear F fa; intro fa F
      refine F.sv (R_load rfl (F.at rfl) Try.underlying3 rfl ((cells_of_block q2 1).trans (getS (get0)))) ?_; clear F fa; intro fa F
      refine F.sv (R_mul rfl (F.at rfl) (F.at rfl) (by omega) (by omega)) ?_; clear F fa; intro fa F
      refine F.sv (R_field rfl (F.at rfl) Try.underlying75 rfl (n := 3) (sz := 1) rfl (by kernel_rfl) (by decide)) ?_; clear F fa; intro fa F
      refine F.sv (R_load rfl (F.at rfl) Try.underlying3 rfl ((cells_of_block q9 3).trans (getS (getS (getS (get0)))))) ?_; clear F fa; intro fa F
      refine F.sv (R_add rfl (F.at rfl) (F.at rfl) (by omega) (by omega)) ?_; clear F fa; intro fa F
      obtain ⟨xb31, xo31, xa31, xr31⟩ := HM.out (((((t.lk.getD i (0, 0, 0, 0, 0, 0)).2.2.1) * t.A) + ((t.lk.getD i (0, 0, 0, 0, 0, 0)).2.2.2.1)).toNat) (by omega)
      refine F.sv (R_ixSlice (sz := 1) rfl ((F.at rfl).trans (xa31 _ _)) (F.at rfl) Try.underlying29 (by kernel_rfl) (by omega) (by omega)) ?_; clear F fa; intro fa F
      refine F.sv (R_load rfl (F.at rfl) Try.underlying3 rfl (xr31 _ E 0 _ rfl)) ?_; clear F fa; intro fa F
      refine F.sv (R_sub rfl (F.at rfl) (F.at rfl) (by omega) (by omega)) ?_; clear F fa; intro fa F
      refine wpStill_nil ?_
      refine F.as ?_; clear F fa; intro fa F
      refine wpList_nil ?_
      refine hK29 _ _ ?_
      clear hK29
      refine wp_seq_k fun K32 hK32 => ?_
      refine wp_region_lit ?_
      refine F.mv ?_; clear F fa; intro fa F
      refine F.vl (R_field rfl (F.at rfl) Try.underlying75 rfl (n := 4) (sz := 2) rfl (by kernel_rfl) (by decide)) ?_; clear F fa; intro fa F
      refine F.vl (R_field rfl (F.at rfl) Try.underlying23 rfl (n := 4) (sz := 1) rfl (by kernel_rfl) (by decide)) ?_; clear F fa; intro fa F
      refine F.vl (R_load rfl (F.at rfl) Try.underlying3 rfl ((cells_of_block q9 4).trans (getS (getS (getS (getS (get0))))))) ?_; clear F fa; intro fa F
      refine F.vl (R_lss rfl (F.at rfl) (F.at rfl)) ?_; clear F fa; intro fa F
      refine F.mv ?_; clear F fa; intro fa F
      by_cases hg5 : (((m.getD (((((t.lk.getD i (0, 0, 0, 0, 0, 0)).1) * t.A) + ((t.lk.getD i (0, 0, 0, 0, 0, 0)).2.1)).toNat) 0) - (m.getD (((((t.lk.getD i (0, 0, 0, 0, 0, 0)).2.2.1) * t.A) + ((t.lk.getD i (0, 0, 0, 0, 0, 0)).2.2.2.1)).toNat) 0)) < ((t.lk.getD i (0, 0, 0, 0, 0, 0)).2.2.2.2.1))
      · skip
        replace F := F.re (k := 130) rfl (congrArg Value.bool (decide_eq_true hg5))
        refine sq_no F rfl (by decide) (wantF F rfl rfl (by decide) rfl (by decide)) ?_; clear F fa; intro fa F
        refine sq_no F rfl (by decide) (wantF F rfl rfl (by decide) rfl (by decide)) ?_; clear F fa; intro fa F
        refine sq_no F rfl (by decide) (wantF F rfl rfl (by decide) rfl (by decide)) ?_; clear F fa; intro fa F
        refine sq_no F rfl (by decide) (wantF F rfl rfl (by decide) rfl (by decide)) ?_; clear F fa; intro fa F
        refine sq_no F rfl (by decide) (wantF F rfl rfl (by decide) rfl (by decide)) ?_; clear F fa; intro fa F
        refine F.vl (R_pickT rfl (F.at rfl) (ev_c fa _)) ?_; clear F fa; intro fa F
        refine wpList_nil ?_
        refine hK32 _ _ ?_
        clear hK32
        refine cd_T F rfl ?_
        refine wp_seq_k fun K33 hK33 => ?_
        refine wp_region_lit ?_
        refine F.vl (R_assign rfl (ev_c fa _)) ?_; clear F fa; intro fa F
        refine wpList_nil ?_
        have hno : ¬ growP t m := fun h => by have q := h.2 i (by omega); unfold LinkG at q; omega
        refine hK33 _ _ ?_
        clear hK33
        refine wp_ret ?_
        (try simp only [Exit.inBlock, Exit.then])
        refine rt_v F (rs_1 F rfl rfl) ?_
        first | exact ⟨true, rfl, iff_of_true rfl hyes, E⟩ | exact ⟨false, rfl, iff_of_false (by decide) hno, E⟩
      · skip
        replace F := F.re (k := 130) rfl (congrArg Value.bool (decide_eq_false hg5))
        refine F.mv ?_ (hw := (wantT F rfl rfl (by decide) rfl)); clear F fa; intro fa F
        refine F.vl (R_field rfl (F.at rfl) Try.underlying75 rfl (n := 4) (sz := 2) rfl (by kernel_rfl) (by decide)) ?_ (hw := (wantT F rfl rfl (by decide) rfl)); clear F fa; intro fa F
        refine F.vl (R_field rfl (F.at rfl) Try.underlying23 rfl (n := 5) (sz := 1) rfl (by kernel_rfl) (by decide)) ?_ (hw := (wantT F rfl rfl (by decide) rfl)); clear F fa; intro fa F
        refine F.vl (R_load rfl (F.at rfl) Try.underlying3 rfl ((cells_of_block q9 5).trans (getS (getS (getS (getS (getS (get0)))))))) ?_ (hw := (wantT F rfl rfl (by decide) rfl)); clear F fa; intro fa F
        refine F.vl (R_gtr rfl (F.at rfl) (F.at rfl)) ?_ (hw := (wantT F rfl rfl (by decide) rfl)); clear F fa; intro fa F
        refine F.vl (R_pickF rfl (F.at rfl) (F.at rfl)) ?_; clear F fa; intro fa F
        refine wpList_nil ?_
        refine hK32 _ _ ?_
        clear hK32
        refine cd_if F rfl (fun hc136 => ?_) (fun hc136 => ?_)
        · skip
          refine wp_seq_k fun K34 hK34 => ?_
          refine wp_region_lit ?_
          refine F.vl (R_assign rfl (ev_c fa _)) ?_; clear F fa; intro fa F
          refine wpList_nil ?_
          have hno : ¬ growP t m := fun h => by have q := h.2 i (by omega); unfold LinkG at q; omega
          refine hK34 _ _ ?_
          clear hK34
          refine wp_ret ?_
          (try simp only [Exit.inBlock, Exit.then])
          refine rt_v F (rs_1 F rfl rfl) ?_
          first | exact ⟨true, rfl, iff_of_true rfl hyes, E⟩ | exact ⟨false, rfl, iff_of_false (by decide) hno, E⟩
        · skip
          have hlink : LinkG t m (t.lk.getD i (0, 0, 0, 0, 0, 0)) := ⟨by omega, by omega⟩
          refine wp_skip ?_
          refine hK26 _ _ ?_
          clear hK26
          refine wp_region_lit ?_
          refine F.mv ?_; clear F fa; intro fa F
          refine F.vl (R_add rfl (F.at rfl) (ev_c fa _) (by omega) (by omega)) ?_; clear F fa; intro fa F
          refine F.as ?_; clear F fa; intro fa F
          refine wpList_nil ?_
          show _ ∧ _
          exact ⟨by omega, _, ⟨rfl, EL3, Lib.hid fun s h => if e : s = i then e ▸ hlink else hK.out s (by omega)⟩, F.sub (.c 8 rfl (.c 1 rfl (.c 2 rfl .n)))⟩
    · skip
      refine wp_exit ?_
      refine hK22 _ _ ?_
      clear hK22
      refine wp_seq_k fun K35 hK35 => ?_
      refine wp_region_lit ?_
      refine F.vl (R_assign rfl (ev_c fa _)) ?_; clear F fa; intro fa F
      refine wpList_nil ?_
      have hyes : growP t m := ⟨fun s a hs ha => hS.out s a (by omega) ha, fun i hi => hK.out i (by omega)⟩
      refine hK35 _ _ ?_
      clear hK35
      refine wp_ret ?_
      (try simp only [Exit.inBlock, Exit.then])
      refine rt_v F (rs_1 F rfl rfl) ?_
      first | exact ⟨true, rfl, iff_of_true rfl hyes, E⟩ | exact ⟨false, rfl, iff_of_false (by decide) hno, E⟩
def ReadP (t : Tp) (m : List Int) (k p : Int) (r : Int × Int × Int × Int) : Prop := r.2.2.1 = k → -t.sl ≤ r.2.2.2 - p - m.getD (r.1 * t.A + r.2.1).toNat 0 ∧ r.2.2.2 - p - m.getD (r.1 * t.A + r.2.1).toNat 0 ≤ t.sl
def pullP (t : Tp) (m : List Int) (k p : Int) : Prop := ∀ j, j < t.rd.length → ReadP t m k p (t.rd.getD j (0, 0, 0, 0))
theorem fine_step {t : Tp} {m : List Int} {k p : Int} {i : Nat} {b b' : Bool} (h : b = true ↔ ∀ j, j < i → ReadP t m k p (t.rd.getD j (0, 0, 0, 0))) (hv : b' = true ↔ (b = true ∧ ReadP t m k p (t.rd.getD i (0, 0, 0, 0)))) :
    b' = true ↔ ∀ j, j < i + 1 → ReadP t m k p (t.rd.getD j (0, 0, 0, 0)) := by
  rw [hv, h]
  constructor
  · rintro ⟨h1, h2⟩ j hj
    by_cases e : j = i
    · subst e; exact h2
    · exact h1 j (by omega)
  · intro h
    exact ⟨fun j hj => h j (by omega), h i (by omega)⟩
def PullsPost (t : Tp) (m : List Int) (k : Int) (w : World) (e : Ending) (w' : World) : Prop :=
  ∃ (R : List Int) (a : Option Addr) (c : Nat), e = .returned (.slice a R.length c) ∧ (∀ p, p ∈ R ↔ (t.pl ≤ p ∧ p ≤ t.pm ∧ pullP t m k p)) ∧ R.length ≤ 100 ∧ w'.ownsRow w.heap.size 3 1 (.slice a R.length c) R.length (ivs R) ∧ Ext [] w w'
set_option maxRecDepth 100000 in
set_option maxHeartbeats 1000000 in
theorem pulls_any {t : Tp} (ok : t.Ok) (m : List Int) (k : Int) (hm : (m.length : Int) = t.S * t.A) (hs : ∀ x ∈ m, -100000 ≤ x ∧ x ≤ 100000) (ga ra la ma : Option Addr) (gc rc lc mc : Nat) (w : World)
    (ht : IsTp w (.slice ga t.gr.length gc) (.slice ra t.rd.length rc) (.slice la t.lk.length lc) t) (hmr : IsRows w (.slice ma m.length mc) 1 (m.map intRow)) :
    Calls Try.prog 108 #[tpV t (.slice ga t.gr.length gc) (.slice ra t.rd.length rc) (.slice la t.lk.length lc), .slice ma m.length mc, .int .i64 k] w (PullsPost t m k w) := by
  have E : Ext [] w w := Ext.refl _ _
  have HR := Lib.hid (slAt_of_rows ht.rd (0, 0, 0, 0))
  have HM := Lib.hid (slAt_of_rows hmr 0)
  have hsm := Lib.hid (m_small hs)
  have o1 := ok.S1
  have o2 := ok.S3
  have o3 := ok.A1
  have o4 := ok.A3
  have o6 := ok.rdl
  have o7 := ok.pl1
  have o8 := ok.pm1
  have o9 := ok.p
  have p1 := ok.sl0
  have p2 := ok.sl5
  have hrd := Lib.hid ok.rd
  clear ht hmr hs ok
  have ho : w.ownsRow w.heap.size 3 1 (.slice none 0 0) 0 (ivs []) := World.ownsRow_nil _ _ _ _
  unfold tpV
  refine calls_has 77 Try.func108 rfl Try.ntmps108 (Nat.le_of_ble_eq_true rfl) ?_
  intro fa F
  refine wp_seq_k fun K1 hK1 => ?_
  refine wp_region_lit ?_
  refine sq_new F rfl (by decide) rfl (R_box rfl (F.at rfl)) ?_; clear F fa; intro fa w1 F hw
  obtain ⟨n3, hn⟩ : ∃ n, n = w.heap.size := ⟨_, rfl⟩
  rw [← hn] at F
  have s3 : w.heap.size ≤ n3 := Nat.le_of_eq hn.symm
  have l3_E : w.heap.size ≤ n3 := by rw [hn]; exact E.size
  have o3_ho := Lib.hid (own_ne_new ho hn)
  replace ho := owns_alloc hw ho
  replace E := ext_alloc E hw
  have q3 := new_row hw hn
  clear hw hn
  refine F.vl (R_assign rfl (ev_c fa _)) ?_; clear F fa; intro fa F
  refine wpList_nil ?_
  refine hK1 _ _ ?_
  clear hK1
  refine wp_seq_k fun K2 hK2 => ?_
  refine wp_region_lit ?_
  refine F.vl (R_assign rfl (ev_c fa _)) ?_; clear F fa; intro fa F
  refine wpList_nil ?_
  refine hK2 _ _ ?_
  clear hK2
  refine wp_seq_k fun K3 hK3 => ?_
  refine wp_seq_k fun K4 hK4 => ?_
  refine wp_region_lit ?_
  refine F.vl (R_field rfl (F.at rfl) Try.underlying28 rfl (n := 5) (sz := 2) rfl (by kernel_rfl) (by decide)) ?_; clear F fa; intro fa F
  refine F.vl (R_field rfl (F.at rfl) Try.underlying23 rfl (n := 5) (sz := 1) rfl (by kernel_rfl) (by decide)) ?_; clear F fa; intro fa F
  refine F.vl (R_load rfl (F.at rfl) Try.underlying3 rfl ((cells_of_block q3 5).trans (getS (getS (getS (getS (getS (get0)))))))) ?_; clear F fa; intro fa F
  rw [show t.pl = t.pl + ((0 : Nat) : Int) by omega] at F
  refine F.as ?_; clear F fa; intro fa F
  refine wpList_nil ?_
  refine hK4 _ _ ?_
  clear hK4
  refine wp_block ?_
  have F0 := F.sub (.c 1 rfl (.c 2 rfl (.c 3 rfl .n)))
  refine lp_for F0 ((t.pm - t.pl + 1).toNat) (fun i Lv W => ∃ va : Option Addr, ∃ vc : Nat, ∃ R : List Int, Lv = [(7, .slice va R.length vc), (8, .int .i64 (t.pl + ((i : Nat) : Int)))] ∧ Ext [] w W ∧ W.heap[n3]? = some (.cells #[.int .i64 t.S, .int .i64 t.A, .int .i64 t.T, .int .i64 t.bl, .int .i64 t.bm, .int .i64 t.pl, .int .i64 t.pm, .int .i64 t.sl, .slice ga t.gr.length gc, .slice ra t.rd.length rc, .slice la t.lk.length lc] 28 (0, 0)) ∧ W.ownsRow w.heap.size 3 1 (.slice va R.length vc) R.length (ivs R) ∧ Hid (∀ p, p ∈ R ↔ (t.pl ≤ p ∧ p < t.pl + (i : Int) ∧ pullP t m k p)) ∧ R.length ≤ i) ⟨_, ⟨none, 0, [], rfl, E, q3, ho, Lib.hid (fun p => ⟨fun h => (by simp at h), fun h => absurd h.2.1 (by omega)⟩), Nat.le_refl _⟩, F.sub (.c 7 rfl (.c 8 rfl (.c 1 rfl (.c 2 rfl (.c 3 rfl .n)))))⟩ ?_
  clear F F0
  clear E q3
  clear ho
  rintro i _ fa w2 hi1 ⟨va, vc, R, rfl, E, q3, ho, hR, hRl⟩ F
  refine wp_seq_k fun K5 hK5 => ?_
  refine wp_seq_k fun K6 hK6 => ?_
  refine wp_region_lit ?_
  refine F.mv ?_; clear F fa; intro fa F
  refine F.vl (R_field rfl (F.at rfl) Try.underlying28 rfl (n := 5) (sz := 2) rfl (by kernel_rfl) (by decide)) ?_; clear F fa; intro fa F
  refine F.vl (R_field rfl (F.at rfl) Try.underlying23 rfl (n := 6) (sz := 1) rfl (by kernel_rfl) (by decide)) ?_; clear F fa; intro fa F
  refine F.vl (R_load rfl (F.at rfl) Try.underlying3 rfl ((cells_of_block q3 6).trans (getS (getS (getS (getS (getS (getS (get0))))))))) ?_; clear F fa; intro fa F
  refine F.vl (R_leq rfl (F.at rfl) (F.at rfl)) ?_; clear F fa; intro fa F
  refine wpList_nil ?_
  refine hK6 _ _ ?_
  clear hK6
  refine cd_if F rfl (fun hc20 => ?_) (fun hc20 => ?_)
  · skip
    refine wp_skip ?_
    refine hK5 _ _ ?_
    clear hK5
    refine wp_seq_k fun K7 hK7 => ?_
    refine wp_block ?_
    refine wp_seq_k fun K8 hK8 => ?_
    refine wp_region_lit ?_
    refine F.vl (R_assign rfl (ev_c fa _)) ?_; clear F fa; intro fa F
    refine wpList_nil ?_
    refine hK8 _ _ ?_
    clear hK8
    refine wp_seq_k fun K9 hK9 => ?_
    refine wp_seq_k fun K10 hK10 => ?_
    refine wp_region_lit ?_
    refine F.vl (R_assign rfl (ev_c fa _)) ?_; clear F fa; intro fa F
    refine wpList_nil ?_
    refine hK10 _ _ ?_
    clear hK10
    refine wp_block ?_
    have F0 := F.sub (.c 1 rfl (.c 2 rfl (.c 3 rfl (.c 7 rfl (.c 8 rfl .n)))))
    refine lp_for F0 (t.rd.length) (fun j Lv W => ∃ bm : Bool, Lv = [(9, .bool bm), (10, .int .i64 ((j : Nat) : Int))] ∧ Ext [] w2 W ∧ Hid (bm = true ↔ ∀ j', j' < j → ReadP t m k (t.pl + (i : Int)) (t.rd.getD j' (0, 0, 0, 0)))) ⟨_, ⟨true, rfl, Ext.refl _ _, Lib.hid (iff_of_true rfl fun j' h => absurd h (by omega))⟩, F.sub (.c 9 rfl (.c 10 rfl (.c 1 rfl (.c 2 rfl (.c 3 rfl (.c 7 rfl (.c 8 rfl .n)))))))⟩ ?_
    clear F F0
    rintro j _ fa w3 hi2 ⟨bm, rfl, EL2, hb⟩ F
    have q3 := EL2.keep0 q3
    have E := E.nil EL2
    have ho := owns_ext ho EL2 (by simp)
    refine wp_seq_k fun K11 hK11 => ?_
    refine wp_seq_k fun K12 hK12 => ?_
    refine wp_region_lit ?_
    refine F.mv ?_; clear F fa; intro fa F
    refine F.vl (R_field rfl (F.at rfl) Try.underlying28 rfl (n := 9) (sz := 1) rfl (by kernel_rfl) (by decide)) ?_; clear F fa; intro fa F
    refine F.vl (R_load rfl (F.at rfl) Try.underlying25 rfl ((cells_of_block q3 9).trans (getS (getS (getS (getS (getS (getS (getS (getS (getS (get0)))))))))))) ?_; clear F fa; intro fa F
    refine F.vl (R_len rfl rfl (F.at rfl) Try.underlying25) ?_; clear F fa; intro fa F
    refine F.vl (R_lss rfl (F.at rfl) (F.at rfl)) ?_; clear F fa; intro fa F
    refine wpList_nil ?_
    refine hK12 _ _ ?_
    clear hK12
    refine cd_if F rfl (fun hc27 => ?_) (fun hc27 => ?_)
    · skip
      refine wp_skip ?_
      refine hK11 _ _ ?_
      clear hK11
      refine wp_seq_k fun K13 hK13 => ?_
      refine wp_block ?_
      refine wp_seq_k fun K14 hK14 => ?_
      refine wp_region_lit ?_
      refine F.vl (R_field rfl (F.at rfl) Try.underlying28 rfl (n := 9) (sz := 1) rfl (by kernel_rfl) (by decide)) ?_; clear F fa; intro fa F
      refine F.vl (R_load rfl (F.at rfl) Try.underlying25 rfl ((cells_of_block q3 9).trans (getS (getS (getS (getS (getS (getS (getS (getS (getS (get0)))))))))))) ?_; clear F fa; intro fa F
      refine F.mv ?_; clear F fa; intro fa F
      obtain ⟨xb15, xo15, xa15, xr15⟩ := HR.out j (by omega)
      refine F.vl (R_ixSlice (sz := 4) rfl ((F.at rfl).trans (xa15 _ _)) (F.at rfl) Try.underlying25 (by kernel_rfl) (by omega) (by omega)) ?_; clear F fa; intro fa F
      refine F.vl (R_loadRow rfl (F.at rfl) Try.underlying66 rfl (by kernel_rfl) (xr15 _ E)) ?_; clear F fa; intro fa F
      refine sq_new F rfl (by decide) rfl (R_alloc rfl Try.zeroValue66) ?_; clear F fa; intro fa w4 F hw
      obtain ⟨n11, hn⟩ : ∃ n, n = w3.heap.size := ⟨_, rfl⟩
      rw [← hn] at F
      have s11 : w3.heap.size ≤ n11 := Nat.le_of_eq hn.symm
      have l11_E : w.heap.size ≤ n11 := by rw [hn]; exact E.size
      have l11_EL2 : w2.heap.size ≤ n11 := by rw [hn]; exact EL2.size
      have m11_3 : n3 < n11 := by rw [hn]; exact blk_lt q3
      have o11_ho := Lib.hid (own_ne_new ho hn)
      replace ho := owns_alloc hw ho
      replace q3 := keep_alloc hw q3
      replace E := ext_alloc E hw
      replace EL2 := ext_alloc EL2 hw
      have q11 := new_row hw hn
      clear hw hn
      refine sq_to rfl rfl (R_storeRow rfl (F.at rfl) (F.at rfl) (by kernel_rfl) (by first | (simp [Value.oneCell']; done) | (simp [Value.oneCell', grRow, rdRow, lkRow]; done)) q11 rfl) ?_; intro w5 hw
      replace ho := owns_cellsX hw ho (own_ne_type ho q11 (by decide))
      replace q3 := keep_cells hw q3 (by omega)
      replace q11 := put_row hw q11 rfl
      replace E := ext_cells E hw (fun h => by first | exact absurd h (by omega) | simp)
      replace EL2 := ext_cells EL2 hw (fun h => by first | exact absurd h (by omega) | simp)
      clear hw
      refine wpList_nil ?_
      refine hK14 _ _ ?_
      clear hK14
      refine wp_seq_k fun K16 hK16 => ?_
      have y3 := hrd.out _ (getD_mem (0, 0, 0, 0) (show j < t.rd.length by omega))
      obtain ⟨x1, x2, x3, x4⟩ := idx_in (S := t.S) (A := t.A) (s := (t.rd.getD j (0, 0, 0, 0)).1) (a := (t.rd.getD j (0, 0, 0, 0)).2.1) (by omega) (by omega) (by omega) (by omega) (by omega) (by omega)
      have y1 := hsm.out ((t.rd.getD j (0, 0, 0, 0)).1 * t.A + (t.rd.getD j (0, 0, 0, 0)).2.1).toNat
      refine wp_region_st 16 follows (by kernel_rfl) fun w6 hh eh => ?_
      replace q3 := keep_same hh q3
      replace q11 := keep_same hh q11
      replace E := ext_same E eh
      replace EL2 := ext_same EL2 eh
      replace ho := owns_same hh ho
      clear hh eh
      refine F.sv (R_field rfl (F.at rfl) Try.underlying66 rfl (n := 3) (sz := 1) rfl (by kernel_rfl) (by decide)) ?_; clear F fa; intro fa F
      refine F.sv (R_load rfl (F.at rfl) Try.underlying3 rfl ((cells_of_block q11 3).trans (getS (getS (getS (get0)))))) ?_; clear F fa; intro fa F
      refine F.smv ?_; clear F fa; intro fa F
      refine F.sv (R_sub rfl (F.at rfl) (F.at rfl) (by omega) (by omega)) ?_; clear F fa; intro fa F
      refine F.smv ?_; clear F fa; intro fa F
      refine F.sv (R_field rfl (F.at rfl) Try.underlying66 rfl (n := 0) (sz := 1) rfl (by kernel_rfl) (by decide)) ?_; clear F fa; intro fa F
      refine F.sv (R_load rfl (F.at rfl) Try.underlying3 rfl ((cells_of_block q11 0).trans (get0))) ?_; clear F fa; intro fa F
      refine F.sv (R_field rfl (F.at rfl) Try.underlying28 rfl (n := 1) (sz := 1) rfl (by kernel_rfl) (by decide)) ?_; clear F fa; intro fa F
      refine F.sv (R_load rfl (F.at rfl) Try.underlying3 rfl ((cells_of_block q3 1).trans (getS (get0)))) ?_; clear F fa; intro fa F
      refine F.sv (R_mul rfl (F.at rfl) (F.at rfl) (by omega) (by omega)) ?_; clear F fa; intro fa F
      refine F.sv (R_field rfl (F.at rfl) Try.underlying66 rfl (n := 1) (sz := 1) rfl (by kernel_rfl) (by decide)) ?_; clear F fa; intro fa F
      refine F.sv (R_load rfl (F.at rfl) Try.underlying3 rfl ((cells_of_block q11 1).trans (getS (get0)))) ?_; clear F fa; intro fa F
      refine F.sv (R_add rfl (F.at rfl) (F.at rfl) (by omega) (by omega)) ?_; clear F fa; intro fa F
      obtain ⟨xb17, xo17, xa17, xr17⟩ := HM.out (((((t.rd.getD j (0, 0, 0, 0)).1) * t.A) + ((t.rd.getD j (0, 0, 0, 0)).2.1)).toNat) (by omega)
      refine F.sv (R_ixSlice (sz := 1) rfl ((F.at rfl).trans (xa17 _ _)) (F.at rfl) Try.underlying29 (by kernel_rfl) (by omega) (by omega)) ?_; clear F fa; intro fa F
      refine F.sv (R_load rfl (F.at rfl) Try.underlying3 rfl (xr17 _ E 0 _ rfl)) ?_; clear F fa; intro fa F
      refine F.sv (R_sub rfl (F.at rfl) (F.at rfl) (by omega) (by omega)) ?_; clear F fa; intro fa F
      refine wpStill_nil ?_
      refine F.as ?_; clear F fa; intro fa F
      refine wpList_nil ?_
      refine hK16 _ _ ?_
      clear hK16
      refine wp_region_lit ?_
      refine F.mv ?_; clear F fa; intro fa F
      refine F.mv ?_; clear F fa; intro fa F
      cases hg1 : bm
      · skip
        replace F := F.re (k := 52) rfl (congrArg Value.bool hg1)
        refine sq_no F rfl (by decide) (wantF F rfl rfl (by decide) rfl (by decide)) ?_; clear F fa; intro fa F
        refine sq_no F rfl (by decide) (wantF F rfl rfl (by decide) rfl (by decide)) ?_; clear F fa; intro fa F
        refine sq_no F rfl (by decide) (wantF F rfl rfl (by decide) rfl (by decide)) ?_; clear F fa; intro fa F
        refine sq_no F rfl (by decide) (wantF F rfl rfl (by decide) rfl (by decide)) ?_; clear F fa; intro fa F
        refine sq_no F rfl (by decide) (wantF F rfl rfl (by decide) rfl (by decide)) ?_; clear F fa; intro fa F
        refine sq_no F rfl (by decide) (wantU F rfl rfl (by decide) rfl) ?_; clear F fa; intro fa F
        refine sq_no F rfl (by decide) (wantU F rfl rfl (by decide) rfl) ?_; clear F fa; intro fa F
        refine sq_no F rfl (by decide) (wantU F rfl rfl (by decide) rfl) ?_; clear F fa; intro fa F
        refine sq_no F rfl (by decide) (wantU F rfl rfl (by decide) rfl) ?_; clear F fa; intro fa F
        refine sq_no F rfl (by decide) (wantU F rfl rfl (by decide) rfl) ?_; clear F fa; intro fa F
        refine sq_no F rfl (by decide) (wantU F rfl rfl (by decide) rfl) ?_; clear F fa; intro fa F
        refine sq_no F rfl (by decide) (wantU F rfl rfl (by decide) rfl) ?_; clear F fa; intro fa F
        refine sq_no F rfl (by decide) (wantU F rfl rfl (by decide) rfl) ?_; clear F fa; intro fa F
        refine sq_no F rfl (by decide) (wantU F rfl rfl (by decide) rfl) ?_; clear F fa; intro fa F
        refine sq_no F rfl (by decide) (wantU F rfl rfl (by decide) rfl) ?_; clear F fa; intro fa F
        refine sq_no F rfl (by decide) (wantU F rfl rfl (by decide) rfl) ?_; clear F fa; intro fa F
        refine sq_no F rfl (by decide) (wantF F rfl rfl (by decide) rfl (by decide)) ?_; clear F fa; intro fa F
        refine F.vl (R_pickF rfl (F.at rfl) (ev_c fa _)) ?_; clear F fa; intro fa F
        refine F.as ?_; clear F fa; intro fa F
        refine wpList_nil ?_
        first | have hb2 := Lib.hid (fine_step (b' := false) hb.out (iff_of_false (by decide) (fun h => by first | (have := h.1; simp_all; done) | (have q := h.2; unfold ReadP at q; omega)))) | have hb2 := Lib.hid (fine_step (b' := true) hb.out (iff_of_true rfl ⟨by assumption, fun he => by omega⟩)) | have hb2 := Lib.hid (fine_step (b' := decide ((t.rd.getD j (0, 0, 0, 0)).2.2.2 - (t.pl + ((i : Nat) : Int)) - m.getD ((t.rd.getD j (0, 0, 0, 0)).1 * t.A + (t.rd.getD j (0, 0, 0, 0)).2.1).toNat 0 ≤ t.sl)) hb.out (decide_eq_true_iff.trans ⟨fun h => ⟨by assumption, fun _ => ⟨by omega, by omega⟩⟩, fun h => (h.2 (by omega)).2⟩))
        refine hK13 _ _ ?_
        clear hK13
        refine wp_region_lit ?_
        refine F.mv ?_; clear F fa; intro fa F
        refine F.vl (R_add rfl (F.at rfl) (ev_c fa _) (by omega) (by omega)) ?_; clear F fa; intro fa F
        refine F.as ?_; clear F fa; intro fa F
        refine wpList_nil ?_
        show _ ∧ _
        exact ⟨by omega, _, ⟨_, rfl, EL2, hb2⟩, F.sub (.c 9 rfl (.c 10 rfl (.c 1 rfl (.c 2 rfl (.c 3 rfl (.c 7 rfl (.c 8 rfl .n)))))))⟩
      · skip
        replace F := F.re (k := 52) rfl (congrArg Value.bool hg1)
        refine F.vl (R_field rfl (F.at rfl) Try.underlying66 rfl (n := 2) (sz := 1) rfl (by kernel_rfl) (by decide)) ?_ (hw := (wantT F rfl rfl (by decide) rfl)); clear F fa; intro fa F
        refine F.vl (R_load rfl (F.at rfl) Try.underlying3 rfl ((cells_of_block q11 2).trans (getS (getS (get0))))) ?_ (hw := (wantT F rfl rfl (by decide) rfl)); clear F fa; intro fa F
        refine F.mv ?_ (hw := (wantT F rfl rfl (by decide) rfl)); clear F fa; intro fa F
        refine F.vl (R_neqD rfl (F.at rfl) (F.at rfl)) ?_ (hw := (wantT F rfl rfl (by decide) rfl)); clear F fa; intro fa F
        refine F.mv ?_ (hw := (wantT F rfl rfl (by decide) rfl)); clear F fa; intro fa F
        by_cases hg2 : (¬ (((t.rd.getD j (0, 0, 0, 0)).2.2.1) = k))
        · skip
          replace F := F.re (k := 57) rfl (congrArg Value.bool (decide_eq_true hg2))
          refine sq_no F rfl (by decide) (wantF F rfl rfl (by decide) rfl (by decide)) ?_; clear F fa; intro fa F
          refine sq_no F rfl (by decide) (wantF F rfl rfl (by decide) rfl (by decide)) ?_; clear F fa; intro fa F
          refine sq_no F rfl (by decide) (wantF F rfl rfl (by decide) rfl (by decide)) ?_; clear F fa; intro fa F
          refine sq_no F rfl (by decide) (wantF F rfl rfl (by decide) rfl (by decide)) ?_; clear F fa; intro fa F
          refine sq_no F rfl (by decide) (wantF F rfl rfl (by decide) rfl (by decide)) ?_; clear F fa; intro fa F
          refine sq_no F rfl (by decide) (wantF F rfl rfl (by decide) rfl (by decide)) ?_; clear F fa; intro fa F
          refine sq_no F rfl (by decide) (wantU F rfl rfl (by decide) rfl) ?_; clear F fa; intro fa F
          refine sq_no F rfl (by decide) (wantU F rfl rfl (by decide) rfl) ?_; clear F fa; intro fa F
          refine sq_no F rfl (by decide) (wantU F rfl rfl (by decide) rfl) ?_; clear F fa; intro fa F
          refine sq_no F rfl (by decide) (wantU F rfl rfl (by decide) rfl) ?_; clear F fa; intro fa F
          refine sq_no F rfl (by decide) (wantF F rfl rfl (by decide) rfl (by decide)) ?_; clear F fa; intro fa F
          refine F.vl (R_pickT rfl (F.at rfl) (ev_c fa _)) ?_ (hw := (wantT F rfl rfl (by decide) rfl)); clear F fa; intro fa F
          refine F.vl (R_pickT rfl (F.at rfl) (F.at rfl)) ?_; clear F fa; intro fa F
          refine F.as ?_; clear F fa; intro fa F
          refine wpList_nil ?_
          first | have hb2 := Lib.hid (fine_step (b' := false) hb.out (iff_of_false (by decide) (fun h => by first | (have := h.1; simp_all; done) | (have q := h.2; unfold ReadP at q; omega)))) | have hb2 := Lib.hid (fine_step (b' := true) hb.out (iff_of_true rfl ⟨by assumption, fun he => by omega⟩)) | have hb2 := Lib.hid (fine_step (b' := decide ((t.rd.getD j (0, 0, 0, 0)).2.2.2 - (t.pl + ((i : Nat) : Int)) - m.getD ((t.rd.getD j (0, 0, 0, 0)).1 * t.A + (t.rd.getD j (0, 0, 0, 0)).2.1).toNat 0 ≤ t.sl)) hb.out (decide_eq_true_iff.trans ⟨fun h => ⟨by assumption, fun _ => ⟨by omega, by omega⟩⟩, fun h => (h.2 (by omega)).2⟩))
          refine hK13 _ _ ?_
          clear hK13
          refine wp_region_lit ?_
          refine F.mv ?_; clear F fa; intro fa F
          refine F.vl (R_add rfl (F.at rfl) (ev_c fa _) (by omega) (by omega)) ?_; clear F fa; intro fa F
          refine F.as ?_; clear F fa; intro fa F
          refine wpList_nil ?_
          show _ ∧ _
          exact ⟨by omega, _, ⟨_, rfl, EL2, hb2⟩, F.sub (.c 9 rfl (.c 10 rfl (.c 1 rfl (.c 2 rfl (.c 3 rfl (.c 7 rfl (.c 8 rfl .n)))))))⟩
        · skip
          replace F := F.re (k := 57) rfl (congrArg Value.bool (decide_eq_false hg2))
          refine F.mv ?_ (hw := (wantT F rfl rfl (by decide) rfl)); clear F fa; intro fa F
          refine F.vl (R_field rfl (F.at rfl) Try.underlying28 rfl (n := 7) (sz := 1) rfl (by kernel_rfl) (by decide)) ?_ (hw := (wantT F rfl rfl (by decide) rfl)); clear F fa; intro fa F
          refine F.vl (R_load rfl (F.at rfl) Try.underlying3 rfl ((cells_of_block q3 7).trans (getS (getS (getS (getS (getS (getS (getS (get0)))))))))) ?_ (hw := (wantT F rfl rfl (by decide) rfl)); clear F fa; intro fa F
          refine F.vl (R_neg rfl (F.at rfl) (by omega) (by omega)) ?_ (hw := (wantT F rfl rfl (by decide) rfl)); clear F fa; intro fa F
          refine F.vl (R_geq rfl (F.at rfl) (F.at rfl)) ?_ (hw := (wantT F rfl rfl (by decide) rfl)); clear F fa; intro fa F
          refine F.mv ?_ (hw := (wantT F rfl rfl (by decide) rfl)); clear F fa; intro fa F
          by_cases hg3 : ((-t.sl) ≤ ((((t.rd.getD j (0, 0, 0, 0)).2.2.2) - (t.pl + ((i : Nat) : Int))) - (m.getD (((((t.rd.getD j (0, 0, 0, 0)).1) * t.A) + ((t.rd.getD j (0, 0, 0, 0)).2.1)).toNat) 0)))
          · skip
            replace F := F.re (k := 63) rfl (congrArg Value.bool (decide_eq_true hg3))
            refine F.mv ?_ (hw := (wantT F rfl rfl (by decide) rfl)); clear F fa; intro fa F
            refine F.vl (R_field rfl (F.at rfl) Try.underlying28 rfl (n := 7) (sz := 1) rfl (by kernel_rfl) (by decide)) ?_ (hw := (wantT F rfl rfl (by decide) rfl)); clear F fa; intro fa F
            refine F.vl (R_load rfl (F.at rfl) Try.underlying3 rfl ((cells_of_block q3 7).trans (getS (getS (getS (getS (getS (getS (getS (get0)))))))))) ?_ (hw := (wantT F rfl rfl (by decide) rfl)); clear F fa; intro fa F
            refine F.vl (R_leq rfl (F.at rfl) (F.at rfl)) ?_ (hw := (wantT F rfl rfl (by decide) rfl)); clear F fa; intro fa F
            refine F.vl (R_pickT rfl (F.at rfl) (F.at rfl)) ?_ (hw := (wantT F rfl rfl (by decide) rfl)); clear F fa; intro fa F
            refine F.vl (R_pickF rfl (F.at rfl) (F.at rfl)) ?_ (hw := (wantT F rfl rfl (by decide) rfl)); clear F fa; intro fa F
            refine F.vl (R_pickT rfl (F.at rfl) (F.at rfl)) ?_; clear F fa; intro fa F
            refine F.as ?_; clear F fa; intro fa F
            refine wpList_nil ?_
            first | have hb2 := Lib.hid (fine_step (b' := false) hb.out (iff_of_false (by decide) (fun h => by first | (have := h.1; simp_all; done) | (have q := h.2; unfold ReadP at q; omega)))) | have hb2 := Lib.hid (fine_step (b' := true) hb.out (iff_of_true rfl ⟨by assumption, fun he => by omega⟩)) | have hb2 := Lib.hid (fine_step (b' := decide ((t.rd.getD j (0, 0, 0, 0)).2.2.2 - (t.pl + ((i : Nat) : Int)) - m.getD ((t.rd.getD j (0, 0, 0, 0)).1 * t.A + (t.rd.getD j (0, 0, 0, 0)).2.1).toNat 0 ≤ t.sl)) hb.out (decide_eq_true_iff.trans ⟨fun h => ⟨by assumption, fun _ => ⟨by omega, by omega⟩⟩, fun h => (h.2 (by omega)).2⟩))
            refine hK13 _ _ ?_
            clear hK13
            refine wp_region_lit ?_
            refine F.mv ?_; clear F fa; intro fa F
            refine F.vl (R_add rfl (F.at rfl) (ev_c fa _) (by omega) (by omega)) ?_; clear F fa; intro fa F
            refine F.as ?_; clear F fa; intro fa F
            refine wpList_nil ?_
            show _ ∧ _
            exact ⟨by omega, _, ⟨_, rfl, EL2, hb2⟩, F.sub (.c 9 rfl (.c 10 rfl (.c 1 rfl (.c 2 rfl (.c 3 rfl (.c 7 rfl (.c 8 rfl .n)))))))⟩
          · skip
            replace F := F.re (k := 63) rfl (congrArg Value.bool (decide_eq_false hg3))
            refine sq_no F rfl (by decide) (wantF F rfl rfl (by decide) rfl (by decide)) ?_; clear F fa; intro fa F
            refine sq_no F rfl (by decide) (wantF F rfl rfl (by decide) rfl (by decide)) ?_; clear F fa; intro fa F
            refine sq_no F rfl (by decide) (wantF F rfl rfl (by decide) rfl (by decide)) ?_; clear F fa; intro fa F
            refine sq_no F rfl (by decide) (wantF F rfl rfl (by decide) rfl (by decide)) ?_; clear F fa; intro fa F
            refine F.vl (R_pickF rfl (F.at rfl) (ev_c fa _)) ?_ (hw := (wantT F rfl rfl (by decide) rfl)); clear F fa; intro fa F
            refine F.vl (R_pickF rfl (F.at rfl) (F.at rfl)) ?_ (hw := (wantT F rfl rfl (by decide) rfl)); clear F fa; intro fa F
            refine F.vl (R_pickT rfl (F.at rfl) (F.at rfl)) ?_; clear F fa; intro fa F
            refine F.as ?_; clear F fa; intro fa F
            refine wpList_nil ?_
            first | have hb2 := Lib.hid (fine_step (b' := false) hb.out (iff_of_false (by decide) (fun h => by first | (have := h.1; simp_all; done) | (have q := h.2; unfold ReadP at q; omega)))) | have hb2 := Lib.hid (fine_step (b' := true) hb.out (iff_of_true rfl ⟨by assumption, fun he => by omega⟩)) | have hb2 := Lib.hid (fine_step (b' := decide ((t.rd.getD j (0, 0, 0, 0)).2.2.2 - (t.pl + ((i : Nat) : Int)) - m.getD ((t.rd.getD j (0, 0, 0, 0)).1 * t.A + (t.rd.getD j (0, 0, 0, 0)).2.1).toNat 0 ≤ t.sl)) hb.out (decide_eq_true_iff.trans ⟨fun h => ⟨by assumption, fun _ => ⟨by omega, by omega⟩⟩, fun h => (h.2 (by omega)).2⟩))
            refine hK13 _ _ ?_
            clear hK13
            refine wp_region_lit ?_
            refine F.mv ?_; clear F fa; intro fa F
            refine F.vl (R_add rfl (F.at rfl) (ev_c fa _) (by omega) (by omega)) ?_; clear F fa; intro fa F
            refine F.as ?_; clear F fa; intro fa F
            refine wpList_nil ?_
            show _ ∧ _
            exact ⟨by omega, _, ⟨_, rfl, EL2, hb2⟩, F.sub (.c 9 rfl (.c 10 rfl (.c 1 rfl (.c 2 rfl (.c 3 rfl (.c 7 rfl (.c 8 rfl .n)))))))⟩
    · skip
      refine wp_exit ?_
      obtain rfl : j = t.rd.length := by omega
      refine hK9 _ _ ?_
      clear hK9
      refine wp_seq_k fun K18 hK18 => ?_
      refine wp_region_lit ?_
      refine F.mv ?_; clear F fa; intro fa F
      refine wpList_nil ?_
      refine hK18 _ _ ?_
      clear hK18
      refine cd_b F rfl (fun hc71 => ?_) (fun hc71 => ?_)
      · skip
        have hyes : pullP t m k (t.pl + (i : Int)) := hb.out.1 hc71
        refine wp_region_lit ?_
        refine F.mv ?_; clear F fa; intro fa F
        refine F.mv ?_; clear F fa; intro fa F
        refine sq_new F rfl (by decide) rfl (R_buildSliceV rfl (prS (F.at rfl) pr0) Try.underlying29 (size := 1) (by kernel_rfl) (by decide) (by decide) Try.zeroValue3 (cells := #[.int .i64 (t.pl + ((i : Nat) : Int))]) (by kernel_rfl)) ?_; clear F fa; intro fa w7 F hw
        obtain ⟨n74, hn⟩ : ∃ n, n = w3.heap.size := ⟨_, rfl⟩
        rw [← hn] at F
        have s74 : w3.heap.size ≤ n74 := Nat.le_of_eq hn.symm
        have l74_E : w.heap.size ≤ n74 := by rw [hn]; exact E.size
        have m74_3 : n3 < n74 := by rw [hn]; exact blk_lt q3
        have o74_ho := Lib.hid (own_ne_new ho hn)
        replace ho := owns_alloc hw ho
        replace q3 := keep_alloc hw q3
        replace E := ext_alloc E hw
        have q74 := new_block hw hn
        clear hw hn
        have hEs := E.size
        refine sq_some F rfl (by decide) rfl (append_run rfl (w.heap.size) (e := 3) (size := 1) (bytes := 8) Try.underlying29 (by kernel_rfl) (by decide) (F.at rfl) ho (F.at rfl) q74 rfl (by simp [Value.oneCell']) (by omega) (by omega) (by omega)) ?_; clear F fa; rintro fa v' w8 F ⟨hown', hg⟩
        obtain ⟨va75, vc75, rfl⟩ := owns_slice hown'
        replace q3 := keep_type ho hg q3 (by decide)
        replace E := ext_appendX E ho hg (by omega)
        replace ho := hown'
        clear hg
        obtain ⟨P2, hP2e⟩ : ∃ P2, P2 = R ++ [t.pl + ((i : Nat) : Int)] := ⟨_, rfl⟩
        have hPl3 : R.length + 1 = P2.length := by rw [hP2e, List.length_append]; rfl
        have hRl2 : P2.length ≤ i + 1 := by omega
        have hR2 : Hid (∀ p, p ∈ P2 ↔ (t.pl ≤ p ∧ p < t.pl + ((i + 1 : Nat) : Int) ∧ pullP t m k p)) := Lib.hid fun p => by rw [hP2e, List.mem_append, List.mem_singleton, hR.out p]; exact ⟨fun h => h.elim (fun h => ⟨h.1, by omega, h.2.2⟩) (fun e => by subst e; exact ⟨by omega, by omega, hyes⟩), fun h => if e : p = t.pl + (i : Int) then .inr e else .inl ⟨h.1, by omega, h.2.2⟩⟩
        rw [ivs_snoc1, ← hP2e, hPl3] at ho
        rw [hPl3] at F
        refine F.as ?_; clear F fa; intro fa F
        refine wpList_nil ?_
        refine hK7 _ _ ?_
        clear hK7
        refine wp_region_lit ?_
        refine F.mv ?_; clear F fa; intro fa F
        refine F.vl (R_add rfl (F.at rfl) (ev_c fa _) (by omega) (by omega)) ?_; clear F fa; intro fa F
        rw [show t.pl + ((i : Nat) : Int) + 1 = t.pl + ((i + 1 : Nat) : Int) by omega] at F
        refine F.as ?_; clear F fa; intro fa F
        refine wpList_nil ?_
        show _ ∧ _
        exact ⟨by omega, _, ⟨_, _, _, rfl, E, q3, ho, hR2, hRl2⟩, F.sub (.c 7 rfl (.c 8 rfl (.c 1 rfl (.c 2 rfl (.c 3 rfl .n)))))⟩
      · skip
        have hno : ¬ pullP t m k (t.pl + (i : Int)) := fun h => by have := hb.out.2 h; rw [hc71] at this; cases this
        have hRl2 : R.length ≤ i + 1 := by omega
        have hR2 : Hid (∀ p, p ∈ R ↔ (t.pl ≤ p ∧ p < t.pl + ((i + 1 : Nat) : Int) ∧ pullP t m k p)) := Lib.hid fun p => (hR.out p).trans ⟨fun h => ⟨h.1, by omega, h.2.2⟩, fun h => ⟨h.1, (if e : p = t.pl + (i : Int) then absurd (e ▸ h.2.2) hno else by omega), h.2.2⟩⟩
        refine wp_skip ?_
        refine hK7 _ _ ?_
        clear hK7
        refine wp_region_lit ?_
        refine F.mv ?_; clear F fa; intro fa F
        refine F.vl (R_add rfl (F.at rfl) (ev_c fa _) (by omega) (by omega)) ?_; clear F fa; intro fa F
        rw [show t.pl + ((i : Nat) : Int) + 1 = t.pl + ((i + 1 : Nat) : Int) by omega] at F
        refine F.as ?_; clear F fa; intro fa F
        refine wpList_nil ?_
        show _ ∧ _
        exact ⟨by omega, _, ⟨_, _, _, rfl, E, q3, ho, hR2, hRl2⟩, F.sub (.c 7 rfl (.c 8 rfl (.c 1 rfl (.c 2 rfl (.c 3 rfl .n)))))⟩
  · skip
    refine wp_exit ?_
    refine hK3 _ _ ?_
    clear hK3
    refine wp_seq_k fun K19 hK19 => ?_
    refine wp_region_lit ?_
    refine F.mv ?_; clear F fa; intro fa F
    refine F.as ?_; clear F fa; intro fa F
    refine wpList_nil ?_
    refine hK19 _ _ ?_
    clear hK19
    refine wp_ret ?_
    (try simp only [Exit.inBlock, Exit.then])
    refine rt_v F (rs_1 F rfl rfl) ?_
    exact ⟨R, va, vc, rfl, fun p => (hR.out p).trans ⟨fun h => ⟨h.1, by omega, h.2.2⟩, fun h => ⟨h.1, by omega, h.2.2⟩⟩, by omega, ho, E⟩
theorem fam_below {w w' : World} {base B1 n : Nat} {v : Value} {xs : List Value} {L : List (Value × List Int)} (fam : FamT w base L) (hlt : ∀ q ∈ L, ∀ b, q.1.ownBlock = some b → b < B1) (ro : w.ownsRow B1 3 1 v n xs) (hg : w.grownBy w' v.ownBlock) : FamT w' base L :=
  ⟨fun p hp => (fam.1 p hp).kept hg (by
    cases hq : p.1.ownBlock with
    | none => exact .inl rfl
    | some b =>
      refine .inr fun e => ?_
      have := hlt p hp b hq
      have := (ro.lt b e.symm).1
      omega), fam.2⟩
end Go.Proofs.Ytholfdgebdlgjaa
