/- The law MeasureWider: of two singers at most one is always wider, and Wider is what Apart says. No conditions. -/
import Derived.Test.YtholfdgebdlgjaaNLo
namespace Go.Proofs.Ytholfdgebdlgjaa
open Go.RowKit
set_option linter.unusedVariables false
set_option linter.unusedSimpArgs false
theorem wid_cases {t : Tp} (h : t.Live) {s o a : Int} (hs0 : 0 ≤ s) (hs : s < t.S) (ho0 : 0 ≤ o) (ho : o < t.S) (ha0 : 0 ≤ a) (ha : a < t.A) (hne : s ≠ o) :
    ∃ l m v u : Int, apartE t s a o a = 0 ∧ apartV t s a o a = (l, m) ∧ widE t s o a = 0 ∧ widV t s o a = v ∧ widE t o s a = 0 ∧ widV t o s a = u ∧
      ((0 < l ∧ v = 1 ∧ u = 2) ∨ (¬ 0 < l ∧ m < 1 ∧ v = 2) ∨ (¬ 0 < l ∧ ¬ m < 1 ∧ v = 3)) := by
  obtain ⟨e1, v1⟩ := h.apart hs0 hs ha0 ha ho0 ho ha0 ha
  obtain ⟨e2, v2⟩ := h.apart ho0 ho ha0 ha hs0 hs ha0 ha
  obtain ⟨e3, v3⟩ := h.wid hs0 hs ho0 ho ha0 ha hne
  obtain ⟨e4, v4⟩ := h.wid ho0 ho hs0 hs ha0 ha (Ne.symm hne)
  rw [v1] at v3
  rw [v2] at v4
  have n1 := h.ok.nodeC_lt hs0 hs ha0 ha
  have n2 := h.ok.nodeC_lt ho0 ho ha0 ha
  have d := h.tri (nodeC s a) (nodeC s a) (nodeC o a) n1.1 n1.1 n2.1
  rw [h.diag _ n1.1] at d
  simp only at v3 v4
  refine ⟨_, _, _, _, e1, v1, e3, v3, e4, v4, ?_⟩
  generalize bdV t 0 (nodeC s a) (nodeC o a) = p at d ⊢
  generalize bdV t 0 (nodeC o a) (nodeC s a) = q at d ⊢
  by_cases c1 : 0 < -p
  · rw [if_pos c1, if_neg (by omega), if_pos (by omega)]
    exact .inl ⟨c1, rfl, rfl⟩
  · rw [if_neg c1]
    by_cases c2 : q ≤ 0
    · rw [if_pos c2]; exact .inr (.inl ⟨c1, by omega, rfl⟩)
    · rw [if_neg c2]; exact .inr (.inr ⟨c1, by omega, rfl⟩)
set_option maxRecDepth 100000 in
set_option maxHeartbeats 4000000 in
theorem wider_walk (a0 : Option Addr) (len0 cap0 : Nat) (z0 : List Int) (w : World) (h0 : IsRow .i64 w a0 len0 cap0 z0) :
    Calls Try.prog 17 #[.slice a0 len0 cap0] w fun e w' => e = .returned (.bool true) ∧ Ext [] w w' := by
  have HN := Lib.hid (newLots_any w a0 len0 cap0 z0 h0)
  clear h0
  have E : Ext [] w w := Ext.refl _ _
  go_enter Try.func17, Try.ntmps17
  go_upto_region 0 with (fail)
  refine wp_region_lit ?_
  refine seq_val rfl rfl (R_assign (v := .bool _) rfl rfl) (by simp only [List.set_cons_succ, List.set_cons_zero]; exact rfl) ?_
  refine wpList_nil ?_
  go_upto_region 1 with (fail)
  refine wp_region_lit ?_
  refine seq_val rfl rfl (R_move (v := .slice _ _ _) rfl rfl) (by simp only [List.set_cons_succ, List.set_cons_zero]; exact rfl) ?_
  refine seq_call rfl rfl (by kernel_rfl) (HN.out) fun e w1 hR => ?_
  obtain ⟨b, rfl, hb, hb2, HL, e1⟩ := hR
  refine ⟨_, _, rfl, (by simp only [List.set_cons_succ, List.set_cons_zero]; exact rfl), ?_⟩
  replace E := ext_same E (e1)
  refine seq_val rfl rfl (R_assign (v := .pointer (some ⟨_, _, none⟩)) rfl rfl) (by simp only [List.set_cons_succ, List.set_cons_zero]; exact rfl) ?_
  refine wpList_nil ?_
  clear e1 HN
  go_upto_region 2 with (fail)
  refine wp_region_lit ?_
  refine seq_val rfl rfl (R_move (v := .pointer (some ⟨_, _, none⟩)) rfl rfl) (by simp only [List.set_cons_succ, List.set_cons_zero]; exact rfl) ?_
  refine seq_val rfl rfl (R_move (v := .pointer (some ⟨_, _, none⟩)) rfl rfl) (by simp only [List.set_cons_succ, List.set_cons_zero]; exact rfl) ?_
  refine seq_new rfl rfl (R_buildSlice rfl Try.underlying29 (size := 1) (by kernel_rfl) (by decide) (by decide) Try.zeroValue3 (cells := #[.int .i64 6, .int .i64 20]) (by kernel_rfl)) (by simp only [List.set_cons_succ, List.set_cons_zero]; exact rfl) fun w2 hw => ?_
  obtain ⟨n22, hn⟩ : ∃ n, n = w1.heap.size := ⟨_, rfl⟩
  rw [← hn]
  have l22 : w.heap.size ≤ n22 := by rw [hn]; exact E.size
  have b22_HL := Nat.lt_of_lt_of_eq (lots_lt HL) hn.symm
  replace HL := lots_alloc hw HL
  have q22 := new_block hw hn
  replace E := ext_alloc E hw
  clear hw hn
  refine seq_call rfl rfl (by kernel_rfl) (of_any w _ b _ _ n22 _ [6, 20] HL (by omega) q22 (by omega) (by decide) (by decide)) fun e w3 hR => ?_
  obtain ⟨wd, rfl, hwd, HL, e2⟩ := hR
  refine ⟨_, _, rfl, (by simp only [List.set_cons_succ, List.set_cons_zero]; exact rfl), ?_⟩
  replace q22 := (e2).keep q22 (by simp; omega)
  replace E := E.trans' e2 (fun i hi hl => by simp only [List.mem_cons, List.not_mem_nil, or_false] at hi ⊢; omega)
  replace hwd : 0 ≤ wd ∧ wd ≤ 60 := by simp at hwd; omega
  refine seq_call rfl rfl (by kernel_rfl) (measuredOf_any w _ b _ _ 3 2 wd HL (by omega) (by omega) (by omega) (by omega) (by omega) (by omega) (by omega)) fun e w4 hR => ?_
  obtain ⟨t, ms, ps, vs, gv, rv, lv, mv, pv, rfl, hM, hS, hA, hbm, og, orr, olk, om, -, op, HL, e3⟩ := hR
  refine ⟨_, _, rfl, (by simp only [List.set_cons_succ, List.set_cons_zero]; exact rfl), ?_⟩
  replace q22 := (e3).keep q22 (by simp; omega)
  replace E := E.trans' e3 (fun i hi hl => by simp only [List.mem_cons, List.not_mem_nil, or_false] at hi ⊢; omega)
  have E2 : Ext [] w4 w4 := Ext.refl _ _
  have hT := tp_of_owns og orr olk
  obtain ⟨ga, gc, rfl⟩ := owns_slice og
  obtain ⟨ra, rc, rfl⟩ := owns_slice orr
  obtain ⟨la, lc, rfl⟩ := owns_slice olk
  obtain ⟨ma, mc, rfl⟩ := owns_slice om
  obtain ⟨pa, pc, rfl⟩ := owns_slice op
  clear og orr olk om op
  unfold tpV
  refine seq_val rfl rfl (R_move (v := .tuple _) rfl rfl) (by simp only [List.set_cons_succ, List.set_cons_zero]; exact rfl) ?_
  refine seq_val rfl rfl (R_extract rfl rfl (get0)) (by simp only [List.set_cons_succ, List.set_cons_zero]; exact rfl) ?_
  refine seq_val rfl rfl (R_extract rfl rfl (getS (get0))) (by simp only [List.set_cons_succ, List.set_cons_zero]; exact rfl) ?_
  refine seq_val rfl rfl (R_extract rfl rfl (getS (getS (get0)))) (by simp only [List.set_cons_succ, List.set_cons_zero]; exact rfl) ?_
  refine seq_new rfl rfl (R_alloc rfl Try.zeroValue28) (by simp only [List.set_cons_succ, List.set_cons_zero]; exact rfl) fun w5 hw => ?_
  obtain ⟨n4, hn⟩ : ∃ n, n = w4.heap.size := ⟨_, rfl⟩
  rw [← hn]
  have l4 : w.heap.size ≤ n4 := by rw [hn]; exact E.size
  have l4_E2 : w4.heap.size ≤ n4 := by rw [hn]; exact E2.size
  have b4_HL := Nat.lt_of_lt_of_eq (lots_lt HL) hn.symm
  have m4_22 : n22 < n4 := by rw [hn]; exact blk_lt q22
  replace q22 := keep_alloc hw q22
  replace E2 := ext_alloc E2 hw
  replace HL := lots_alloc hw HL
  have q4 := new_row hw hn
  replace E := ext_alloc E hw
  clear hw hn
  refine seq_to rfl rfl (R_storeRow rfl rfl rfl (by kernel_rfl) (by simp [Value.oneCell']) q4 rfl) fun w6 hw => ?_
  replace q22 := keep_cells hw q22 (by omega)
  replace q4 := put_row hw q4 rfl
  replace E2 := ext_cells E2 hw (fun h => by first | exact absurd h (by omega) | simp)
  replace HL := lots_cells hw HL (by omega) (by omega)
  replace E := ext_cells E hw (fun h => by first | exact absurd h (by omega) | simp)
  clear hw
  refine seq_val rfl rfl (R_assign (v := .slice _ _ _) rfl rfl) (by simp only [List.set_cons_succ, List.set_cons_zero]; exact rfl) ?_
  refine seq_val rfl rfl (R_assign (v := .slice _ _ _) rfl rfl) (by simp only [List.set_cons_succ, List.set_cons_zero]; exact rfl) ?_
  refine wpList_nil ?_
  have hL := hM.live
  have hT1 : t.gr.length ≤ 1000 := by have := hM.grl; omega
  have hT2 : t.rd.length ≤ 1000 := by have := hM.rdl; omega
  have hT3 : t.lk.length ≤ 1000 := by have := hM.lkl; omega
  have hA1 := hM.A1
  have hS1 := hM.S1
  have HT : Hid (∀ W : World, Ext [] w6 W → IsTp W (.slice ga t.gr.length gc) (.slice ra t.rd.length rc) (.slice la t.lk.length lc) t) := fun W hW => (hT.ext E2 (by simp)).ext hW (by simp)
  clear hT e2 e3 HL hM
  obtain ⟨wo, hwo⟩ : ∃ wo, wo = w6 := ⟨_, rfl⟩
  subst hwo
  have HW : Hid (∀ (s o a : Int) (W : World), Ext [] wo W → Calls Try.prog 63 #[tpV t (.slice ga t.gr.length gc) (.slice ra t.rd.length rc) (.slice la t.lk.length lc), .int .i64 s, .int .i64 o, .int .i64 a] W fun e w' => e = .returned (.tuple #[.int .i64 (widV t s o a), .int .i64 (widE t s o a)]) ∧ Ext [] W w') :=
    fun s o a W hW => wider_any t _ _ _ s o a W (HT.out W hW) hT1 hT2 hT3
  have HA : Hid (∀ (s a o h : Int) (W : World), Ext [] wo W → Calls Try.prog 43 #[tpV t (.slice ga t.gr.length gc) (.slice ra t.rd.length rc) (.slice la t.lk.length lc), .int .i64 s, .int .i64 a, .int .i64 o, .int .i64 h] W fun e w' => e = .returned (.tuple #[.agg #[.int .i64 (apartV t s a o h).1, .int .i64 (apartV t s a o h).2], .int .i64 (apartE t s a o h)]) ∧ Ext [] W w') :=
    fun s a o h W hW => apart_all t _ _ _ s a o h W (HT.out W hW) hT1 hT2 hT3
  clear HT hT1 hT2 hT3
  unfold tpV at HW HA
  have q4o := Lib.hid q4
  clear E2 q22
  go_upto_region 3 with (fail)
  refine wp_region_lit ?_
  refine seq_val rfl rfl (R_assign (v := .int .i64 _) rfl rfl) (by simp only [List.set_cons_succ, List.set_cons_zero]; exact rfl) ?_
  refine wpList_nil ?_
  go_wp2_with fail
  go_loopw [7] (fun iv wr => ∃ a : Nat, (a : Int) ≤ t.A ∧ iv = .int .i64 a ∧ Ext [] wo wr) (fun iv _ => t.A.toNat - (intOf iv).toNat)
  case atStart => exact ⟨0, by omega, rfl, Ext.refl _ _⟩
  case round =>
    clear q4
    obtain ⟨a, ha, rfl, F⟩ := hrel
    have q4 := F.keep0 q4o.out
    by_cases hla : (a : Int) < t.A
    · have ha' := ha
      go_upto_region 4 with (fail)
      refine wp_region_lit ?_
      refine seq_val rfl rfl (R_move (v := .int .i64 _) rfl rfl) (by simp only [List.set_cons_succ, List.set_cons_zero]; exact rfl) ?_
      refine seq_val rfl rfl (R_field rfl rfl Try.underlying28 rfl (n := 1) (sz := 1) rfl (by kernel_rfl) (by decide)) (by simp only [List.set_cons_succ, List.set_cons_zero]; exact rfl) ?_
      refine seq_val rfl rfl (R_load rfl rfl Try.underlying3 rfl ((cells_of_block q4 1).trans (getS (get0)))) (by simp only [List.set_cons_succ, List.set_cons_zero]; exact rfl) ?_
      refine seq_val rfl rfl (R_lss rfl rfl rfl) (by simp only [List.set_cons_succ, List.set_cons_zero]; exact rfl) ?_
      refine wpList_nil ?_
      go_upto_region 6 with (fail)
      refine wp_region_lit ?_
      refine seq_val rfl rfl (R_assign (v := .int .i64 _) rfl rfl) (by simp only [List.set_cons_succ, List.set_cons_zero]; exact rfl) ?_
      refine wpList_nil ?_
      go_wp2_with fail
      go_loopw [8] (fun iv wr => ∃ s : Nat, (s : Int) ≤ t.S ∧ iv = .int .i64 s ∧ Ext [] wo wr) (fun iv _ => t.S.toNat - (intOf iv).toNat)
      case atStart => exact ⟨0, by omega, rfl, F⟩
      case round =>
        clear q4 F
        obtain ⟨s, hs, rfl, F⟩ := hrel
        have q4 := F.keep0 q4o.out
        by_cases hls : (s : Int) < t.S
        · have hs' := hs
          go_upto_region 7 with (fail)
          refine wp_region_lit ?_
          refine seq_val rfl rfl (R_move (v := .int .i64 _) rfl rfl) (by simp only [List.set_cons_succ, List.set_cons_zero]; exact rfl) ?_
          refine seq_val rfl rfl (R_field rfl rfl Try.underlying28 rfl (n := 0) (sz := 1) rfl (by kernel_rfl) (by decide)) (by simp only [List.set_cons_succ, List.set_cons_zero]; exact rfl) ?_
          refine seq_val rfl rfl (R_load rfl rfl Try.underlying3 rfl ((cells_of_block q4 0).trans (get0))) (by simp only [List.set_cons_succ, List.set_cons_zero]; exact rfl) ?_
          refine seq_val rfl rfl (R_lss rfl rfl rfl) (by simp only [List.set_cons_succ, List.set_cons_zero]; exact rfl) ?_
          refine wpList_nil ?_
          go_upto_region 9 with (fail)
          refine wp_region_lit ?_
          refine seq_val rfl rfl (R_assign (v := .int .i64 _) rfl rfl) (by simp only [List.set_cons_succ, List.set_cons_zero]; exact rfl) ?_
          refine wpList_nil ?_
          go_wp2_with fail
          go_loopw [9] (fun iv wr => ∃ o : Nat, (o : Int) ≤ t.S ∧ iv = .int .i64 o ∧ Ext [] wo wr) (fun iv _ => t.S.toNat - (intOf iv).toNat)
          case atStart => exact ⟨0, by omega, rfl, F⟩
          case round =>
            clear q4 F
            obtain ⟨o, ho, rfl, F⟩ := hrel
            have q4 := F.keep0 q4o.out
            by_cases hlo : (o : Int) < t.S
            · have ho' := ho
              go_upto_region 10 with (fail)
              refine wp_region_lit ?_
              refine seq_val rfl rfl (R_move (v := .int .i64 _) rfl rfl) (by simp only [List.set_cons_succ, List.set_cons_zero]; exact rfl) ?_
              refine seq_val rfl rfl (R_field rfl rfl Try.underlying28 rfl (n := 0) (sz := 1) rfl (by kernel_rfl) (by decide)) (by simp only [List.set_cons_succ, List.set_cons_zero]; exact rfl) ?_
              refine seq_val rfl rfl (R_load rfl rfl Try.underlying3 rfl ((cells_of_block q4 0).trans (get0))) (by simp only [List.set_cons_succ, List.set_cons_zero]; exact rfl) ?_
              refine seq_val rfl rfl (R_lss rfl rfl rfl) (by simp only [List.set_cons_succ, List.set_cons_zero]; exact rfl) ?_
              refine wpList_nil ?_
              by_cases hso : s = o
              · subst hso
                obtain ⟨h1, h2⟩ := hL.wid_eq (s := s) (a := a) (by omega) hls (by omega) hla
                have h3 := HW.out s s a
                rw [h1, h2] at h3
                replace h3 := Lib.hid h3
                clear h1 h2
                go_upto_region 12 with (fail)
                refine wp_region_lit ?_
                refine seq_val rfl rfl (R_loadBlk rfl rfl Try.underlying28 rfl (by kernel_rfl) q4) (by simp only [List.set_cons_succ, List.set_cons_zero]; exact rfl) ?_
                refine seq_val rfl rfl (R_move (v := .int .i64 _) rfl rfl) (by simp only [List.set_cons_succ, List.set_cons_zero]; exact rfl) ?_
                refine seq_val rfl rfl (R_move (v := .int .i64 _) rfl rfl) (by simp only [List.set_cons_succ, List.set_cons_zero]; exact rfl) ?_
                refine seq_val rfl rfl (R_move (v := .int .i64 _) rfl rfl) (by simp only [List.set_cons_succ, List.set_cons_zero]; exact rfl) ?_
                refine seq_call rfl rfl (by kernel_rfl) (h3.out _ F) fun e w1 hR => ?_
                obtain ⟨rfl, e1⟩ := hR
                refine ⟨_, _, rfl, (by simp only [List.set_cons_succ, List.set_cons_zero]; exact rfl), ?_⟩
                replace q4 := (e1).keep0 q4
                replace F := ext_same F (e1)
                refine seq_val rfl rfl (R_move (v := .tuple _) rfl rfl) (by simp only [List.set_cons_succ, List.set_cons_zero]; exact rfl) ?_
                refine seq_val rfl rfl (R_extract rfl rfl (get0)) (by simp only [List.set_cons_succ, List.set_cons_zero]; exact rfl) ?_
                refine seq_val rfl rfl (R_extract rfl rfl (getS (get0))) (by simp only [List.set_cons_succ, List.set_cons_zero]; exact rfl) ?_
                refine seq_val rfl rfl (R_assign (v := .int .i64 _) rfl rfl) (by simp only [List.set_cons_succ, List.set_cons_zero]; exact rfl) ?_
                refine seq_val rfl rfl (R_assign (v := .int .i64 _) rfl rfl) (by simp only [List.set_cons_succ, List.set_cons_zero]; exact rfl) ?_
                refine wpList_nil ?_
                clear e1 h3
                go_wp2
                go_roundw
                case rel => exact ⟨s + 1, by omega, by go_num, F⟩
                case measure => simp [intOf]; omega
              · obtain ⟨l, m, v, u, h1, h2, h3, h4, h5, h6, h7⟩ := wid_cases hL (s := s) (o := o) (a := a) (by omega) hls (by omega) hlo (by omega) hla (by omega)
                have c1 := HA.out s a o a
                have c2 := HW.out s o a
                have c3 := HW.out o s a
                rw [h1, h2] at c1
                rw [h3, h4] at c2
                rw [h5, h6] at c3
                replace c1 := Lib.hid c1
                replace c2 := Lib.hid c2
                replace c3 := Lib.hid c3
                clear h1 h2 h3 h4 h5 h6
                have hb : ((s : Int) == (o : Int)) = false := beq_eq_false_iff_ne.2 (by omega)
                go_upto_region 12 with (fail)
                refine wp_region_lit ?_
                refine seq_val rfl rfl (R_loadBlk rfl rfl Try.underlying28 rfl (by kernel_rfl) q4) (by simp only [List.set_cons_succ, List.set_cons_zero]; exact rfl) ?_
                refine seq_val rfl rfl (R_move (v := .int .i64 _) rfl rfl) (by simp only [List.set_cons_succ, List.set_cons_zero]; exact rfl) ?_
                refine seq_val rfl rfl (R_move (v := .int .i64 _) rfl rfl) (by simp only [List.set_cons_succ, List.set_cons_zero]; exact rfl) ?_
                refine seq_val rfl rfl (R_move (v := .int .i64 _) rfl rfl) (by simp only [List.set_cons_succ, List.set_cons_zero]; exact rfl) ?_
                refine seq_call rfl rfl (by kernel_rfl) (c2.out _ F) fun e w1 hR => ?_
                obtain ⟨rfl, e1⟩ := hR
                refine ⟨_, _, rfl, (by simp only [List.set_cons_succ, List.set_cons_zero]; exact rfl), ?_⟩
                replace q4 := (e1).keep0 q4
                replace F := ext_same F (e1)
                refine seq_val rfl rfl (R_move (v := .tuple _) rfl rfl) (by simp only [List.set_cons_succ, List.set_cons_zero]; exact rfl) ?_
                refine seq_val rfl rfl (R_extract rfl rfl (get0)) (by simp only [List.set_cons_succ, List.set_cons_zero]; exact rfl) ?_
                refine seq_val rfl rfl (R_extract rfl rfl (getS (get0))) (by simp only [List.set_cons_succ, List.set_cons_zero]; exact rfl) ?_
                refine seq_val rfl rfl (R_assign (v := .int .i64 _) rfl rfl) (by simp only [List.set_cons_succ, List.set_cons_zero]; exact rfl) ?_
                refine seq_val rfl rfl (R_assign (v := .int .i64 _) rfl rfl) (by simp only [List.set_cons_succ, List.set_cons_zero]; exact rfl) ?_
                refine wpList_nil ?_
                go_upto_region 16 with (fail)
                refine wp_region_lit ?_
                refine seq_val rfl rfl (R_loadBlk rfl rfl Try.underlying28 rfl (by kernel_rfl) q4) (by simp only [List.set_cons_succ, List.set_cons_zero]; exact rfl) ?_
                refine seq_val rfl rfl (R_move (v := .int .i64 _) rfl rfl) (by simp only [List.set_cons_succ, List.set_cons_zero]; exact rfl) ?_
                refine seq_val rfl rfl (R_move (v := .int .i64 _) rfl rfl) (by simp only [List.set_cons_succ, List.set_cons_zero]; exact rfl) ?_
                refine seq_val rfl rfl (R_move (v := .int .i64 _) rfl rfl) (by simp only [List.set_cons_succ, List.set_cons_zero]; exact rfl) ?_
                refine seq_call rfl rfl (by kernel_rfl) (c3.out _ F) fun e w2 hR => ?_
                obtain ⟨rfl, e2⟩ := hR
                refine ⟨_, _, rfl, (by simp only [List.set_cons_succ, List.set_cons_zero]; exact rfl), ?_⟩
                replace q4 := (e2).keep0 q4
                replace F := ext_same F (e2)
                refine seq_val rfl rfl (R_move (v := .tuple _) rfl rfl) (by simp only [List.set_cons_succ, List.set_cons_zero]; exact rfl) ?_
                refine seq_val rfl rfl (R_extract rfl rfl (get0)) (by simp only [List.set_cons_succ, List.set_cons_zero]; exact rfl) ?_
                refine seq_val rfl rfl (R_extract rfl rfl (getS (get0))) (by simp only [List.set_cons_succ, List.set_cons_zero]; exact rfl) ?_
                refine seq_val rfl rfl (R_assign (v := .int .i64 _) rfl rfl) (by simp only [List.set_cons_succ, List.set_cons_zero]; exact rfl) ?_
                refine seq_val rfl rfl (R_assign (v := .int .i64 _) rfl rfl) (by simp only [List.set_cons_succ, List.set_cons_zero]; exact rfl) ?_
                refine wpList_nil ?_
                go_upto_region 17 with (fail)
                refine wp_region_lit ?_
                refine seq_val rfl rfl (R_loadBlk rfl rfl Try.underlying28 rfl (by kernel_rfl) q4) (by simp only [List.set_cons_succ, List.set_cons_zero]; exact rfl) ?_
                refine seq_val rfl rfl (R_move (v := .int .i64 _) rfl rfl) (by simp only [List.set_cons_succ, List.set_cons_zero]; exact rfl) ?_
                refine seq_val rfl rfl (R_move (v := .int .i64 _) rfl rfl) (by simp only [List.set_cons_succ, List.set_cons_zero]; exact rfl) ?_
                refine seq_val rfl rfl (R_move (v := .int .i64 _) rfl rfl) (by simp only [List.set_cons_succ, List.set_cons_zero]; exact rfl) ?_
                refine seq_val rfl rfl (R_move (v := .int .i64 _) rfl rfl) (by simp only [List.set_cons_succ, List.set_cons_zero]; exact rfl) ?_
                refine seq_call rfl rfl (by kernel_rfl) (c1.out _ F) fun e w3 hR => ?_
                obtain ⟨rfl, e3⟩ := hR
                refine ⟨_, _, rfl, (by simp only [List.set_cons_succ, List.set_cons_zero]; exact rfl), ?_⟩
                replace q4 := (e3).keep0 q4
                replace F := ext_same F (e3)
                refine seq_val rfl rfl (R_move (v := .tuple _) rfl rfl) (by simp only [List.set_cons_succ, List.set_cons_zero]; exact rfl) ?_
                refine seq_val rfl rfl (R_extract rfl rfl (get0)) (by simp only [List.set_cons_succ, List.set_cons_zero]; exact rfl) ?_
                refine seq_val rfl rfl (R_extract rfl rfl (getS (get0))) (by simp only [List.set_cons_succ, List.set_cons_zero]; exact rfl) ?_
                refine seq_new rfl rfl (R_alloc rfl Try.zeroValue23) (by simp only [List.set_cons_succ, List.set_cons_zero]; exact rfl) fun w4 hw => ?_
                obtain ⟨n14, hn⟩ : ∃ n, n = w3.heap.size := ⟨_, rfl⟩
                rw [← hn]
                have l14 : wo.heap.size ≤ n14 := by rw [hn]; exact F.size
                have m14_4 : n4 < n14 := by rw [hn]; exact blk_lt q4
                replace q4 := keep_alloc hw q4
                have q14 := new_row hw hn
                replace F := ext_alloc F hw
                clear hw hn
                refine seq_to rfl rfl (R_storeRow rfl rfl rfl (by kernel_rfl) (by simp [Value.oneCell']) q14 rfl) fun w5 hw => ?_
                replace q4 := keep_cells hw q4 (by omega)
                replace q14 := put_row hw q14 rfl
                replace F := ext_cells F hw (fun h => by first | exact absurd h (by omega) | simp)
                clear hw
                refine seq_val rfl rfl (R_assign (v := .int .i64 _) rfl rfl) (by simp only [List.set_cons_succ, List.set_cons_zero]; exact rfl) ?_
                refine wpList_nil ?_
                clear e1 e2 e3 c1 c2 c3
                rcases h7 with ⟨h7, rfl, rfl⟩ | ⟨h7, h8, rfl⟩ | ⟨h7, h8, rfl⟩
                all_goals
                  have c14_0 := (cells_of_block q14 0).trans rfl
                  have c14_1 := (cells_of_block q14 1).trans rfl
                  go_wp2
                  go_roundw
                  case rel => exact ⟨o + 1, by omega, by go_num, F⟩
                  case measure => simp [intOf]; omega
            · have hh1 := hlo
              go_upto_region 10 with (fail)
              refine wp_region_lit ?_
              refine seq_val rfl rfl (R_move (v := .int .i64 _) rfl rfl) (by simp only [List.set_cons_succ, List.set_cons_zero]; exact rfl) ?_
              refine seq_val rfl rfl (R_field rfl rfl Try.underlying28 rfl (n := 0) (sz := 1) rfl (by kernel_rfl) (by decide)) (by simp only [List.set_cons_succ, List.set_cons_zero]; exact rfl) ?_
              refine seq_val rfl rfl (R_load rfl rfl Try.underlying3 rfl ((cells_of_block q4 0).trans (get0))) (by simp only [List.set_cons_succ, List.set_cons_zero]; exact rfl) ?_
              refine seq_val rfl rfl (R_lss rfl rfl rfl) (by simp only [List.set_cons_succ, List.set_cons_zero]; exact rfl) ?_
              refine wpList_nil ?_
              go_wp2
              go_roundw
              case rel => exact ⟨s + 1, by omega, by go_num, F⟩
              case measure => simp [intOf]; omega
        · have hh1 := hls
          go_upto_region 7 with (fail)
          refine wp_region_lit ?_
          refine seq_val rfl rfl (R_move (v := .int .i64 _) rfl rfl) (by simp only [List.set_cons_succ, List.set_cons_zero]; exact rfl) ?_
          refine seq_val rfl rfl (R_field rfl rfl Try.underlying28 rfl (n := 0) (sz := 1) rfl (by kernel_rfl) (by decide)) (by simp only [List.set_cons_succ, List.set_cons_zero]; exact rfl) ?_
          refine seq_val rfl rfl (R_load rfl rfl Try.underlying3 rfl ((cells_of_block q4 0).trans (get0))) (by simp only [List.set_cons_succ, List.set_cons_zero]; exact rfl) ?_
          refine seq_val rfl rfl (R_lss rfl rfl rfl) (by simp only [List.set_cons_succ, List.set_cons_zero]; exact rfl) ?_
          refine wpList_nil ?_
          go_wp2
          go_roundw
          case rel => exact ⟨a + 1, by omega, by go_num, F⟩
          case measure => simp [intOf]; omega
    · have hh1 := hla
      go_upto_region 4 with (fail)
      refine wp_region_lit ?_
      refine seq_val rfl rfl (R_move (v := .int .i64 _) rfl rfl) (by simp only [List.set_cons_succ, List.set_cons_zero]; exact rfl) ?_
      refine seq_val rfl rfl (R_field rfl rfl Try.underlying28 rfl (n := 1) (sz := 1) rfl (by kernel_rfl) (by decide)) (by simp only [List.set_cons_succ, List.set_cons_zero]; exact rfl) ?_
      refine seq_val rfl rfl (R_load rfl rfl Try.underlying3 rfl ((cells_of_block q4 1).trans (getS (get0)))) (by simp only [List.set_cons_succ, List.set_cons_zero]; exact rfl) ?_
      refine seq_val rfl rfl (R_lss rfl rfl rfl) (by simp only [List.set_cons_succ, List.set_cons_zero]; exact rfl) ?_
      refine wpList_nil ?_
      go_upto_region 25 with (fail)
      refine wp_region_lit ?_
      refine seq_call rfl rfl (by kernel_rfl) (taken_any _) fun e w1 hR => ?_
      obtain ⟨rfl, e1⟩ := hR
      refine ⟨_, _, rfl, (by simp only [List.set_cons_succ, List.set_cons_zero]; exact rfl), ?_⟩
      replace q4 := (e1).keep0 q4
      replace F := ext_same F (e1)
      refine seq_val rfl rfl (R_assign (v := .bool _) rfl rfl) (by simp only [List.set_cons_succ, List.set_cons_zero]; exact rfl) ?_
      refine wpList_nil ?_
      go_wp2
      go_ret
      exact ⟨rfl, E.trans F⟩
end Go.Proofs.Ytholfdgebdlgjaa
