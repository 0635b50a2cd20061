/- The walk of narrow: rounds of narrowing until nothing changes. Conditions: no sum leaves the range. -/
import Derived.Test.YtholfdgebdlgjaaFw
import Derived.ScopeJumps
import Derived.LoopTactic
import Derived.Deep.Cut
namespace Go.Proofs.Ytholfdgebdlgjaa
open Go.RowKit
set_option linter.unusedVariables false
noncomputable def narrowRest : Code := match Try.f132.body with
  | some (.seq _ (.scope (.seq _ c))) => c
  | _ => .skip
theorem iTo_lt {m : Nat → Nat → Int} {k : Nat} : ∀ {i : Nat}, iTo m k i = none → ∀ {i' : Nat}, i ≤ i' → iTo m k i' = none := by
  intro i h i' hi
  induction hi with
  | refl => exact h
  | step _ ih => simp [iTo, ih]
theorem kTo_lt {m : Nat → Nat → Int} : ∀ {k : Nat}, kTo m k = none → ∀ {k' : Nat}, k ≤ k' → kTo m k' = none := by
  intro k h k' hk
  induction hk with
  | refl => exact h
  | step _ ih => simp [kTo, ih]
set_option maxRecDepth 100000 in
set_option maxHeartbeats 1000000 in
theorem narrow_rest (Q : Exit → Act → World → Prop) (m : Nat → Nat → Int) (hs : safeM m) (Bb Br : Nat) (w : World) (hb : MatAt w Bb 105 m) (z : Array Value) (hz : z.size = 169) (hr : w.heap[Br]? = some (.cells z 105 (0, 0))) (hne : Bb ≠ Br)
    (x0 x3 x4 x5 x6 x7 x8 x9 x10 x11 x12 x13 x14 x15 x16 x17 x18 x19 x20 x21 x22 x23 x24 x25 x26 x27 x28 x29 x30 x31 x32 x33 x34 x35 x36 x37 x38 x39 x40 x41 x42 x43 x44 x45 x46 x47 x48 x49 x50 x51 x52 : Value)
    (hpanic : Hid (kTo m 13 = none → ∀ a w', a.defers = [] → Ext [Bb] w w' → Q (.panic [{ v := .iface 163 (.agg #[]), recovered := false }]) a w'))
    (hjump : Hid (∀ m', kTo m 13 = some m' → eqM m' m = false → ∀ w', MatAt w' Bb 105 m' → Ext [Bb] w w' → ∀ (x0 x3 x4 x5 x6 x7 x8 x9 x10 x11 x12 x13 x14 x15 x16 x17 x18 x19 x20 x21 x22 x23 x24 x25 x26 x27 x28 x29 x30 x31 x32 x33 x34 x35 x36 x37 x38 x39 x40 x41 x42 x43 x44 x45 x46 x47 x48 x49 x50 x51 x52 : Value), Q (.goto 0) ⟨(x0 :: .pointer (some ⟨Bb, 0, none⟩) :: .pointer (some ⟨Br, 0, none⟩) :: x3 :: x4 :: x5 :: x6 :: x7 :: x8 :: x9 :: x10 :: x11 :: x12 :: x13 :: x14 :: x15 :: x16 :: x17 :: x18 :: x19 :: x20 :: x21 :: x22 :: x23 :: x24 :: x25 :: x26 :: x27 :: x28 :: x29 :: x30 :: x31 :: x32 :: x33 :: x34 :: x35 :: x36 :: x37 :: x38 :: x39 :: x40 :: x41 :: x42 :: x43 :: x44 :: x45 :: x46 :: x47 :: x48 :: x49 :: x50 :: x51 :: x52 :: []).toArray, []⟩ w'))
    (hret : Hid (∀ m', kTo m 13 = some m' → eqM m' m = true → ∀ a w', a.defers = [] → a.tmps.getD 2 undef = .pointer (some ⟨Br, 0, none⟩) → w'.heap[Br]? = some (.cells (matCells m') 105 (0, 0)) → Ext [Bb, Br] w w' → Q .ret a w')) :
    narrowRest.wp Try.prog Q ⟨(x0 :: .pointer (some ⟨Bb, 0, none⟩) :: .pointer (some ⟨Br, 0, none⟩) :: x3 :: x4 :: x5 :: x6 :: x7 :: x8 :: x9 :: x10 :: x11 :: x12 :: x13 :: x14 :: x15 :: x16 :: x17 :: x18 :: x19 :: x20 :: x21 :: x22 :: x23 :: x24 :: x25 :: x26 :: x27 :: x28 :: x29 :: x30 :: x31 :: x32 :: x33 :: x34 :: x35 :: x36 :: x37 :: x38 :: x39 :: x40 :: x41 :: x42 :: x43 :: x44 :: x45 :: x46 :: x47 :: x48 :: x49 :: x50 :: x51 :: x52 :: []).toArray, []⟩ w := by
  change Code.wp _ (Code.seq _ _) _ _ _
  refine wp_seq_k fun K1 hK1 => ?_
  refine wp_region_lit ?_
  refine seq_val rfl rfl (R_loadRow (cs := matList m) rfl rfl Try.underlying105 rfl (matInfo m) hb.range) (by simp only [List.set_cons_succ, List.set_cons_zero]; exact rfl) ?_
  refine seq_new rfl rfl (R_alloc rfl Try.zeroValue105) (by simp only [List.set_cons_succ, List.set_cons_zero]; exact rfl) fun W1 hW1 => ?_
  have hb1 : MatAt W1 Bb 105 m := hW1 ▸ hb.alloc _
  have q1 : W1.heap[w.heap.size]? = some (.cells Try.zeroCells105 105 (0, 0)) := hW1 ▸ blk_new rfl
  have E1 : Ext [Bb] w W1 := hW1 ▸ (Ext.refl _ _).alloc _
  refine seq_to rfl rfl (R_storeRow (cs := (matList m).toArray) rfl rfl rfl (by rw [List.size_toArray]; exact matInfo m) (all_oneCell_toArray (matList_one m)) q1 (by rw [Try.zeroCells105_size, List.size_toArray, matList_length])) fun W2 hW2 => ?_
  refine wpList_nil ?_
  have q2 : W2.heap[w.heap.size]? = some (.cells (matCells m) 105 (0, 0)) := by
    rw [hW2, stored_block q1 (by rw [Try.zeroCells105_size, List.size_toArray, matList_length]), matList_toArray]
  have hb2 : MatAt W2 Bb 105 m := ⟨by rw [hW2, setCells_other _ _ _ _ _ (by have := hb.lt; omega)]; exact hb1.blk⟩
  have E2 : Ext [Bb] w W2 := by rw [hW2]; exact E1.setCells (fun h => absurd h (by omega)) _ _
  clear hW2 hW1 q1 hb1 E1
  refine hK1 _ _ ?_
  clear hK1
  generalize hBo : w.heap.size = Bo at q2
  have HBo := Lib.hid hBo; clear hBo
  have hnb : Bb ≠ Bo := by have := hb.lt; have := HBo.out; omega
  go_wp2_with fail
  go_loopw [8] (fun kv wr => ∃ (k : Nat) (mk : Nat → Nat → Int), k ≤ 13 ∧ kv = .int .i64 k ∧ kTo m k = some mk ∧ MatAt wr Bb 105 mk ∧ wr.heap[Bo]? = some (.cells (matCells m) 105 (0, 0)) ∧ Ext [Bb] w wr) (fun kv _ => 13 - (intOf kv).toNat)
  case atStart => exact ⟨0, m, Nat.zero_le _, rfl, rfl, hb2, q2, E2⟩
  case round =>
    obtain ⟨k, mk, hk, rfl, hmk, hbk, qk, Ek⟩ := hrel
    have Hmk := Lib.hid hmk; clear hmk
    clear hb2 q2 E2
    have Hqk := Lib.hid qk; clear qk
    by_cases hlt : k < 13
    · go_wp2_with fail
      obtain ⟨wk, rfl⟩ : ∃ wk : World, wk = wr := ⟨_, rfl⟩
      go_loopw [11] (fun iv wr => ∃ (i : Nat) (mi : Nat → Nat → Int), i ≤ 13 ∧ iv = .int .i64 i ∧ iTo mk k i = some mi ∧ MatAt wr Bb 105 mi ∧ wr.heap[Bo]? = some (.cells (matCells m) 105 (0, 0)) ∧ Ext [Bb] w wr) (fun iv _ => 13 - (intOf iv).toNat)
      case atStart => exact ⟨0, mk, Nat.zero_le _, rfl, rfl, hbk, Hqk.out, Ek⟩
      case round =>
        obtain ⟨i, mi, hi, rfl, hmi, hbi, qi, Ei⟩ := hrel
        have Hmi := Lib.hid hmi; clear hmi
        have Hqi := Lib.hid qi; clear qi
        by_cases hlti : i < 13
        · go_wp2_with fail
          obtain ⟨wi, rfl⟩ : ∃ wi : World, wi = wr := ⟨_, rfl⟩
          go_loopw [14] (fun jv wr => ∃ (j : Nat), j ≤ 13 ∧ jv = .int .i64 j ∧ MatAt wr Bb 105 (rowTo mi k i j) ∧ wr.heap[Bo]? = some (.cells (matCells m) 105 (0, 0)) ∧ Ext [Bb] w wr) (fun jv _ => 13 - (intOf jv).toNat)
          case atStart => exact ⟨0, Nat.zero_le _, rfl, hbi, Hqi.out, Ei⟩
          case round =>
            obtain ⟨j, hj, rfl, hbj, qj, Ej⟩ := hrel
            have Hqj := Lib.hid qj; clear qj
            by_cases hltj : j < 13
            · have hsf := hs k i j hlt hlti hltj mk Hmk.out mi Hmi.out
              have Hsf := Lib.hid hsf; clear hsf
              go_wp2_with fail
              refine wp_region_st 21 follows (by kernel_rfl) fun W3 hW3 eW3 => ?_
              replace hbj := hbj.same hW3
              replace Hqj := Lib.hid (keep_same hW3 Hqj.out)
              replace Ej := Ej.nil eW3
              clear hW3 eW3
              refine still_val rfl rfl (R_move (v := .int .i64 _) rfl rfl) (by simp only [List.set_cons_succ, List.set_cons_zero]; exact rfl) ?_
              refine still_val rfl rfl (R_move (v := .int .i64 _) rfl rfl) (by simp only [List.set_cons_succ, List.set_cons_zero]; exact rfl) ?_
              refine still_val rfl rfl (R_move (v := .int .i64 _) rfl rfl) (by simp only [List.set_cons_succ, List.set_cons_zero]; exact rfl) ?_
              refine still_val rfl rfl (R_move (v := .int .i64 _) rfl rfl) (by simp only [List.set_cons_succ, List.set_cons_zero]; exact rfl) ?_
              refine still_val rfl rfl (R_ixArr rfl rfl rfl Try.underlying105 (sz := 13) (by kernel_rfl) (by omega) (by omega)) (by simp only [List.set_cons_succ, List.set_cons_zero]; exact rfl) ?_
              refine still_val rfl rfl (R_ixArr rfl rfl rfl Try.underlying103 (sz := 1) (by kernel_rfl) (by omega) (by omega)) (by simp only [List.set_cons_succ, List.set_cons_zero]; exact rfl) ?_
              refine still_val rfl rfl (R_load rfl rfl Try.underlying3 rfl (hbj.cellAt i j _ (by omega) (by omega) (by omega))) (by simp only [List.set_cons_succ, List.set_cons_zero]; exact rfl) ?_
              refine still_val rfl rfl (R_move (v := .int .i64 _) rfl rfl) (by simp only [List.set_cons_succ, List.set_cons_zero]; exact rfl) ?_
              refine still_val rfl rfl (R_move (v := .int .i64 _) rfl rfl) (by simp only [List.set_cons_succ, List.set_cons_zero]; exact rfl) ?_
              refine still_val rfl rfl (R_ixArr rfl rfl rfl Try.underlying105 (sz := 13) (by kernel_rfl) (by omega) (by omega)) (by simp only [List.set_cons_succ, List.set_cons_zero]; exact rfl) ?_
              refine still_val rfl rfl (R_ixArr rfl rfl rfl Try.underlying103 (sz := 1) (by kernel_rfl) (by omega) (by omega)) (by simp only [List.set_cons_succ, List.set_cons_zero]; exact rfl) ?_
              refine still_val rfl rfl (R_load rfl rfl Try.underlying3 rfl (hbj.cellAt i k _ (by omega) (by omega) (by omega))) (by simp only [List.set_cons_succ, List.set_cons_zero]; exact rfl) ?_
              refine still_val rfl rfl (R_move (v := .int .i64 _) rfl rfl) (by simp only [List.set_cons_succ, List.set_cons_zero]; exact rfl) ?_
              refine still_val rfl rfl (R_move (v := .int .i64 _) rfl rfl) (by simp only [List.set_cons_succ, List.set_cons_zero]; exact rfl) ?_
              refine still_val rfl rfl (R_ixArr rfl rfl rfl Try.underlying105 (sz := 13) (by kernel_rfl) (by omega) (by omega)) (by simp only [List.set_cons_succ, List.set_cons_zero]; exact rfl) ?_
              refine still_val rfl rfl (R_ixArr rfl rfl rfl Try.underlying103 (sz := 1) (by kernel_rfl) (by omega) (by omega)) (by simp only [List.set_cons_succ, List.set_cons_zero]; exact rfl) ?_
              refine still_val rfl rfl (R_load rfl rfl Try.underlying3 rfl (hbj.cellAt k j _ (by omega) (by omega) (by omega))) (by simp only [List.set_cons_succ, List.set_cons_zero]; exact rfl) ?_
              refine still_val rfl rfl (R_add rfl rfl rfl Hsf.out.1 Hsf.out.2) (by simp only [List.set_cons_succ, List.set_cons_zero]; exact rfl) ?_
              refine still_val rfl rfl (R_min rfl rfl rfl rfl) (by simp only [List.set_cons_succ, List.set_cons_zero]; exact rfl) ?_
              refine still_val rfl rfl (R_ixArr rfl rfl rfl Try.underlying105 (sz := 13) (by kernel_rfl) (by omega) (by omega)) (by simp only [List.set_cons_succ, List.set_cons_zero]; exact rfl) ?_
              refine still_val rfl rfl (R_ixArr rfl rfl rfl Try.underlying103 (sz := 1) (by kernel_rfl) (by omega) (by omega)) (by simp only [List.set_cons_succ, List.set_cons_zero]; exact rfl) ?_
              refine wpStill_nil ?_
              refine seq_to rfl rfl (R_store (v := .int .i64 _) rfl rfl rfl rfl (by kernel_rfl) (hbj.cellAt i j _ (by omega) (by omega) (by omega)) (hbj.frozen _)) fun W4 hW4 => ?_
              refine wpList_nil ?_
              replace hbj := hbj.set' i j hW4 (by omega) (by omega) (by omega)
              replace Hqj := Lib.hid (keep_set hW4 Hqj.out (Ne.symm hnb))
              replace Ej := Ej.set' hW4 (by simp)
              clear hW4
              have Hbj := Lib.hid hbj; clear hbj
              go_wp2
              go_roundw
              case rel => exact ⟨j + 1, by omega, by go_num, Hbj.out, Hqj.out, Ej⟩
              case measure => simp [intOf]; omega
            · obtain rfl : j = 13 := by omega
              have c := hbj.cell i i (by omega) (by omega)
              by_cases hneg : rowTo mi k i 13 i i < 0
              · go_wp2
                refine hpanic.out ?_ _ _ rfl Ej
                have h1 : iTo mk k (i + 1) = none := by simp only [iTo, Hmi.out, hneg, if_true]
                have h2 := iTo_lt h1 (i' := 13) (by omega)
                have h3 : kTo m (k + 1) = none := by simp only [kTo, Hmk.out, h2]
                exact kTo_lt h3 (by omega)
              · have hneg' : ¬ rowTo mi k i 13 i i < 0 := hneg
                have h1 : Hid (iTo mk k (i + 1) = some (rowTo mi k i 13)) := by show _ = _; simp only [iTo, Hmi.out, hneg', if_false]
                go_wp2
                go_roundw
                case rel => exact ⟨i + 1, _, by omega, by go_num, h1.out, hbj, Hqj.out, Ej⟩
                case measure => simp [intOf]; omega
        · obtain rfl : i = 13 := by omega
          have h1 : Hid (kTo m (k + 1) = some mi) := by show _ = _; simp only [kTo, Hmk.out, Hmi.out]
          go_wp2
          go_roundw
          case rel => exact ⟨k + 1, _, by omega, by go_num, h1.out, hbi, Hqi.out, Ei⟩
          case measure => simp [intOf]; omega
    · obtain rfl : k = 13 := by omega
      have hbo : MatAt wr Bo 105 m := ⟨Hqk.out⟩
      have hr2 := Ek.keep hr (by simp; exact Ne.symm hne)
      have Hr2 := Lib.hid hr2; clear hr2
      cases he : eqM mk m
      · have He := Lib.hid he; clear he
        go_upto_region 17 with (fail)
        refine wp_region_lit ?_
        refine seq_val rfl rfl (R_loadRow (cs := matList mk) rfl rfl Try.underlying105 rfl (matInfo mk) hbk.range) (by simp only [List.set_cons_succ, List.set_cons_zero]; exact rfl) ?_
        refine seq_val rfl rfl (R_loadRow (cs := matList m) rfl rfl Try.underlying105 rfl (matInfo m) hbo.range) (by simp only [List.set_cons_succ, List.set_cons_zero]; exact rfl) ?_
        refine seq_val rfl rfl (R_neqMat' (m := mk) (m' := m) (b := true) rfl (congrArg Value.agg (matList_toArray mk)) (congrArg Value.agg (matList_toArray m)) (by rw [He.out]; rfl)) (by simp only [List.set_cons_succ, List.set_cons_zero]; exact rfl) ?_
        refine wpList_nil ?_
        go_wp2
        refine wp_goto ?_
        exact hjump.out mk Hmk.out He.out _ hbk Ek _ _ _ _ _ _ _ _ _ _ _ _ _ _ _ _ _ _ _ _ _ _ _ _ _ _ _ _ _ _ _ _ _ _ _ _ _ _ _ _ _ _ _ _ _ _ _ _ _ _ _
      · have He := Lib.hid he; clear he
        go_upto_region 17 with (fail)
        refine wp_region_lit ?_
        refine seq_val rfl rfl (R_loadRow (cs := matList mk) rfl rfl Try.underlying105 rfl (matInfo mk) hbk.range) (by simp only [List.set_cons_succ, List.set_cons_zero]; exact rfl) ?_
        refine seq_val rfl rfl (R_loadRow (cs := matList m) rfl rfl Try.underlying105 rfl (matInfo m) hbo.range) (by simp only [List.set_cons_succ, List.set_cons_zero]; exact rfl) ?_
        refine seq_val rfl rfl (R_neqMat' (m := mk) (m' := m) (b := false) rfl (congrArg Value.agg (matList_toArray mk)) (congrArg Value.agg (matList_toArray m)) (by rw [He.out]; rfl)) (by simp only [List.set_cons_succ, List.set_cons_zero]; exact rfl) ?_
        refine wpList_nil ?_
        go_upto_region 18 with (fail)
        refine wp_region_lit ?_
        refine seq_val rfl rfl (R_loadRow (cs := matList mk) rfl rfl Try.underlying105 rfl (matInfo mk) hbk.range) (by simp only [List.set_cons_succ, List.set_cons_zero]; exact rfl) ?_
        refine seq_to rfl rfl (R_storeRow (cs := (matList mk).toArray) rfl rfl rfl (by rw [List.size_toArray]; exact matInfo mk) (all_oneCell_toArray (matList_one mk)) Hr2.out (by rw [hz, List.size_toArray, matList_length])) fun W5 hW5 => ?_
        refine wpList_nil ?_
        have q5 : W5.heap[Br]? = some (.cells (matCells mk) 105 (0, 0)) := by
          rw [hW5, stored_block Hr2.out (by rw [hz, List.size_toArray, matList_length]), matList_toArray]
        have E5 : Ext [Bb, Br] w W5 := by rw [hW5]; exact (Ek.mono (by simp)).setCells (fun _ => by simp) _ _
        clear hW5
        go_wp2
        exact hret.out mk Hmk.out He.out _ _ rfl rfl q5 E5
set_option maxRecDepth 100000 in
set_option maxHeartbeats 1000000 in
/-- narrow: at a contradiction it panics; else it returns what a round leaves, behind which another round changes nothing. -/
theorem narrow_any (m : Nat → Nat → Int) (w : World) (hs : safeM m) (hs2 : ∀ m', kTo m 13 = some m' → safeM m' ∧ ∃ m'', kTo m' 13 = some m'' ∧ eqM m'' m' = true) :
    Calls Try.prog 132 #[.agg (matCells m)] w fun e w' => Ext [] w w' ∧
      ((kTo m 13 = none ∧ e = .panicked [{ v := .iface 163 (.agg #[]), recovered := false }]) ∨ ∃ m', kTo m 13 = some m' ∧ e = .returned (.agg (matCells m'))) := by
  go_enter Try.func132, Try.ntmps132
  go_wp2_with fail
  have q0 : MatAt ((w.alloc (.cells (matCells m) 105)).alloc (.cells Try.zeroCells105 105)) w.heap.size 105 m := ⟨blk_old (blk_new rfl)⟩
  have q1 : ((w.alloc (.cells (matCells m) 105)).alloc (.cells Try.zeroCells105 105)).heap[w.heap.size + 1]? = _ := blk_new (size_alloc _ _).symm
  have E0 : Ext [] w ((w.alloc (.cells (matCells m) 105)).alloc (.cells Try.zeroCells105 105)) := ((Ext.refl _ _).alloc _).alloc _
  generalize (w.alloc (.cells (matCells m) 105)).alloc (.cells Try.zeroCells105 105) = W at q0 q1 E0 ⊢
  refine wp_scope_jumps (rest := .seq .skip narrowRest) 0 (fun a w' => ∃ m', kTo m 13 = some m' ∧ eqM m' m = false ∧ MatAt w' w.heap.size 105 m' ∧ Ext [w.heap.size] W w' ∧ ∃ x0 x3 x4 x5 x6 x7 x8 x9 x10 x11 x12 x13 x14 x15 x16 x17 x18 x19 x20 x21 x22 x23 x24 x25 x26 x27 x28 x29 x30 x31 x32 x33 x34 x35 x36 x37 x38 x39 x40 x41 x42 x43 x44 x45 x46 x47 x48 x49 x50 x51 x52 : Value, a = ⟨(x0 :: .pointer (some ⟨w.heap.size, 0, none⟩) :: .pointer (some ⟨w.heap.size + 1, 0, none⟩) :: x3 :: x4 :: x5 :: x6 :: x7 :: x8 :: x9 :: x10 :: x11 :: x12 :: x13 :: x14 :: x15 :: x16 :: x17 :: x18 :: x19 :: x20 :: x21 :: x22 :: x23 :: x24 :: x25 :: x26 :: x27 :: x28 :: x29 :: x30 :: x31 :: x32 :: x33 :: x34 :: x35 :: x36 :: x37 :: x38 :: x39 :: x40 :: x41 :: x42 :: x43 :: x44 :: x45 :: x46 :: x47 :: x48 :: x49 :: x50 :: x51 :: x52 :: []).toArray, []⟩) (fun _ _ => 0) rfl ?_ ?_
  · refine wp_seq_k fun K2 hK2 => ?_
    refine wp_label ?_
    refine hK2 _ _ (narrow_rest _ m hs w.heap.size (w.heap.size + 1) W q0 _ Try.zeroCells105_size q1 (by omega) _ _ _ _ _ _ _ _ _ _ _ _ _ _ _ _ _ _ _ _ _ _ _ _ _ _ _ _ _ _ _ _ _ _ _ _ _ _ _ _ _ _ _ _ _ _ _ _ _ _ _ ?_ ?_ ?_)
    · intro hn a w' hd hx
      exact ⟨hd, (E0.trans' hx (by simp)), .inl ⟨hn, rfl⟩⟩
    · intro m' hm he w' hb' hx x0 x3 x4 x5 x6 x7 x8 x9 x10 x11 x12 x13 x14 x15 x16 x17 x18 x19 x20 x21 x22 x23 x24 x25 x26 x27 x28 x29 x30 x31 x32 x33 x34 x35 x36 x37 x38 x39 x40 x41 x42 x43 x44 x45 x46 x47 x48 x49 x50 x51 x52
      exact ⟨rfl, m', hm, he, hb', hx, x0, x3, x4, x5, x6, x7, x8, x9, x10, x11, x12, x13, x14, x15, x16, x17, x18, x19, x20, x21, x22, x23, x24, x25, x26, x27, x28, x29, x30, x31, x32, x33, x34, x35, x36, x37, x38, x39, x40, x41, x42, x43, x44, x45, x46, x47, x48, x49, x50, x51, x52, rfl⟩
    · intro m' hm he a w' hd ht hq hx
      exact ⟨hd, _, res_cell rfl ht Try.underlying105 rfl (by rw [matCells_size]; kernel_rfl) hq, E0.trans' hx (by simp), .inr ⟨m', hm, rfl⟩⟩
  · rintro a w' ⟨m', hm, he, hb', hx, x0, x3, x4, x5, x6, x7, x8, x9, x10, x11, x12, x13, x14, x15, x16, x17, x18, x19, x20, x21, x22, x23, x24, x25, x26, x27, x28, x29, x30, x31, x32, x33, x34, x35, x36, x37, x38, x39, x40, x41, x42, x43, x44, x45, x46, x47, x48, x49, x50, x51, x52, rfl⟩
    obtain ⟨hs', m'', hm'', he'⟩ := hs2 m' hm
    have hq := hx.keep q1 (by simp)
    refine wp_seq_k fun K2 hK2 => ?_
    refine wp_skip ?_
    refine hK2 _ _ (narrow_rest _ m' hs' w.heap.size (w.heap.size + 1) w' hb' _ Try.zeroCells105_size hq (by omega) _ _ _ _ _ _ _ _ _ _ _ _ _ _ _ _ _ _ _ _ _ _ _ _ _ _ _ _ _ _ _ _ _ _ _ _ _ _ _ _ _ _ _ _ _ _ _ _ _ _ _ ?_ ?_ ?_)
    · intro hn
      rw [hm''] at hn; cases hn
    · intro m3 hm3 he3
      rw [hm''] at hm3; cases hm3; rw [he'] at he3; cases he3
    · intro m3 hm3 he3 a w3 hd ht hq3 hx3
      have e3 : matCells m3 = matCells m' := matCells_congr (eqM_iff.1 he3)
      rw [e3] at hq3
      exact ⟨hd, _, res_cell rfl ht Try.underlying105 rfl (by rw [matCells_size]; kernel_rfl) hq3, (E0.trans' hx (by simp)).trans' hx3 (by simp), .inr ⟨m', hm, rfl⟩⟩
end Go.Proofs.Ytholfdgebdlgjaa
