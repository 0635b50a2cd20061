/- What the program answers at the chapter's examples. No conditions. -/
import Derived.Test.YtholfdgebdlgjaaTkn
namespace Go.Proofs.Ytholfdgebdlgjaa
open Go.RowKit
set_option linter.unusedVariables false
set_option linter.unusedSimpArgs false
theorem house_check : checkE (houseT []) = 0 := checkE_zero.2 ⟨house_ok, by decide⟩
theorem house9_check : checkE (houseT [(0, 0, 1, 99)]) = 0 := checkE_zero.2 ⟨house9_ok, by decide⟩
theorem alone_check : checkE (aloneT []) = 0 := checkE_zero.2 ⟨alone_ok, by decide⟩
theorem open_of {t : Tp} (hc : checkE t = 0) {xs : Nat → List Int} (h : firstE ((List.range 3).map (askE t xs)) = 0) : openE t xs = 0 := by
  rw [openE, if_neg (by rw [hc]; decide)]; exact h
theorem solved_of {t : Tp} {xs : Nat → List Int} (h : openE t xs = 0) (hb : bdB t 0 = true) : solvedE t xs = 0 := by
  rw [solvedE, if_neg (by rw [h]; decide), if_pos hb]
theorem house_b : bdB (houseT []) 0 = true := by
  obtain ⟨y, hy, -⟩ := house_bd
  exact bdB_some hy
theorem house_can : canB (houseT []) = true := by rw [canB, if_pos house_check, house_b]
theorem house_meas : measE (houseT []) 0 0 = 0 ∧ measV (houseT []) 0 0 = (89, 94) := by
  have h : measE (houseT []) 0 0 = 0 := solved_of (open_of house_check (by decide +kernel)) house_b
  obtain ⟨y, hy, h1, h2, -⟩ := house_bd
  refine ⟨h, ?_⟩
  rw [measV, if_pos h, bdV_some hy, show nodeC 0 0 = 1 from rfl, h1, h2]
  rfl
theorem house_pull : pullE (houseT []) 0 = 0 ∧ pullV (houseT []) 0 = (-3, 2) := by
  have h : pullE (houseT []) 0 = 0 := solved_of (open_of house_check (by decide +kernel)) house_b
  obtain ⟨y, hy, -, -, h1, h2, -⟩ := house_bd
  refine ⟨h, ?_⟩
  rw [pullV, if_pos h, bdV_some hy, show nodeT 0 = 10 from rfl, h1, h2]
theorem house_apart : apartE (houseT []) 0 0 1 0 = 0 ∧ apartV (houseT []) 0 0 1 0 = (4, 8) := by
  have h : apartE (houseT []) 0 0 1 0 = 0 := solved_of (open_of house_check (by decide +kernel)) house_b
  obtain ⟨y, hy, -, -, -, -, h1, h2⟩ := house_bd
  refine ⟨h, ?_⟩
  rw [apartV, if_pos h, bdV_some hy, show nodeC 0 0 = 1 from rfl, show nodeC 1 0 = 4 from rfl, h1, h2]
  rfl
theorem house_ringR : ringR (houseT [(0, 0, 1, 99)]) = some 17 := by
  have hs : setsL (houseT [(0, 0, 1, 99)]).rd.length = [0, 1, 2, 4, 8, 16, 3, 5, 9] ++ 17 :: (setsL 5).drop 10 := by decide +kernel
  have no : ∀ s : Nat, s ∈ [0, 1, 2, 4, 8, 16, 3, 5, 9] → (!bdB (houseT [(0, 0, 1, 99)]) (outN 31 s : Nat)) = false := fun s hs => by
    have e : ((outN 31 s : Nat) : Int) = 31 - (s : Int) := by
      simp only [List.mem_cons, List.not_mem_nil, or_false] at hs
      rcases hs with rfl | rfl | rfl | rfl | rfl | rfl | rfl | rfl | rfl <;> decide +kernel
    obtain ⟨y, hy⟩ := ring_no s (by
      simp only [List.mem_cons, List.not_mem_nil, or_false] at hs ⊢
      omega)
    rw [e, bdB_some hy]; rfl
  have yes : (!bdB (houseT [(0, 0, 1, 99)]) (outN 31 17 : Nat)) = true := by
    rw [show ((outN 31 17 : Nat) : Int) = 14 by decide +kernel, bdB_none ring_yes]; rfl
  unfold ringR
  rw [hs, List.find?_append]
  have h1 : [0, 1, 2, 4, 8, 16, 3, 5, 9].find? (fun x => !bdB (houseT [(0, 0, 1, 99)]) (outN (2 ^ (houseT [(0, 0, 1, 99)]).rd.length - 1) x : Nat)) = none := by
    rw [List.find?_eq_none]
    intro s hs
    have := no s hs
    simpa [houseT] using this
  rw [h1]
  simp only [Option.none_or]
  rw [List.find?_cons_of_pos]
  exact yes
theorem house_ring : ringE (houseT [(0, 0, 1, 99)]) = 0 ∧ ringL (houseT [(0, 0, 1, 99)]) = [0, 4] := by
  constructor
  · rw [ringE, if_neg (by rw [house9_check]; decide), house_ringR]; rfl
  · rw [ringL, if_neg (by rw [house9_check]; decide), house_ringR]; decide +kernel
/-- How many numbers are left behind a tape. -/
def leftB (tape : Int) : Int := min 120 (tape + 4) + -(max 60 (tape - 4)) + 1
def nxtP (left : Int) : Nat → Int → Int → Option Int
  | 0, _, most => some most
  | n + 1, tape, most => if left ≤ max most (leftB tape) then none else nxtP left n (tape + 1) (max most (leftB tape))
set_option maxHeartbeats 1000000 in
theorem nxt1_eq (i : Nat) (hi : i < 2) (left : Int) : ∀ (n : Nat) (tape most : Int), 56 ≤ tape → tape + n ≤ 125 → nxt1 (aloneT []) 0 0 i left n tape most = nxtP left n tape most
  | 0, _, _, _, _ => rfl
  | n + 1, tape, most, h1, h2 => by
    obtain ⟨y, hy, e1, e2⟩ := alone_tape i hi tape h1 (by omega)
    have hb : bdB (addR (aloneT []) (0, 0, (i : Int), tape)) 0 = true := bdB_some hy
    have hn : numB (addR (aloneT []) (0, 0, (i : Int), tape)) (nodeC 0 0) = leftB tape := by
      unfold numB leftB
      rw [show bdV (addR (aloneT []) (0, 0, (i : Int), tape)) 0 = y from bdV_some hy, show nodeC 0 0 = 1 from rfl, e1, e2]
    unfold nxt1 nxtP
    rw [if_pos hb, hn, nxt1_eq i hi left n (tape + 1) _ (by omega) (by omega)]
set_option maxHeartbeats 2000000 in
set_option maxRecDepth 20000 in
theorem alone_next : nextE (aloneT []) 0 0 = 0 ∧ nextV (aloneT []) 0 0 = (0, 9) := by
  obtain ⟨y, hy, e1, e2, e3⟩ := alone_bd
  have hb : bdB (aloneT []) 0 = true := bdB_some hy
  have hm : measE (aloneT []) 0 0 = 0 := solved_of (open_of alone_check (by decide +kernel)) hb
  have hV : bdV (aloneT []) 0 = y := bdV_some hy
  have h0 : nxtTo (aloneT []) 0 0 0 = (-1, 61) := by
    show (-1, numB (aloneT []) (nodeC 0 0)) = _
    unfold numB
    rw [hV, show nodeC 0 0 = 1 from rfl, e1, e2]
    rfl
  have lo : ∀ i : Nat, i < 2 → nxtLo (aloneT []) 0 0 i = 56 ∧ nxtHi (aloneT []) 0 0 i = 124 := fun i hi => by
    unfold nxtLo nxtHi
    rw [hV, show nodeC 0 0 = 1 from rfl, show nodeT (i : Int) = 10 + i by unfold nodeT; omega, (e3 i hi).1, (e3 i hi).2]
    exact ⟨rfl, rfl⟩
  have h1 : nxtTo (aloneT []) 0 0 1 = (0, 9) := by
    rw [nxtTo_succ]
    rw [h0, (lo 0 (by omega)).1, (lo 0 (by omega)).2, nxt1_eq 0 (by omega) _ _ _ _ (by omega) (by decide), show nxtP (-1, 61).2 ((124 : Int) - 56 + 1).toNat 56 0 = some 9 by decide +kernel]
    rfl
  have h2 : nxtTo (aloneT []) 0 0 2 = (0, 9) := by
    rw [nxtTo_succ]
    rw [h1, (lo 1 (by omega)).1, (lo 1 (by omega)).2, nxt1_eq 1 (by omega) _ _ _ _ (by omega) (by decide), show nxtP (0, 9).2 ((124 : Int) - 56 + 1).toNat 56 0 = none by decide +kernel]
    rfl
  have hE : nextE (aloneT []) 0 0 = 0 := by
    rw [nextE, if_neg (by rw [hm]; decide), show (aloneT []).T.toNat = 2 from rfl, h2]; rfl
  exact ⟨hE, by rw [nextV, if_pos hE, show (aloneT []).T.toNat = 2 from rfl, h2]⟩
set_option maxRecDepth 100000 in
set_option maxHeartbeats 4000000 in
theorem taken_any (w : World) :
    Calls Try.prog 25 #[] w fun e w' => e = .returned (.bool true) ∧ Ext [] w w' := by
  have HH := Lib.hid house0_any
  have HC : Hid (∀ (gv rv lv : Value) (W : World), IsTp W gv rv lv (houseT []) → Calls Try.prog 29 #[tpV (houseT []) gv rv lv] W fun e w' => e = .returned (.tuple #[.bool true, .int .i64 0]) ∧ Ext [] W w') := fun gv rv lv W h => by
    have := can_any (houseT []) gv rv lv W h (by decide) (by decide) (by decide)
    rwa [house_can, house_check] at this
  have HM : Hid (∀ (gv rv lv : Value) (W : World), IsTp W gv rv lv (houseT []) → Calls Try.prog 33 #[tpV (houseT []) gv rv lv, .int .i64 0, .int .i64 0] W fun e w' => e = .returned (.tuple #[.agg #[.int .i64 89, .int .i64 94], .int .i64 0]) ∧ Ext [] W w') := fun gv rv lv W h => by
    have := measure_any (houseT []) gv rv lv 0 0 W h (by decide) (by decide) (by decide)
    rwa [house_meas.1, house_meas.2] at this
  have HP : Hid (∀ (gv rv lv : Value) (W : World), IsTp W gv rv lv (houseT []) → Calls Try.prog 35 #[tpV (houseT []) gv rv lv, .int .i64 0] W fun e w' => e = .returned (.tuple #[.agg #[.int .i64 (-3), .int .i64 2], .int .i64 0]) ∧ Ext [] W w') := fun gv rv lv W h => by
    have := pull_all (houseT []) gv rv lv 0 W h (by decide) (by decide) (by decide)
    rwa [house_pull.1, house_pull.2] at this
  have HA : Hid (∀ (gv rv lv : Value) (W : World), IsTp W gv rv lv (houseT []) → Calls Try.prog 43 #[tpV (houseT []) gv rv lv, .int .i64 0, .int .i64 0, .int .i64 1, .int .i64 0] W fun e w' => e = .returned (.tuple #[.agg #[.int .i64 4, .int .i64 8], .int .i64 0]) ∧ Ext [] W w') := fun gv rv lv W h => by
    have := apart_all (houseT []) gv rv lv 0 0 1 0 W h (by decide) (by decide) (by decide)
    rwa [house_apart.1, house_apart.2] at this
  have HR : Hid (∀ (gv rv lv : Value) (W : World), IsTp W gv rv lv (houseT [(0, 0, 1, 99)]) → Calls Try.prog 47 #[tpV (houseT [(0, 0, 1, 99)]) gv rv lv] W fun e w' => ∃ a cap, e = .returned (.tuple #[.slice a 2 cap, .int .i64 0]) ∧ IsRows w' (.slice a 2 cap) 1 (([0, 4] : List Int).map intRow) ∧ Ext [] W w') := fun gv rv lv W h => by
    have := ring_any (houseT [(0, 0, 1, 99)]) gv rv lv W h (by decide) (by decide) (by decide)
    rwa [house_ring.1, house_ring.2] at this
  have HN : Hid (∀ (gv : Value) (W : World), IsTp W gv (.slice none 0 0) (.slice none 0 0) (aloneT []) → Calls Try.prog 38 #[tpV (aloneT []) gv (.slice none 0 0) (.slice none 0 0), .int .i64 0, .int .i64 0] W fun e w' => e = .returned (.tuple #[.int .i64 0, .int .i64 9, .int .i64 0]) ∧ Ext [] W w') := fun gv W h => by
    have := next_any (aloneT []) gv (.slice none 0 0) none 0 0 0 W h (by decide) (by decide) (by decide) (by decide)
    rwa [alone_next.1, alone_next.2] at this
  have HS : Hid (∀ (a b : Option Addr) (ca cb : Nat) (W : World), IsRows W (.slice a 2 ca) 1 (([0, 4] : List Int).map intRow) → IsRows W (.slice b 2 cb) 1 (([0, 4] : List Int).map intRow) → Calls Try.prog 50 #[.slice a 2 ca, .slice b 2 cb] W fun e w' => e = .returned (.bool true) ∧ Ext [] W w') := fun a b ca cb W h1 h2 =>
    sameInts_any [0, 4] [0, 4] a b ca cb W h1 h2 (by decide) (by decide)
  have E : Ext [] w w := Ext.refl _ _
  go_enter Try.func25, Try.ntmps25
  go_upto_region 1 with (fail)
  refine wp_region_lit ?_
  refine seq_call rfl rfl (by kernel_rfl) (HH.out _) fun e w1 hR => ?_
  obtain ⟨gv, ra, rc, rfl, hT, -, e1⟩ := hR
  refine ⟨_, _, rfl, (by simp only [List.set_cons_succ, List.set_cons_zero]; exact rfl), ?_⟩
  replace E := ext_same E (e1)
  refine seq_call rfl rfl (by kernel_rfl) (HC.out _ _ _ _ hT) fun e w2 hR => ?_
  obtain ⟨rfl, e2⟩ := hR
  refine ⟨_, _, rfl, (by simp only [List.set_cons_succ, List.set_cons_zero]; exact rfl), ?_⟩
  replace E := ext_same E (e2)
  refine seq_val rfl rfl (R_move (v := .tuple _) rfl rfl) (by simp only [List.set_cons_succ, List.set_cons_zero]; exact rfl) ?_
  refine seq_val rfl rfl (R_extract rfl rfl (get0)) (by simp only [List.set_cons_succ, List.set_cons_zero]; exact rfl) ?_
  refine seq_val rfl rfl (R_extract rfl rfl (getS (get0))) (by simp only [List.set_cons_succ, List.set_cons_zero]; exact rfl) ?_
  refine seq_val rfl rfl (R_assign (v := .bool _) rfl rfl) (by simp only [List.set_cons_succ, List.set_cons_zero]; exact rfl) ?_
  refine seq_val rfl rfl (R_assign (v := .int .i64 _) rfl rfl) (by simp only [List.set_cons_succ, List.set_cons_zero]; exact rfl) ?_
  refine wpList_nil ?_
  clear hT e1 e2
  go_upto_region 2 with (fail)
  refine wp_region_lit ?_
  refine seq_call rfl rfl (by kernel_rfl) (HH.out _) fun e w3 hR => ?_
  obtain ⟨gv, ra, rc, rfl, hT, -, e1⟩ := hR
  refine ⟨_, _, rfl, (by simp only [List.set_cons_succ, List.set_cons_zero]; exact rfl), ?_⟩
  replace E := ext_same E (e1)
  refine seq_call rfl rfl (by kernel_rfl) (HM.out _ _ _ _ hT) fun e w4 hR => ?_
  obtain ⟨rfl, e2⟩ := hR
  refine ⟨_, _, rfl, (by simp only [List.set_cons_succ, List.set_cons_zero]; exact rfl), ?_⟩
  replace E := ext_same E (e2)
  refine seq_val rfl rfl (R_move (v := .tuple _) rfl rfl) (by simp only [List.set_cons_succ, List.set_cons_zero]; exact rfl) ?_
  refine seq_val rfl rfl (R_extract rfl rfl (get0)) (by simp only [List.set_cons_succ, List.set_cons_zero]; exact rfl) ?_
  refine seq_val rfl rfl (R_extract rfl rfl (getS (get0))) (by simp only [List.set_cons_succ, List.set_cons_zero]; exact rfl) ?_
  refine seq_new rfl rfl (R_alloc rfl Try.zeroValue23) (by simp only [List.set_cons_succ, List.set_cons_zero]; exact rfl) fun w5 hw => ?_
  obtain ⟨n3, hn⟩ : ∃ n, n = w4.heap.size := ⟨_, rfl⟩
  rw [← hn]
  have l3 : w.heap.size ≤ n3 := by rw [hn]; exact E.size
  have q3 := new_row hw hn
  replace E := ext_alloc E hw
  clear hw hn
  refine seq_to rfl rfl (R_storeRow rfl rfl rfl (by kernel_rfl) (by simp [Value.oneCell']) q3 rfl) fun w6 hw => ?_
  replace q3 := put_row hw q3 rfl
  replace E := ext_cells E hw (fun h => by first | exact absurd h (by omega) | simp)
  clear hw
  refine seq_val rfl rfl (R_assign (v := .int .i64 _) rfl rfl) (by simp only [List.set_cons_succ, List.set_cons_zero]; exact rfl) ?_
  refine wpList_nil ?_
  clear hT e1 e2
  go_upto_region 3 with (fail)
  refine wp_region_lit ?_
  refine seq_call rfl rfl (by kernel_rfl) (HH.out _) fun e w7 hR => ?_
  obtain ⟨gv, ra, rc, rfl, hT, -, e1⟩ := hR
  refine ⟨_, _, rfl, (by simp only [List.set_cons_succ, List.set_cons_zero]; exact rfl), ?_⟩
  replace q3 := (e1).keep0 q3
  replace E := ext_same E (e1)
  refine seq_call rfl rfl (by kernel_rfl) (HP.out _ _ _ _ hT) fun e w8 hR => ?_
  obtain ⟨rfl, e2⟩ := hR
  refine ⟨_, _, rfl, (by simp only [List.set_cons_succ, List.set_cons_zero]; exact rfl), ?_⟩
  replace q3 := (e2).keep0 q3
  replace E := ext_same E (e2)
  refine seq_val rfl rfl (R_move (v := .tuple _) rfl rfl) (by simp only [List.set_cons_succ, List.set_cons_zero]; exact rfl) ?_
  refine seq_val rfl rfl (R_extract rfl rfl (get0)) (by simp only [List.set_cons_succ, List.set_cons_zero]; exact rfl) ?_
  refine seq_val rfl rfl (R_extract rfl rfl (getS (get0))) (by simp only [List.set_cons_succ, List.set_cons_zero]; exact rfl) ?_
  refine seq_new rfl rfl (R_alloc rfl Try.zeroValue23) (by simp only [List.set_cons_succ, List.set_cons_zero]; exact rfl) fun w9 hw => ?_
  obtain ⟨n5, hn⟩ : ∃ n, n = w8.heap.size := ⟨_, rfl⟩
  rw [← hn]
  have l5 : w.heap.size ≤ n5 := by rw [hn]; exact E.size
  have m5_3 : n3 < n5 := by rw [hn]; exact blk_lt q3
  replace q3 := keep_alloc hw q3
  have q5 := new_row hw hn
  replace E := ext_alloc E hw
  clear hw hn
  refine seq_to rfl rfl (R_storeRow rfl rfl rfl (by kernel_rfl) (by simp [Value.oneCell']) q5 rfl) fun w10 hw => ?_
  replace q3 := keep_cells hw q3 (by omega)
  replace q5 := put_row hw q5 rfl
  replace E := ext_cells E hw (fun h => by first | exact absurd h (by omega) | simp)
  clear hw
  refine seq_val rfl rfl (R_assign (v := .int .i64 _) rfl rfl) (by simp only [List.set_cons_succ, List.set_cons_zero]; exact rfl) ?_
  refine wpList_nil ?_
  clear hT e1 e2
  go_upto_region 4 with (fail)
  refine wp_region_lit ?_
  refine seq_call rfl rfl (by kernel_rfl) (HH.out _) fun e w11 hR => ?_
  obtain ⟨gv, ra, rc, rfl, hT, -, e1⟩ := hR
  refine ⟨_, _, rfl, (by simp only [List.set_cons_succ, List.set_cons_zero]; exact rfl), ?_⟩
  replace q3 := (e1).keep0 q3
  replace q5 := (e1).keep0 q5
  replace E := ext_same E (e1)
  refine seq_call rfl rfl (by kernel_rfl) (HA.out _ _ _ _ hT) fun e w12 hR => ?_
  obtain ⟨rfl, e2⟩ := hR
  refine ⟨_, _, rfl, (by simp only [List.set_cons_succ, List.set_cons_zero]; exact rfl), ?_⟩
  replace q3 := (e2).keep0 q3
  replace q5 := (e2).keep0 q5
  replace E := ext_same E (e2)
  refine seq_val rfl rfl (R_move (v := .tuple _) rfl rfl) (by simp only [List.set_cons_succ, List.set_cons_zero]; exact rfl) ?_
  refine seq_val rfl rfl (R_extract rfl rfl (get0)) (by simp only [List.set_cons_succ, List.set_cons_zero]; exact rfl) ?_
  refine seq_val rfl rfl (R_extract rfl rfl (getS (get0))) (by simp only [List.set_cons_succ, List.set_cons_zero]; exact rfl) ?_
  refine seq_new rfl rfl (R_alloc rfl Try.zeroValue23) (by simp only [List.set_cons_succ, List.set_cons_zero]; exact rfl) fun w13 hw => ?_
  obtain ⟨n7, hn⟩ : ∃ n, n = w12.heap.size := ⟨_, rfl⟩
  rw [← hn]
  have l7 : w.heap.size ≤ n7 := by rw [hn]; exact E.size
  have m7_3 : n3 < n7 := by rw [hn]; exact blk_lt q3
  have m7_5 : n5 < n7 := by rw [hn]; exact blk_lt q5
  replace q3 := keep_alloc hw q3
  replace q5 := keep_alloc hw q5
  have q7 := new_row hw hn
  replace E := ext_alloc E hw
  clear hw hn
  refine seq_to rfl rfl (R_storeRow rfl rfl rfl (by kernel_rfl) (by simp [Value.oneCell']) q7 rfl) fun w14 hw => ?_
  replace q3 := keep_cells hw q3 (by omega)
  replace q5 := keep_cells hw q5 (by omega)
  replace q7 := put_row hw q7 rfl
  replace E := ext_cells E hw (fun h => by first | exact absurd h (by omega) | simp)
  clear hw
  refine seq_val rfl rfl (R_assign (v := .int .i64 _) rfl rfl) (by simp only [List.set_cons_succ, List.set_cons_zero]; exact rfl) ?_
  refine wpList_nil ?_
  clear hT e1 e2
  go_upto_region 5 with (fail)
  refine wp_region_lit ?_
  refine seq_call rfl rfl (by kernel_rfl) (reading_any 0 0 1 99 _) fun e w15 hR => ?_
  obtain ⟨rfl, e0⟩ := hR
  refine ⟨_, _, rfl, (by simp only [List.set_cons_succ, List.set_cons_zero]; exact rfl), ?_⟩
  replace q3 := (e0).keep0 q3
  replace q5 := (e0).keep0 q5
  replace q7 := (e0).keep0 q7
  replace E := ext_same E (e0)
  refine seq_new rfl rfl (R_buildSlice rfl Try.underlying25 (size := 4) (by kernel_rfl) (by decide) (by decide) Try.zeroValue66 (cells := #[.int .i64 0, .int .i64 0, .int .i64 1, .int .i64 99]) (by kernel_rfl)) (by simp only [List.set_cons_succ, List.set_cons_zero]; exact rfl) fun w16 hw => ?_
  obtain ⟨n36, hn⟩ : ∃ n, n = w15.heap.size := ⟨_, rfl⟩
  rw [← hn]
  have l36 : w.heap.size ≤ n36 := by rw [hn]; exact E.size
  have m36_3 : n3 < n36 := by rw [hn]; exact blk_lt q3
  have m36_5 : n5 < n36 := by rw [hn]; exact blk_lt q5
  have m36_7 : n7 < n36 := by rw [hn]; exact blk_lt q7
  replace q3 := keep_alloc hw q3
  replace q5 := keep_alloc hw q5
  replace q7 := keep_alloc hw q7
  have q36 := new_block hw hn
  replace E := ext_alloc E hw
  clear hw hn
  refine seq_call rfl rfl (by kernel_rfl) (house1_any n36 _ q36) fun e w17 hR => ?_
  obtain ⟨gv, ra, rc, rfl, hT, -, e1⟩ := hR
  refine ⟨_, _, rfl, (by simp only [List.set_cons_succ, List.set_cons_zero]; exact rfl), ?_⟩
  replace q3 := (e1).keep0 q3
  replace q5 := (e1).keep0 q5
  replace q7 := (e1).keep0 q7
  replace q36 := (e1).keep0 q36
  replace E := ext_same E (e1)
  refine seq_call rfl rfl (by kernel_rfl) (HR.out _ _ _ _ hT) fun e w18 hR => ?_
  obtain ⟨la, lc, rfl, hrows, e2⟩ := hR
  refine ⟨_, _, rfl, (by simp only [List.set_cons_succ, List.set_cons_zero]; exact rfl), ?_⟩
  replace q3 := (e2).keep0 q3
  replace q5 := (e2).keep0 q5
  replace q7 := (e2).keep0 q7
  replace q36 := (e2).keep0 q36
  replace E := ext_same E (e2)
  have E2 : Ext [] w18 w18 := Ext.refl _ _
  refine seq_val rfl rfl (R_move (v := .tuple _) rfl rfl) (by simp only [List.set_cons_succ, List.set_cons_zero]; exact rfl) ?_
  refine seq_val rfl rfl (R_extract rfl rfl (get0)) (by simp only [List.set_cons_succ, List.set_cons_zero]; exact rfl) ?_
  refine seq_val rfl rfl (R_extract rfl rfl (getS (get0))) (by simp only [List.set_cons_succ, List.set_cons_zero]; exact rfl) ?_
  refine seq_val rfl rfl (R_assign (v := .slice _ _ _) rfl rfl) (by simp only [List.set_cons_succ, List.set_cons_zero]; exact rfl) ?_
  refine seq_val rfl rfl (R_assign (v := .int .i64 _) rfl rfl) (by simp only [List.set_cons_succ, List.set_cons_zero]; exact rfl) ?_
  refine wpList_nil ?_
  clear hT e1 e2 e0
  go_upto_region 6 with (fail)
  refine wp_region_lit ?_
  refine seq_call rfl rfl (by kernel_rfl) (alone_any _) fun e w19 hR => ?_
  obtain ⟨gv, rfl, hT, e1⟩ := hR
  refine ⟨_, _, rfl, (by simp only [List.set_cons_succ, List.set_cons_zero]; exact rfl), ?_⟩
  replace q3 := (e1).keep0 q3
  replace q5 := (e1).keep0 q5
  replace q7 := (e1).keep0 q7
  replace q36 := (e1).keep0 q36
  replace E2 := ext_same E2 (e1)
  replace E := ext_same E (e1)
  refine seq_call rfl rfl (by kernel_rfl) (HN.out _ _ hT) fun e w20 hR => ?_
  obtain ⟨rfl, e2⟩ := hR
  refine ⟨_, _, rfl, (by simp only [List.set_cons_succ, List.set_cons_zero]; exact rfl), ?_⟩
  replace q3 := (e2).keep0 q3
  replace q5 := (e2).keep0 q5
  replace q7 := (e2).keep0 q7
  replace q36 := (e2).keep0 q36
  replace E2 := ext_same E2 (e2)
  replace E := ext_same E (e2)
  refine seq_val rfl rfl (R_move (v := .tuple _) rfl rfl) (by simp only [List.set_cons_succ, List.set_cons_zero]; exact rfl) ?_
  refine seq_val rfl rfl (R_extract rfl rfl (get0)) (by simp only [List.set_cons_succ, List.set_cons_zero]; exact rfl) ?_
  refine seq_val rfl rfl (R_extract rfl rfl (getS (get0))) (by simp only [List.set_cons_succ, List.set_cons_zero]; exact rfl) ?_
  refine seq_val rfl rfl (R_extract rfl rfl (getS (getS (get0)))) (by simp only [List.set_cons_succ, List.set_cons_zero]; exact rfl) ?_
  refine seq_val rfl rfl (R_assign (v := .int .i64 _) rfl rfl) (by simp only [List.set_cons_succ, List.set_cons_zero]; exact rfl) ?_
  refine seq_val rfl rfl (R_assign (v := .int .i64 _) rfl rfl) (by simp only [List.set_cons_succ, List.set_cons_zero]; exact rfl) ?_
  refine seq_val rfl rfl (R_assign (v := .int .i64 _) rfl rfl) (by simp only [List.set_cons_succ, List.set_cons_zero]; exact rfl) ?_
  refine wpList_nil ?_
  clear hT e1 e2
  have hr2 := hrows.ext E2 (by simp)
  clear hrows
  have c3_0 := (cells_of_block q3 0).trans rfl
  have c3_1 := (cells_of_block q3 1).trans rfl
  have c5_0 := (cells_of_block q5 0).trans rfl
  have c5_1 := (cells_of_block q5 1).trans rfl
  have c7_0 := (cells_of_block q7 0).trans rfl
  have c7_1 := (cells_of_block q7 1).trans rfl
  go_wp2_with (go_at_call 50; refine (HS.out la _ lc 2 _ (hr2.ext ((Ext.refl [] _).alloc _) (by simp)) (rows_lit [0, 4] 2 (blk_new rfl))).mono ?_; clear HS; rintro e w' ⟨rfl, e5⟩)
  go_ret
  exact ⟨rfl, (E.alloc _).nil e5⟩
end Go.Proofs.Ytholfdgebdlgjaa
