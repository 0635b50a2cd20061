/- The walks of set.list and of Ring. Conditions: lists of at most 1000. -/
import Derived.Test.YtholfdgebdlgjaaOwn
import Derived.Test.YtholfdgebdlgjaaFnd
import Derived.Test.YtholfdgebdlgjaaMea
import Derived.Laws.BitsAllLaws
namespace Go.Proofs.Ytholfdgebdlgjaa
open Go.RowKit
set_option linter.unusedVariables false
set_option linter.unusedSimpArgs false
/-- The readings of a set, ascending. -/
def listTo (s : Int) (k : Nat) : List Int := ((List.range k).filter (hasB s)).map Int.ofNat
theorem listTo_yes {s : Int} {k : Nat} (h : hasB s k = true) : listTo s (k + 1) = listTo s k ++ [(k : Int)] := by
  simp [listTo, List.range_succ, List.filter_append, h]
theorem listTo_no {s : Int} {k : Nat} (h : hasB s k = false) : listTo s (k + 1) = listTo s k := by
  simp [listTo, List.range_succ, List.filter_append, h]
theorem listTo_len (s : Int) (k : Nat) : (listTo s k).length ≤ k := by
  unfold listTo
  rw [List.length_map]
  exact Nat.le_trans (List.length_filter_le _ _) (by simp)
def flatI (xs : List Int) : List Value := (xs.map intRow).flatten
theorem flatI_snoc (xs : List Int) (x : Int) : flatI (xs ++ [x]) = flatI xs ++ [.int .i64 x] := by simp [flatI, intRow]
set_option maxRecDepth 100000 in
set_option maxHeartbeats 2000000 in
theorem list_any (s : Int) (w : World) (h1 : 0 ≤ s) (h2 : s < 65536) :
    Calls Try.prog 113 #[.int .u16 s] w fun e w' => ∃ a cap, e = .returned (.slice a (listTo s 8).length cap) ∧ IsRows w' (.slice a (listTo s 8).length cap) 1 ((listTo s 8).map intRow) ∧ Ext [] w w' := by
  have E : Ext [] w w := Ext.refl _ _
  go_enter Try.func113, Try.ntmps113
  go_wp2_with fail
  go_loopw [5, 3] (fun iv v wr => ∃ k : Nat, k ≤ 8 ∧ iv = .int .i64 k ∧ wr.ownsRow w.heap.size 3 1 v (listTo s k).length (flatI (listTo s k)) ∧ Ext [] w wr) (fun iv _ _ => 8 - (intOf iv).toNat)
  case atStart => exact ⟨0, Nat.zero_le _, rfl, World.ownsRow_nil _ _ _ _, E⟩
  case round =>
    clear E
    obtain ⟨k, hk, rfl, ho, E⟩ := hrel
    obtain ⟨sa, sc, rfl⟩ := owns_slice ho
    by_cases hlt : (k : Int) < 8
    · have hc := has_any s k wr h1 h2 (by omega) (by omega)
      rw [Int.toNat_natCast] at hc
      cases hh : hasB s k
      · rw [hh] at hc
        have H1 := Lib.hid (listTo_no hh)
        go_wp2_with (go_at_call 126; refine hc.mono ?_; clear hc; rintro e w2 ⟨rfl, rfl⟩)
        go_roundw
        case rel => exact ⟨k + 1, by omega, by go_num, by rw [H1.out]; exact ho, E⟩
        case measure => simp [intOf]; omega
      · rw [hh] at hc
        have H1 := Lib.hid (listTo_yes hh)
        have hlen := listTo_len s k
        go_upto_region 6 with (go_at_call 126; refine hc.mono ?_; clear hc; rintro e w2 ⟨rfl, rfl⟩)
        refine wp_region_lit ?_
        refine seq_val rfl rfl (R_move (v := .slice _ _ _) rfl rfl) (by simp only [List.set_cons_succ, List.set_cons_zero]; exact rfl) ?_
        refine seq_val rfl rfl (R_move (v := .int .i64 _) rfl rfl) (by simp only [List.set_cons_succ, List.set_cons_zero]; exact rfl) ?_
        refine seq_new rfl rfl (R_buildSlice rfl Try.underlying29 (size := 1) (by kernel_rfl) (by decide) (by decide) Try.zeroValue3 (cells := #[.int .i64 k]) (by kernel_rfl)) (by simp only [List.set_cons_succ, List.set_cons_zero]; exact rfl) fun w1 hw => ?_
        obtain ⟨n13, hn⟩ : ∃ n, n = wr.heap.size := ⟨_, rfl⟩
        rw [← hn]
        have l13 : w.heap.size ≤ n13 := by rw [hn]; exact E.size
        replace ho := owns_alloc hw ho
        have q13 := new_block hw hn
        replace E := ext_alloc E hw
        clear hw hn
        refine seq_append rfl rfl rfl (w.heap.size) (e := 3) (size := 1) (bytes := 8) Try.underlying29 (by kernel_rfl) (by decide) rfl ho rfl q13 rfl (by simp [Value.oneCell']) (by omega) (by omega) (by have := E.size; omega) fun v' w2 hown' hg => ?_
        obtain ⟨va14, vc14, rfl⟩ := owns_slice hown'
        refine ⟨_, (by simp only [List.set_cons_succ, List.set_cons_zero]; exact rfl), ?_⟩
        replace E := ext_append E ho hg (by omega)
        replace ho := hown'
        clear hg
        refine seq_val rfl rfl (R_assign (v := .slice _ _ _) rfl rfl) (by simp only [List.set_cons_succ, List.set_cons_zero]; exact rfl) ?_
        refine wpList_nil ?_
        go_wp2
        go_roundw
        case rel => exact ⟨k + 1, by omega, by go_num, by rw [H1.out, flatI_snoc, List.length_append]; exact ho, E⟩
        case measure => simp [intOf]; omega
    · obtain rfl : k = 8 := by omega
      go_wp2
      go_ret
      exact ⟨sa, sc, rfl, rows_of_owns ho (fun _ => rfl), E⟩
theorem grow_lt (many : Nat) (hm : many ≤ 15) : ∀ (more s from_ : Nat), s < 65536 → ∀ x ∈ growL many more s from_, x < 65536
  | 0, s, _, hs, x, hx => by simp [growL] at hx; omega
  | more + 1, s, from_, hs, x, hx => by
    simp only [growL, List.mem_flatMap, List.mem_range] at hx
    obtain ⟨k, hk, hx⟩ := hx
    exact grow_lt many hm more _ _ (or_lt16 hs (by omega)) x hx
theorem sets_lt {many : Nat} (hm : many ≤ 15) {x : Nat} (hx : x ∈ setsL many) : x < 65536 := by
  simp only [setsL, List.mem_flatMap, List.mem_range] at hx
  obtain ⟨k, hk, hx⟩ := hx
  exact grow_lt many hm k 0 0 (by omega) x hx
/-- All but some. -/
def outN (all s : Nat) : Nat := all &&& (65535 - s)
theorem outN_lt {all s : Nat} (h : all < 65536) : outN all s < 65536 := Nat.lt_of_le_of_lt Nat.and_le_left h
theorem R_andNot16 {P : Program} {ρ : Operand → Value} {o : Oper} {w : World} {x y : Operand} {t t' : TypeId} {a b : Nat} (ho : o.op = .binOp .andNot t x y t') (hx : ρ x = .int .u16 a) (hy : ρ y = .int .u16 b) (ha : a < 65536) (hb : b < 65536) :
    (execOp ρ o).run P w = .ok (.value (.int .u16 (outN a b : Nat))) w := by
  rw [R_andNot ho hx hy, u16_andNot_nat a b ha hb]; rfl
set_option maxRecDepth 100000 in
set_option maxHeartbeats 2000000 in
theorem ring1_any (t : Tp) (ok : t.Ok) (gv rv lv : Value) (b1 b2 all x : Nat) (w : World) (ht : IsTp w gv rv lv t) (h1 : w.heap[b1]? = some (.cells (tpCells t gv rv lv) 100 (0, 0))) (h2 : w.heap[b2]? = some (.cells #[.int .u16 all] 109 (0, 0))) (ha : all < 65536) (hx : x < 65536) :
    Calls Try.prog 112 #[.int .u16 x, .pointer (some ⟨b1, 0, none⟩), .pointer (some ⟨b2, 0, none⟩)] w fun e w' => e = .returned (.bool (!bdB t (outN all x))) ∧ Ext [] w w' := by
  have HS : Hid (∀ W : World, Ext [] w W → Calls Try.prog 80 #[tpV t gv rv lv, .int .u16 (outN all x : Nat)] W fun e w' => e = .returned (.tuple #[.agg (matCells (bdV t (outN all x : Nat))), .bool (bdB t (outN all x : Nat))]) ∧ Ext [] W w') :=
    fun W e => solve_v t ok gv rv lv (outN all x : Nat) (by omega) (by have := outN_lt (s := x) ha; omega) W (ht.ext e (by simp))
  clear ht
  obtain ⟨m, hm⟩ : ∃ m, m = bdV t (outN all x : Nat) := ⟨_, rfl⟩
  obtain ⟨b, hb⟩ : ∃ b, b = bdB t (outN all x : Nat) := ⟨_, rfl⟩
  rw [← hm, ← hb] at HS
  rw [← hb]
  clear hm hb
  have E : Ext [] w w := Ext.refl _ _
  unfold tpV at HS
  unfold tpCells at h1
  go_enter Try.func112, Try.ntmps112
  go_upto_region 1 with (fail)
  refine wp_region_lit ?_
  refine seq_val rfl rfl (R_loadBlk rfl rfl Try.underlying100 rfl (by kernel_rfl) h1) (by simp only [List.set_cons_succ, List.set_cons_zero]; exact rfl) ?_
  refine seq_val rfl rfl (R_load rfl rfl Try.underlying109 rfl ((cells_of_block h2 0).trans (get0))) (by simp only [List.set_cons_succ, List.set_cons_zero]; exact rfl) ?_
  refine seq_val rfl rfl (R_move (v := .int .u16 _) rfl rfl) (by simp only [List.set_cons_succ, List.set_cons_zero]; exact rfl) ?_
  refine seq_val rfl rfl (R_andNot16 rfl rfl rfl ha hx) (by simp only [List.set_cons_succ, List.set_cons_zero]; exact rfl) ?_
  refine seq_call rfl rfl (by kernel_rfl) (HS.out _ E) fun e w1 hR => ?_
  obtain ⟨rfl, e1⟩ := hR
  refine ⟨_, _, rfl, (by simp only [List.set_cons_succ, List.set_cons_zero]; exact rfl), ?_⟩
  replace h1 := (e1).keep0 h1
  replace h2 := (e1).keep0 h2
  replace E := ext_same E (e1)
  refine seq_val rfl rfl (R_move (v := .tuple _) rfl rfl) (by simp only [List.set_cons_succ, List.set_cons_zero]; exact rfl) ?_
  refine seq_val rfl rfl (R_extract rfl rfl (get0)) (by simp only [List.set_cons_succ, List.set_cons_zero]; exact rfl) ?_
  refine seq_val rfl rfl (R_extract rfl rfl (getS (get0))) (by simp only [List.set_cons_succ, List.set_cons_zero]; exact rfl) ?_
  refine seq_new rfl rfl (R_alloc rfl Try.zeroValue105) (by simp only [List.set_cons_succ, List.set_cons_zero]; exact rfl) fun w2 hw => ?_
  obtain ⟨n5, hn⟩ : ∃ n, n = w1.heap.size := ⟨_, rfl⟩
  rw [← hn]
  have l5 : w.heap.size ≤ n5 := by rw [hn]; exact E.size
  have m5_1 : b1 < n5 := by rw [hn]; exact blk_lt h1
  have m5_2 : b2 < n5 := by rw [hn]; exact blk_lt h2
  replace h1 := keep_alloc hw h1
  replace h2 := keep_alloc hw h2
  have q5 := new_row hw hn
  replace E := ext_alloc E hw
  clear hw hn
  refine seq_to rfl rfl (R_storeRow rfl rfl rfl (by rw [matCells_size]; kernel_rfl) (by rw [← matList_toArray]; exact all_oneCell_toArray (matList_one _)) q5 (by show Try.zeroCells105.size = _; rw [Try.zeroCells105_size, matCells_size])) fun w3 hw => ?_
  replace h1 := keep_cells hw h1 (by omega)
  replace h2 := keep_cells hw h2 (by omega)
  replace q5 := put_row hw q5 (by show Try.zeroCells105.size = _; rw [Try.zeroCells105_size, matCells_size])
  replace E := ext_cells E hw (fun h => by first | exact absurd h (by omega) | simp)
  clear hw
  refine seq_val rfl rfl (R_assign (v := .bool _) rfl rfl) (by simp only [List.set_cons_succ, List.set_cons_zero]; exact rfl) ?_
  refine wpList_nil ?_
  clear e1
  go_wp2
  go_ret
  exact ⟨rfl, E⟩
theorem full_nat (n : Nat) (w : World) (h : n < 16) :
    Calls Try.prog 109 #[.int .i64 n] w fun e w' => e = .returned (.int .u16 ((2 ^ n - 1 : Nat) : Int)) ∧ w = w' := by
  refine (full_any n w (by omega) (by omega)).mono fun e w' hh => ⟨hh.1.trans (ret_int ?_), hh.2⟩
  rw [Int.toNat_natCast]
  have := Nat.two_pow_pos n
  rw [Int.natCast_sub (by omega)]; simp
/-- The first set of readings that alone leave no truth. -/
def ringR (t : Tp) : Option Nat := (setsL t.rd.length).find? fun x => !bdB t (outN (2 ^ t.rd.length - 1) x)
def ringE (t : Tp) : Int := if checkE t ≠ 0 then checkE t else if (ringR t).isSome then 0 else 11
def ringL (t : Tp) : List Int := if checkE t ≠ 0 then [] else if (ringR t).isSome then listTo ((ringR t).getD 0) 8 else []
set_option maxRecDepth 100000 in
set_option maxHeartbeats 2000000 in
theorem ring_any (t : Tp) (gv rv lv : Value) (w : World) (ht : IsTp w gv rv lv t) (hl1 : t.gr.length ≤ 1000) (hl2 : t.rd.length ≤ 1000) (hl3 : t.lk.length ≤ 1000) :
    Calls Try.prog 47 #[tpV t gv rv lv] w fun e w' => ∃ a cap, e = .returned (.tuple #[.slice a (ringL t).length cap, .int .i64 (ringE t)]) ∧ IsRows w' (.slice a (ringL t).length cap) 1 ((ringL t).map intRow) ∧ Ext [] w w' := by
  have hone := tp_one ht
  obtain ⟨ra, rcap, hrv⟩ := rows_len ht.rd
  have HK : Hid (∀ W : World, Ext [] w W → Calls Try.prog 79 #[tpV t gv rv lv, .slice none 0 0, .slice none 0 0, .slice none 0 0] W fun e w' => e = .returned (.tuple #[.agg (openV t noX gv rv lv), .int .i64 (openE t noX)]) ∧ Ext [] W w') :=
    fun W e => open_any t gv rv lv noX (fun _ => none) (fun _ => 0) W (ht.ext e (by simp)) hl1 hl2 hl3 (fun i hi => rows_nil _ _ _) (fun i hi => by simp [noX])
  have E : Ext [] w w := Ext.refl _ _
  rw [open_noX] at HK
  by_cases h : checkE t = 0
  · obtain ⟨ok, h8⟩ := checkE_zero.1 h
    rw [openV_ok ((open_noX t).trans h), h] at HK
    rw [show ringE t = if (ringR t).isSome then 0 else 11 by rw [ringE, if_neg (by simpa using h)], show ringL t = if (ringR t).isSome then listTo ((ringR t).getD 0) 8 else [] by rw [ringL, if_neg (by simpa using h)]]
    have hpw : 2 ^ t.rd.length - 1 < 65536 := by
      have := Nat.pow_le_pow_right (n := 2) (by decide) (show t.rd.length ≤ 16 by omega)
      omega
    have HF : Hid (∀ (W : World) (mb b1 b2 : Nat), Ext [] w W → W.heap[mb]? = some (.cells #[.int .i64 t.rd.length] 3 (0, 0)) → W.heap[b1]? = some (.cells (tpCells t gv rv lv) 100 (0, 0)) → W.heap[b2]? = some (.cells #[.int .u16 ((2 ^ t.rd.length - 1 : Nat) : Int)] 109 (0, 0)) →
        Calls Try.prog 110 #[.func (.func 138) #[] #[.pointer (some ⟨mb, 0, none⟩)], .func (.func 112) #[] #[.pointer (some ⟨b1, 0, none⟩), .pointer (some ⟨b2, 0, none⟩)]] W fun e w' => e = .returned (.tuple #[.int .u16 ((ringR t).getD 0 : Nat), .bool (ringR t).isSome]) ∧ Ext [] W w') :=
      fun W mb b1 b2 e h1 h2 h3 => find_ring t.rd.length mb (by omega) b1 b2 _ W h1 fun x W2 hx e2 => ring1_any t ok gv rv lv b1 b2 _ x W2 (ht.ext (e.nil e2) (by simp)) (e2.keep0 h2) (e2.keep0 h3) hpw hx
    have hR : ∀ s, ringR t = some s → s < 65536 := fun s hs => sets_lt (many := t.rd.length) (by omega) (List.mem_of_find?_eq_some hs)
    clear h ht ok
    subst hrv
    cases hrr : ringR t with
    | none =>
      rw [hrr] at HF
      simp only [Option.isSome_none, Bool.false_eq_true, if_false, Option.getD_none]
      simp only [Option.isSome_none, Option.getD_none] at HF
      clear hR hrr
      unfold tpCells at HK HF
      unfold tpV at HK ⊢
      go_enter Try.func47, Try.ntmps47
      go_upto_region 0 with (fail)
      refine wp_region_lit ?_
      refine seq_new rfl rfl (R_box (v := .agg _) rfl rfl) (by simp only [List.set_cons_succ, List.set_cons_zero]; exact rfl) fun w1 hw => ?_
      obtain ⟨n1, hn⟩ : ∃ n, n = w.heap.size := ⟨_, rfl⟩
      rw [← hn]
      have l1 : w.heap.size ≤ n1 := by rw [hn]; exact E.size
      have q1 := new_row hw hn
      replace E := ext_alloc E hw
      clear hw hn
      refine seq_val rfl rfl (R_assign (v := .slice _ _ _) rfl rfl) (by simp only [List.set_cons_succ, List.set_cons_zero]; exact rfl) ?_
      refine seq_val rfl rfl (R_assign (v := .int .i64 _) rfl rfl) (by simp only [List.set_cons_succ, List.set_cons_zero]; exact rfl) ?_
      refine wpList_nil ?_
      go_upto_region 1 with (fail)
      refine wp_region_lit ?_
      refine seq_val rfl rfl (R_loadBlk rfl rfl Try.underlying28 rfl (by kernel_rfl) q1) (by simp only [List.set_cons_succ, List.set_cons_zero]; exact rfl) ?_
      refine seq_call rfl rfl (by kernel_rfl) (HK.out _ E) fun e w2 hR => ?_
      obtain ⟨rfl, e1⟩ := hR
      refine ⟨_, _, rfl, (by simp only [List.set_cons_succ, List.set_cons_zero]; exact rfl), ?_⟩
      replace q1 := (e1).keep0 q1
      replace E := ext_same E (e1)
      refine seq_val rfl rfl (R_move (v := .tuple _) rfl rfl) (by simp only [List.set_cons_succ, List.set_cons_zero]; exact rfl) ?_
      refine seq_val rfl rfl (R_extract rfl rfl (get0)) (by simp only [List.set_cons_succ, List.set_cons_zero]; exact rfl) ?_
      refine seq_val rfl rfl (R_extract rfl rfl (getS (get0))) (by simp only [List.set_cons_succ, List.set_cons_zero]; exact rfl) ?_
      refine seq_new rfl rfl (R_alloc rfl Try.zeroValue100) (by simp only [List.set_cons_succ, List.set_cons_zero]; exact rfl) fun w3 hw => ?_
      obtain ⟨n4, hn⟩ : ∃ n, n = w2.heap.size := ⟨_, rfl⟩
      rw [← hn]
      have l4 : w.heap.size ≤ n4 := by rw [hn]; exact E.size
      have m4_1 : n1 < n4 := by rw [hn]; exact blk_lt q1
      replace q1 := keep_alloc hw q1
      have q4 := new_row hw hn
      replace E := ext_alloc E hw
      clear hw hn
      refine seq_to rfl rfl (R_storeRow rfl rfl rfl (by kernel_rfl) (tp_cells_one hone) q4 rfl) fun w4 hw => ?_
      replace q1 := keep_cells hw q1 (by omega)
      replace q4 := put_row hw q4 rfl
      replace E := ext_cells E hw (fun h => by first | exact absurd h (by omega) | simp)
      clear hw
      refine seq_val rfl rfl (R_assign (v := .int .i64 _) rfl rfl) (by simp only [List.set_cons_succ, List.set_cons_zero]; exact rfl) ?_
      refine wpList_nil ?_
      clear e1
      go_upto_region 4 with (fail)
      refine wp_region_lit ?_
      refine seq_val rfl rfl (R_field rfl rfl Try.underlying28 rfl (n := 9) (sz := 1) rfl (by kernel_rfl) (by decide)) (by simp only [List.set_cons_succ, List.set_cons_zero]; exact rfl) ?_
      refine seq_val rfl rfl (R_load rfl rfl Try.underlying25 rfl ((cells_of_block q1 9).trans (getS (getS (getS (getS (getS (getS (getS (getS (getS (get0)))))))))))) (by simp only [List.set_cons_succ, List.set_cons_zero]; exact rfl) ?_
      refine seq_val rfl rfl (R_len rfl rfl rfl Try.underlying25) (by simp only [List.set_cons_succ, List.set_cons_zero]; exact rfl) ?_
      refine seq_call rfl rfl (by kernel_rfl) (full_nat t.rd.length _ (by omega)) fun e w' hR => ?_
      obtain ⟨rfl, rfl⟩ := hR
      refine ⟨_, _, rfl, (by simp only [List.set_cons_succ, List.set_cons_zero]; exact rfl), ?_⟩
      refine seq_new rfl rfl (R_alloc rfl Try.zeroValue109) (by simp only [List.set_cons_succ, List.set_cons_zero]; exact rfl) fun w5 hw => ?_
      obtain ⟨n6, hn⟩ : ∃ n, n = w4.heap.size := ⟨_, rfl⟩
      rw [← hn]
      have l6 : w.heap.size ≤ n6 := by rw [hn]; exact E.size
      have m6_1 : n1 < n6 := by rw [hn]; exact blk_lt q1
      have m6_4 : n4 < n6 := by rw [hn]; exact blk_lt q4
      replace q1 := keep_alloc hw q1
      replace q4 := keep_alloc hw q4
      have q6 := new_one hw rfl hn
      replace E := ext_alloc E hw
      clear hw hn
      refine seq_to rfl rfl (R_store (v := .int .u16 _) rfl rfl rfl rfl (by kernel_rfl) ((cells_of_block q6 0).trans rfl) (free_of_block q6 0)) fun w6 hw => ?_
      replace q1 := keep_cell hw q1 (by omega)
      replace q4 := keep_cell hw q4 (by omega)
      replace q6 := put_cell hw q6 (by simp only [List.setIfInBounds_toArray, List.set_cons_succ, List.set_cons_zero]; exact rfl)
      replace E := ext_cell E hw (fun h => by first | exact absurd h (by omega) | simp)
      clear hw
      refine wpList_nil ?_
      go_upto_region 5 with (fail)
      refine wp_region_lit ?_
      refine seq_val rfl rfl (R_field rfl rfl Try.underlying28 rfl (n := 9) (sz := 1) rfl (by kernel_rfl) (by decide)) (by simp only [List.set_cons_succ, List.set_cons_zero]; exact rfl) ?_
      refine seq_val rfl rfl (R_load rfl rfl Try.underlying25 rfl ((cells_of_block q1 9).trans (getS (getS (getS (getS (getS (getS (getS (getS (getS (get0)))))))))))) (by simp only [List.set_cons_succ, List.set_cons_zero]; exact rfl) ?_
      refine seq_val rfl rfl (R_len rfl rfl rfl Try.underlying25) (by simp only [List.set_cons_succ, List.set_cons_zero]; exact rfl) ?_
      refine seq_call rfl rfl (by kernel_rfl) (sets_any t.rd.length _) fun e w7 hR => ?_
      obtain ⟨mb, rfl, hmb, qm, e1⟩ := hR
      refine ⟨_, _, rfl, (by simp only [List.set_cons_succ, List.set_cons_zero]; exact rfl), ?_⟩
      replace q1 := (e1).keep0 q1
      replace q4 := (e1).keep0 q4
      replace q6 := (e1).keep0 q6
      replace E := ext_same E (e1)
      refine seq_val rfl rfl (R_makeFunc (us := #[]) (vs := #[.pointer (some ⟨n4, 0, none⟩), .pointer (some ⟨n6, 0, none⟩)]) rfl (by kernel_rfl) (by kernel_rfl)) (by simp only [List.set_cons_succ, List.set_cons_zero]; exact rfl) ?_
      refine seq_call rfl rfl (by kernel_rfl) (HF.out _ mb n4 n6 E qm q4 q6) fun e w8 hR => ?_
      obtain ⟨rfl, e2⟩ := hR
      refine ⟨_, _, rfl, (by simp only [List.set_cons_succ, List.set_cons_zero]; exact rfl), ?_⟩
      replace q1 := (e2).keep0 q1
      replace q4 := (e2).keep0 q4
      replace q6 := (e2).keep0 q6
      replace E := ext_same E (e2)
      refine seq_val rfl rfl (R_move (v := .tuple _) rfl rfl) (by simp only [List.set_cons_succ, List.set_cons_zero]; exact rfl) ?_
      refine seq_val rfl rfl (R_extract rfl rfl (get0)) (by simp only [List.set_cons_succ, List.set_cons_zero]; exact rfl) ?_
      refine seq_val rfl rfl (R_extract rfl rfl (getS (get0))) (by simp only [List.set_cons_succ, List.set_cons_zero]; exact rfl) ?_
      refine seq_val rfl rfl (R_assign (v := .int .u16 _) rfl rfl) (by simp only [List.set_cons_succ, List.set_cons_zero]; exact rfl) ?_
      refine seq_val rfl rfl (R_assign (v := .bool _) rfl rfl) (by simp only [List.set_cons_succ, List.set_cons_zero]; exact rfl) ?_
      refine wpList_nil ?_
      clear e1 e2
      go_wp2
      go_ret2
      exact ⟨none, 0, rfl, rows_nil _ _ _, E⟩
    | some s =>
      have hs := hR s hrr
      rw [hrr] at HF
      simp only [Option.isSome_some, if_true, Option.getD_some]
      simp only [Option.isSome_some, Option.getD_some] at HF
      clear hR hrr
      unfold tpCells at HK HF
      unfold tpV at HK ⊢
      go_enter Try.func47, Try.ntmps47
      go_upto_region 0 with (fail)
      refine wp_region_lit ?_
      refine seq_new rfl rfl (R_box (v := .agg _) rfl rfl) (by simp only [List.set_cons_succ, List.set_cons_zero]; exact rfl) fun w1 hw => ?_
      obtain ⟨n1, hn⟩ : ∃ n, n = w.heap.size := ⟨_, rfl⟩
      rw [← hn]
      have l1 : w.heap.size ≤ n1 := by rw [hn]; exact E.size
      have q1 := new_row hw hn
      replace E := ext_alloc E hw
      clear hw hn
      refine seq_val rfl rfl (R_assign (v := .slice _ _ _) rfl rfl) (by simp only [List.set_cons_succ, List.set_cons_zero]; exact rfl) ?_
      refine seq_val rfl rfl (R_assign (v := .int .i64 _) rfl rfl) (by simp only [List.set_cons_succ, List.set_cons_zero]; exact rfl) ?_
      refine wpList_nil ?_
      go_upto_region 1 with (fail)
      refine wp_region_lit ?_
      refine seq_val rfl rfl (R_loadBlk rfl rfl Try.underlying28 rfl (by kernel_rfl) q1) (by simp only [List.set_cons_succ, List.set_cons_zero]; exact rfl) ?_
      refine seq_call rfl rfl (by kernel_rfl) (HK.out _ E) fun e w2 hR => ?_
      obtain ⟨rfl, e1⟩ := hR
      refine ⟨_, _, rfl, (by simp only [List.set_cons_succ, List.set_cons_zero]; exact rfl), ?_⟩
      replace q1 := (e1).keep0 q1
      replace E := ext_same E (e1)
      refine seq_val rfl rfl (R_move (v := .tuple _) rfl rfl) (by simp only [List.set_cons_succ, List.set_cons_zero]; exact rfl) ?_
      refine seq_val rfl rfl (R_extract rfl rfl (get0)) (by simp only [List.set_cons_succ, List.set_cons_zero]; exact rfl) ?_
      refine seq_val rfl rfl (R_extract rfl rfl (getS (get0))) (by simp only [List.set_cons_succ, List.set_cons_zero]; exact rfl) ?_
      refine seq_new rfl rfl (R_alloc rfl Try.zeroValue100) (by simp only [List.set_cons_succ, List.set_cons_zero]; exact rfl) fun w3 hw => ?_
      obtain ⟨n4, hn⟩ : ∃ n, n = w2.heap.size := ⟨_, rfl⟩
      rw [← hn]
      have l4 : w.heap.size ≤ n4 := by rw [hn]; exact E.size
      have m4_1 : n1 < n4 := by rw [hn]; exact blk_lt q1
      replace q1 := keep_alloc hw q1
      have q4 := new_row hw hn
      replace E := ext_alloc E hw
      clear hw hn
      refine seq_to rfl rfl (R_storeRow rfl rfl rfl (by kernel_rfl) (tp_cells_one hone) q4 rfl) fun w4 hw => ?_
      replace q1 := keep_cells hw q1 (by omega)
      replace q4 := put_row hw q4 rfl
      replace E := ext_cells E hw (fun h => by first | exact absurd h (by omega) | simp)
      clear hw
      refine seq_val rfl rfl (R_assign (v := .int .i64 _) rfl rfl) (by simp only [List.set_cons_succ, List.set_cons_zero]; exact rfl) ?_
      refine wpList_nil ?_
      clear e1
      go_upto_region 4 with (fail)
      refine wp_region_lit ?_
      refine seq_val rfl rfl (R_field rfl rfl Try.underlying28 rfl (n := 9) (sz := 1) rfl (by kernel_rfl) (by decide)) (by simp only [List.set_cons_succ, List.set_cons_zero]; exact rfl) ?_
      refine seq_val rfl rfl (R_load rfl rfl Try.underlying25 rfl ((cells_of_block q1 9).trans (getS (getS (getS (getS (getS (getS (getS (getS (getS (get0)))))))))))) (by simp only [List.set_cons_succ, List.set_cons_zero]; exact rfl) ?_
      refine seq_val rfl rfl (R_len rfl rfl rfl Try.underlying25) (by simp only [List.set_cons_succ, List.set_cons_zero]; exact rfl) ?_
      refine seq_call rfl rfl (by kernel_rfl) (full_nat t.rd.length _ (by omega)) fun e w' hR => ?_
      obtain ⟨rfl, rfl⟩ := hR
      refine ⟨_, _, rfl, (by simp only [List.set_cons_succ, List.set_cons_zero]; exact rfl), ?_⟩
      refine seq_new rfl rfl (R_alloc rfl Try.zeroValue109) (by simp only [List.set_cons_succ, List.set_cons_zero]; exact rfl) fun w5 hw => ?_
      obtain ⟨n6, hn⟩ : ∃ n, n = w4.heap.size := ⟨_, rfl⟩
      rw [← hn]
      have l6 : w.heap.size ≤ n6 := by rw [hn]; exact E.size
      have m6_1 : n1 < n6 := by rw [hn]; exact blk_lt q1
      have m6_4 : n4 < n6 := by rw [hn]; exact blk_lt q4
      replace q1 := keep_alloc hw q1
      replace q4 := keep_alloc hw q4
      have q6 := new_one hw rfl hn
      replace E := ext_alloc E hw
      clear hw hn
      refine seq_to rfl rfl (R_store (v := .int .u16 _) rfl rfl rfl rfl (by kernel_rfl) ((cells_of_block q6 0).trans rfl) (free_of_block q6 0)) fun w6 hw => ?_
      replace q1 := keep_cell hw q1 (by omega)
      replace q4 := keep_cell hw q4 (by omega)
      replace q6 := put_cell hw q6 (by simp only [List.setIfInBounds_toArray, List.set_cons_succ, List.set_cons_zero]; exact rfl)
      replace E := ext_cell E hw (fun h => by first | exact absurd h (by omega) | simp)
      clear hw
      refine wpList_nil ?_
      go_upto_region 5 with (fail)
      refine wp_region_lit ?_
      refine seq_val rfl rfl (R_field rfl rfl Try.underlying28 rfl (n := 9) (sz := 1) rfl (by kernel_rfl) (by decide)) (by simp only [List.set_cons_succ, List.set_cons_zero]; exact rfl) ?_
      refine seq_val rfl rfl (R_load rfl rfl Try.underlying25 rfl ((cells_of_block q1 9).trans (getS (getS (getS (getS (getS (getS (getS (getS (getS (get0)))))))))))) (by simp only [List.set_cons_succ, List.set_cons_zero]; exact rfl) ?_
      refine seq_val rfl rfl (R_len rfl rfl rfl Try.underlying25) (by simp only [List.set_cons_succ, List.set_cons_zero]; exact rfl) ?_
      refine seq_call rfl rfl (by kernel_rfl) (sets_any t.rd.length _) fun e w7 hR => ?_
      obtain ⟨mb, rfl, hmb, qm, e1⟩ := hR
      refine ⟨_, _, rfl, (by simp only [List.set_cons_succ, List.set_cons_zero]; exact rfl), ?_⟩
      replace q1 := (e1).keep0 q1
      replace q4 := (e1).keep0 q4
      replace q6 := (e1).keep0 q6
      replace E := ext_same E (e1)
      refine seq_val rfl rfl (R_makeFunc (us := #[]) (vs := #[.pointer (some ⟨n4, 0, none⟩), .pointer (some ⟨n6, 0, none⟩)]) rfl (by kernel_rfl) (by kernel_rfl)) (by simp only [List.set_cons_succ, List.set_cons_zero]; exact rfl) ?_
      refine seq_call rfl rfl (by kernel_rfl) (HF.out _ mb n4 n6 E qm q4 q6) fun e w8 hR => ?_
      obtain ⟨rfl, e2⟩ := hR
      refine ⟨_, _, rfl, (by simp only [List.set_cons_succ, List.set_cons_zero]; exact rfl), ?_⟩
      replace q1 := (e2).keep0 q1
      replace q4 := (e2).keep0 q4
      replace q6 := (e2).keep0 q6
      replace E := ext_same E (e2)
      refine seq_val rfl rfl (R_move (v := .tuple _) rfl rfl) (by simp only [List.set_cons_succ, List.set_cons_zero]; exact rfl) ?_
      refine seq_val rfl rfl (R_extract rfl rfl (get0)) (by simp only [List.set_cons_succ, List.set_cons_zero]; exact rfl) ?_
      refine seq_val rfl rfl (R_extract rfl rfl (getS (get0))) (by simp only [List.set_cons_succ, List.set_cons_zero]; exact rfl) ?_
      refine seq_val rfl rfl (R_assign (v := .int .u16 _) rfl rfl) (by simp only [List.set_cons_succ, List.set_cons_zero]; exact rfl) ?_
      refine seq_val rfl rfl (R_assign (v := .bool _) rfl rfl) (by simp only [List.set_cons_succ, List.set_cons_zero]; exact rfl) ?_
      refine wpList_nil ?_
      clear e1 e2
      go_upto_region 8 with (fail)
      refine wp_region_lit ?_
      refine seq_val rfl rfl (R_move (v := .int .u16 _) rfl rfl) (by simp only [List.set_cons_succ, List.set_cons_zero]; exact rfl) ?_
      refine seq_call rfl rfl (by kernel_rfl) (list_any s _ (by omega) (by omega)) fun e w9 hR => ?_
      obtain ⟨la, lc, rfl, hrows, e3⟩ := hR
      refine ⟨_, _, rfl, (by simp only [List.set_cons_succ, List.set_cons_zero]; exact rfl), ?_⟩
      replace q1 := (e3).keep0 q1
      replace q4 := (e3).keep0 q4
      replace q6 := (e3).keep0 q6
      replace E := ext_same E (e3)
      refine seq_val rfl rfl (R_assign (v := .slice _ _ _) rfl rfl) (by simp only [List.set_cons_succ, List.set_cons_zero]; exact rfl) ?_
      refine seq_val rfl rfl (R_assign (v := .int .i64 _) rfl rfl) (by simp only [List.set_cons_succ, List.set_cons_zero]; exact rfl) ?_
      refine wpList_nil ?_
      go_wp2
      go_ret2
      exact ⟨la, lc, rfl, hrows, E⟩
  · rw [openV_no (by rw [open_noX]; exact h)] at HK
    rw [show ringE t = checkE t by rw [ringE, if_pos h], show ringL t = [] by rw [ringL, if_pos h]]
    obtain ⟨ce, hce⟩ : ∃ ce, ce = checkE t := ⟨_, rfl⟩
    rw [← hce] at h HK ⊢
    clear hce ht
    have hb : (ce != 0) = true := by simpa using h
    unfold tpV at HK ⊢
    go_enter Try.func47, Try.ntmps47
    go_upto_region 0 with (fail)
    refine wp_region_lit ?_
    refine seq_new rfl rfl (R_box (v := .agg _) rfl rfl) (by simp only [List.set_cons_succ, List.set_cons_zero]; exact rfl) fun w1 hw => ?_
    obtain ⟨n1, hn⟩ : ∃ n, n = w.heap.size := ⟨_, rfl⟩
    rw [← hn]
    have l1 : w.heap.size ≤ n1 := by rw [hn]; exact E.size
    have q1 := new_row hw hn
    replace E := ext_alloc E hw
    clear hw hn
    refine seq_val rfl rfl (R_assign (v := .slice _ _ _) rfl rfl) (by simp only [List.set_cons_succ, List.set_cons_zero]; exact rfl) ?_
    refine seq_val rfl rfl (R_assign (v := .int .i64 _) rfl rfl) (by simp only [List.set_cons_succ, List.set_cons_zero]; exact rfl) ?_
    refine wpList_nil ?_
    go_upto_region 1 with (fail)
    refine wp_region_lit ?_
    refine seq_val rfl rfl (R_loadBlk rfl rfl Try.underlying28 rfl (by kernel_rfl) q1) (by simp only [List.set_cons_succ, List.set_cons_zero]; exact rfl) ?_
    refine seq_call rfl rfl (by kernel_rfl) (HK.out _ E) fun e w2 hR => ?_
    obtain ⟨rfl, e1⟩ := hR
    refine ⟨_, _, rfl, (by simp only [List.set_cons_succ, List.set_cons_zero]; exact rfl), ?_⟩
    replace q1 := (e1).keep0 q1
    replace E := ext_same E (e1)
    refine seq_val rfl rfl (R_move (v := .tuple _) rfl rfl) (by simp only [List.set_cons_succ, List.set_cons_zero]; exact rfl) ?_
    refine seq_val rfl rfl (R_extract rfl rfl (get0)) (by simp only [List.set_cons_succ, List.set_cons_zero]; exact rfl) ?_
    refine seq_val rfl rfl (R_extract rfl rfl (getS (get0))) (by simp only [List.set_cons_succ, List.set_cons_zero]; exact rfl) ?_
    refine seq_new rfl rfl (R_alloc rfl Try.zeroValue100) (by simp only [List.set_cons_succ, List.set_cons_zero]; exact rfl) fun w3 hw => ?_
    obtain ⟨n4, hn⟩ : ∃ n, n = w2.heap.size := ⟨_, rfl⟩
    rw [← hn]
    have l4 : w.heap.size ≤ n4 := by rw [hn]; exact E.size
    have m4_1 : n1 < n4 := by rw [hn]; exact blk_lt q1
    replace q1 := keep_alloc hw q1
    have q4 := new_row hw hn
    replace E := ext_alloc E hw
    clear hw hn
    refine seq_to rfl rfl (R_storeRow rfl rfl rfl (by kernel_rfl) tp_zero_one q4 rfl) fun w4 hw => ?_
    replace q1 := keep_cells hw q1 (by omega)
    replace q4 := put_row hw q4 rfl
    replace E := ext_cells E hw (fun h => by first | exact absurd h (by omega) | simp)
    clear hw
    refine seq_val rfl rfl (R_assign (v := .int .i64 _) rfl rfl) (by simp only [List.set_cons_succ, List.set_cons_zero]; exact rfl) ?_
    refine wpList_nil ?_
    clear e1
    go_wp2
    go_ret2
    exact ⟨none, 0, rfl, rows_nil _ _ _, E⟩
end Go.Proofs.Ytholfdgebdlgjaa
