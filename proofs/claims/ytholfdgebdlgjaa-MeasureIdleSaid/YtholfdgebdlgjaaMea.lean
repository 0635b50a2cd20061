/- The walks of Can, Measure, Pull and Apart. Conditions: lists of at most 1000. -/
import Derived.Test.YtholfdgebdlgjaaSlv
namespace Go.Proofs.Ytholfdgebdlgjaa
open Go.RowKit
set_option linter.unusedVariables false
set_option linter.unusedSimpArgs false
def sel3 {α : Type} (x y z : α) : Nat → α
  | 0 => x
  | 1 => y
  | _ => z
theorem rows_nil (w : World) (cap sz : Nat) : IsRows w (.slice none 0 cap) sz [] := ⟨none, cap, rfl, by simp, fun h => absurd rfl h⟩
theorem rows_lit {w : World} {b : Nat} {T : TypeId} {fz : Nat × Nat} (xs : List Int) (cap : Nat) (h : w.heap[b]? = some (.cells (xs.map (Value.int .i64)).toArray T fz)) : IsRows w (.slice (some ⟨b, 0, none⟩) xs.length cap) 1 (xs.map intRow) := by
  refine ⟨some ⟨b, 0, none⟩, cap, by simp, by simp [intRow], fun _ => ⟨b, 0, rfl, blk_lt h, fun i j x hi hj => ?_⟩⟩
  obtain rfl : j = 0 := by omega
  rw [cells_of_block h]
  simp only [List.getElem?_map, Option.map_eq_some_iff] at hi
  obtain ⟨y, hy, rfl⟩ := hi
  simp [hy, intRow]
theorem rows3 {w : World} {x y z : List Int} {a b c : Option Addr} {p q r : Nat} (h0 : IsRows w (.slice a x.length p) 1 (x.map intRow)) (h1 : IsRows w (.slice b y.length q) 1 (y.map intRow)) (h2 : IsRows w (.slice c z.length r) 1 (z.map intRow)) :
    ∀ i, i < 3 → IsRows w (.slice (sel3 a b c i) (sel3 x y z i).length (sel3 p q r i)) 1 ((sel3 x y z i).map intRow) := fun i hi => by
  rcases i with _ | _ | _ | i
  · exact h0
  · exact h1
  · exact h2
  · omega
theorem openV_size (t : Tp) (xs : Nat → List Int) (gv rv lv : Value) : (openV t xs gv rv lv).size = 11 := by
  unfold openV; split <;> rfl
theorem openV_one {t : Tp} {xs : Nat → List Int} {gv rv lv : Value} (h : gv.oneCell' = true ∧ rv.oneCell' = true ∧ lv.oneCell' = true) : (openV t xs gv rv lv).all (·.oneCell') = true := by
  unfold openV; split
  · exact tp_cells_one h
  · exact tp_zero_one
theorem bdV_some {t : Tp} {out : Int} {y : Nat → Nat → Int} (h : kTo (looseM t out) 13 = some y) : bdV t out = y := by rw [bdV, h]; rfl
theorem bdB_some {t : Tp} {out : Int} {y : Nat → Nat → Int} (h : kTo (looseM t out) 13 = some y) : bdB t out = true := by rw [bdB, h]; rfl
theorem bdB_none {t : Tp} {out : Int} (h : kTo (looseM t out) 13 = none) : bdB t out = false := by rw [bdB, h]; rfl
theorem bdB_get {t : Tp} {out : Int} (h : bdB t out = true) : kTo (looseM t out) 13 = some (bdV t out) := by
  unfold bdB at h
  unfold bdV
  cases e : kTo (looseM t out) 13 with
  | none => rw [e] at h; cases h
  | some y => rfl
/-- The bounds are small. -/
theorem bd_big {t : Tp} (ok : t.Ok) (out : Int) {p q : Nat} (hp : p < 13) (hq : q < 13) : -1000000000000000000 ≤ bdV t out p q ∧ bdV t out p q ≤ 1000000000000000000 := by
  unfold bdV
  cases e : kTo (looseM t out) 13 with
  | none => simp
  | some y =>
    have h := fun p q (_ : p < 13) (_ : q < 13) => (small_loose ok out).1 p q
    have l := kTo_low (L := 1048576) (by omega) (fun p q hp hq => (h p q hp hq).1) 13 (Nat.le_refl _) y e p q hp hq
    have u := Int.le_trans (kTo_le p q e) (h p q hp hq).2
    have hpw : (6 : Int) ^ 13 = 13060694016 := by decide
    rw [hpw] at l
    simp only [Option.getD_some]
    constructor <;> omega
def noX : Nat → List Int := fun _ => []
theorem open_noX (t : Tp) : openE t noX = checkE t := by
  unfold openE
  split
  · rfl
  · rename_i h
    have : checkE t = 0 := by simpa using h
    rw [this]
    refine map_zero.2 fun i _ => ?_
    rfl
/-- Whether there is a truth, and the error. -/
def canB (t : Tp) : Bool := if checkE t = 0 then bdB t 0 else false
set_option maxRecDepth 100000 in
set_option maxHeartbeats 2000000 in
theorem can_any (t : Tp) (gv rv lv : Value) (w : World) (ht : IsTp w gv rv lv t) (hl1 : t.gr.length ≤ 1000) (hl2 : t.rd.length ≤ 1000) (hl3 : t.lk.length ≤ 1000) :
    Calls Try.prog 29 #[tpV t gv rv lv] w fun e w' => e = .returned (.tuple #[.bool (canB t), .int .i64 (checkE t)]) ∧ Ext [] w w' := by
  have hone := tp_one ht
  have HK : Hid (∀ W : World, Ext [] w W → Calls Try.prog 79 #[tpV t gv rv lv, .slice none 0 0, .slice none 0 0, .slice none 0 0] W fun e w' => e = .returned (.tuple #[.agg (openV t noX gv rv lv), .int .i64 (openE t noX)]) ∧ Ext [] W w') :=
    fun W e => open_any t gv rv lv noX (fun _ => none) (fun _ => 0) W (ht.ext e (by simp)) hl1 hl2 hl3 (fun i hi => rows_nil _ _ _) (fun i hi => by simp [noX])
  have Ht := Lib.hid ht; clear ht
  have E : Ext [] w w := Ext.refl _ _
  rw [open_noX] at HK
  by_cases h : checkE t = 0
  · have ok := (checkE_zero.1 h).1
    have HS : Hid (∀ W : World, Ext [] w W → Calls Try.prog 80 #[tpV t gv rv lv, .int .u16 0] W fun e w' => e = .returned (.tuple #[.agg (matCells (bdV t 0)), .bool (bdB t 0)]) ∧ Ext [] W w') :=
      fun W e => solve_v t ok gv rv lv 0 (by omega) (by omega) W (Ht.out.ext e (by simp))
    rw [openV_ok ((open_noX t).trans h), h] at HK
    rw [show canB t = bdB t 0 from if_pos h, h]
    clear h ok
    obtain ⟨m, hm⟩ : ∃ m, m = bdV t 0 := ⟨_, rfl⟩
    obtain ⟨b, hb⟩ : ∃ b, b = bdB t 0 := ⟨_, rfl⟩
    rw [← hm, ← hb] at HS
    rw [← hb]
    clear hm hb
    unfold tpV at HK HS ⊢
    go_enter Try.func29, Try.ntmps29
    go_upto_region 0 with (fail)
    refine wp_region_lit ?_
    refine seq_new rfl rfl (R_box (v := .agg _) rfl rfl) (by simp only [List.set_cons_succ, List.set_cons_zero]; exact rfl) fun w1 hw => ?_
    obtain ⟨n1, hn⟩ : ∃ n, n = w.heap.size := ⟨_, rfl⟩
    rw [← hn]
    have l1 : w.heap.size ≤ n1 := by rw [hn]; exact E.size
    have q1 := new_row hw hn
    replace E := ext_alloc E hw
    clear hw hn
    refine seq_val rfl rfl (R_assign (v := .bool _) rfl rfl) (by simp only [List.set_cons_succ, List.set_cons_zero]; exact rfl) ?_
    refine seq_val rfl rfl (R_assign (v := .int .i64 _) rfl rfl) (by simp only [List.set_cons_succ, List.set_cons_zero]; exact rfl) ?_
    refine wpList_nil ?_
    go_upto_region 1 with (fail)
    refine wp_region_lit ?_
    refine seq_val rfl rfl (R_loadBlk rfl rfl Try.underlying28 rfl (by kernel_rfl) q1) (by simp only [List.set_cons_succ, List.set_cons_zero]; exact rfl) ?_
    refine seq_call rfl rfl (by kernel_rfl) (HK.out _ E) fun e w2 hR => ?_
    obtain ⟨rfl, e1⟩ := hR
    refine ⟨_, _, rfl, (by simp only [List.set_cons_succ, List.set_cons_zero]; exact rfl), ?_⟩
    replace q1 := (e1).keep0 q1
    replace E := ext_same E (e1)
    refine seq_val rfl rfl (R_move (v := .tuple _) rfl rfl) (by simp only [List.set_cons_succ, List.set_cons_zero]; exact rfl) ?_
    refine seq_val rfl rfl (R_extract rfl rfl (get0)) (by simp only [List.set_cons_succ, List.set_cons_zero]; exact rfl) ?_
    refine seq_val rfl rfl (R_extract rfl rfl (getS (get0))) (by simp only [List.set_cons_succ, List.set_cons_zero]; exact rfl) ?_
    refine seq_new rfl rfl (R_alloc rfl Try.zeroValue100) (by simp only [List.set_cons_succ, List.set_cons_zero]; exact rfl) fun w3 hw => ?_
    obtain ⟨n4, hn⟩ : ∃ n, n = w2.heap.size := ⟨_, rfl⟩
    rw [← hn]
    have l4 : w.heap.size ≤ n4 := by rw [hn]; exact E.size
    have m4_1 : n1 < n4 := by rw [hn]; exact blk_lt q1
    replace q1 := keep_alloc hw q1
    have q4 := new_row hw hn
    replace E := ext_alloc E hw
    clear hw hn
    refine seq_to rfl rfl (R_storeRow rfl rfl rfl (by kernel_rfl) (tp_cells_one hone) q4 rfl) fun w4 hw => ?_
    replace q1 := keep_cells hw q1 (by omega)
    replace q4 := put_row hw q4 rfl
    replace E := ext_cells E hw (fun h => by first | exact absurd h (by omega) | simp)
    clear hw
    refine seq_val rfl rfl (R_assign (v := .int .i64 _) rfl rfl) (by simp only [List.set_cons_succ, List.set_cons_zero]; exact rfl) ?_
    refine wpList_nil ?_
    clear e1
    go_upto_region 4 with (fail)
    refine wp_region_lit ?_
    refine seq_val rfl rfl (R_loadBlk rfl rfl Try.underlying100 rfl (by kernel_rfl) q4) (by simp only [List.set_cons_succ, List.set_cons_zero]; exact rfl) ?_
    refine seq_call rfl rfl (by kernel_rfl) (HS.out _ E) fun e w5 hR => ?_
    obtain ⟨rfl, e1⟩ := hR
    refine ⟨_, _, rfl, (by simp only [List.set_cons_succ, List.set_cons_zero]; exact rfl), ?_⟩
    replace q1 := (e1).keep0 q1
    replace q4 := (e1).keep0 q4
    replace E := ext_same E (e1)
    refine seq_val rfl rfl (R_move (v := .tuple _) rfl rfl) (by simp only [List.set_cons_succ, List.set_cons_zero]; exact rfl) ?_
    refine seq_val rfl rfl (R_extract rfl rfl (get0)) (by simp only [List.set_cons_succ, List.set_cons_zero]; exact rfl) ?_
    refine seq_val rfl rfl (R_extract rfl rfl (getS (get0))) (by simp only [List.set_cons_succ, List.set_cons_zero]; exact rfl) ?_
    refine seq_new rfl rfl (R_alloc rfl Try.zeroValue105) (by simp only [List.set_cons_succ, List.set_cons_zero]; exact rfl) fun w6 hw => ?_
    obtain ⟨n6, hn⟩ : ∃ n, n = w5.heap.size := ⟨_, rfl⟩
    rw [← hn]
    have l6 : w.heap.size ≤ n6 := by rw [hn]; exact E.size
    have m6_1 : n1 < n6 := by rw [hn]; exact blk_lt q1
    have m6_4 : n4 < n6 := by rw [hn]; exact blk_lt q4
    replace q1 := keep_alloc hw q1
    replace q4 := keep_alloc hw q4
    have q6 := new_row hw hn
    replace E := ext_alloc E hw
    clear hw hn
    refine seq_to rfl rfl (R_storeRow rfl rfl rfl (by rw [matCells_size]; kernel_rfl) (by rw [← matList_toArray]; exact all_oneCell_toArray (matList_one _)) q6 (by show Try.zeroCells105.size = _; rw [Try.zeroCells105_size, matCells_size])) fun w7 hw => ?_
    replace q1 := keep_cells hw q1 (by omega)
    replace q4 := keep_cells hw q4 (by omega)
    replace q6 := put_row hw q6 (by show Try.zeroCells105.size = _; rw [Try.zeroCells105_size, matCells_size])
    replace E := ext_cells E hw (fun h => by first | exact absurd h (by omega) | simp)
    clear hw
    refine seq_val rfl rfl (R_assign (v := .bool _) rfl rfl) (by simp only [List.set_cons_succ, List.set_cons_zero]; exact rfl) ?_
    refine wpList_nil ?_
    clear e1
    go_wp2
    go_ret2
    exact ⟨rfl, E⟩
  · rw [openV_no (by rw [open_noX]; exact h)] at HK
    rw [show canB t = false from if_neg h]
    obtain ⟨ce, hce⟩ : ∃ ce, ce = checkE t := ⟨_, rfl⟩
    rw [← hce] at h HK ⊢
    clear hce
    have hb : (ce != 0) = true := by simpa using h
    unfold tpV at HK ⊢
    go_enter Try.func29, Try.ntmps29
    go_upto_region 0 with (fail)
    refine wp_region_lit ?_
    refine seq_new rfl rfl (R_box (v := .agg _) rfl rfl) (by simp only [List.set_cons_succ, List.set_cons_zero]; exact rfl) fun w1 hw => ?_
    obtain ⟨n1, hn⟩ : ∃ n, n = w.heap.size := ⟨_, rfl⟩
    rw [← hn]
    have l1 : w.heap.size ≤ n1 := by rw [hn]; exact E.size
    have q1 := new_row hw hn
    replace E := ext_alloc E hw
    clear hw hn
    refine seq_val rfl rfl (R_assign (v := .bool _) rfl rfl) (by simp only [List.set_cons_succ, List.set_cons_zero]; exact rfl) ?_
    refine seq_val rfl rfl (R_assign (v := .int .i64 _) rfl rfl) (by simp only [List.set_cons_succ, List.set_cons_zero]; exact rfl) ?_
    refine wpList_nil ?_
    go_upto_region 1 with (fail)
    refine wp_region_lit ?_
    refine seq_val rfl rfl (R_loadBlk rfl rfl Try.underlying28 rfl (by kernel_rfl) q1) (by simp only [List.set_cons_succ, List.set_cons_zero]; exact rfl) ?_
    refine seq_call rfl rfl (by kernel_rfl) (HK.out _ E) fun e w2 hR => ?_
    obtain ⟨rfl, e1⟩ := hR
    refine ⟨_, _, rfl, (by simp only [List.set_cons_succ, List.set_cons_zero]; exact rfl), ?_⟩
    replace q1 := (e1).keep0 q1
    replace E := ext_same E (e1)
    refine seq_val rfl rfl (R_move (v := .tuple _) rfl rfl) (by simp only [List.set_cons_succ, List.set_cons_zero]; exact rfl) ?_
    refine seq_val rfl rfl (R_extract rfl rfl (get0)) (by simp only [List.set_cons_succ, List.set_cons_zero]; exact rfl) ?_
    refine seq_val rfl rfl (R_extract rfl rfl (getS (get0))) (by simp only [List.set_cons_succ, List.set_cons_zero]; exact rfl) ?_
    refine seq_new rfl rfl (R_alloc rfl Try.zeroValue100) (by simp only [List.set_cons_succ, List.set_cons_zero]; exact rfl) fun w3 hw => ?_
    obtain ⟨n4, hn⟩ : ∃ n, n = w2.heap.size := ⟨_, rfl⟩
    rw [← hn]
    have l4 : w.heap.size ≤ n4 := by rw [hn]; exact E.size
    have m4_1 : n1 < n4 := by rw [hn]; exact blk_lt q1
    replace q1 := keep_alloc hw q1
    have q4 := new_row hw hn
    replace E := ext_alloc E hw
    clear hw hn
    refine seq_to rfl rfl (R_storeRow rfl rfl rfl (by kernel_rfl) tp_zero_one q4 rfl) fun w4 hw => ?_
    replace q1 := keep_cells hw q1 (by omega)
    replace q4 := put_row hw q4 rfl
    replace E := ext_cells E hw (fun h => by first | exact absurd h (by omega) | simp)
    clear hw
    refine seq_val rfl rfl (R_assign (v := .int .i64 _) rfl rfl) (by simp only [List.set_cons_succ, List.set_cons_zero]; exact rfl) ?_
    refine wpList_nil ?_
    clear e1
    go_wp2
    go_ret2
    exact ⟨rfl, E⟩
/-- The numbers that a measure can have, and the error. -/
def measE (t : Tp) (s a : Int) : Int := solvedE t (sel3 [s] [a] [])
def measV (t : Tp) (s a : Int) : Int × Int := if measE t s a = 0 then (-(bdV t 0 (nodeC s a) 0), bdV t 0 0 (nodeC s a)) else (0, 0)
theorem solved_open {t : Tp} {xs : Nat → List Int} (h : solvedE t xs = 0) : openE t xs = 0 ∧ bdB t 0 = true := by
  unfold solvedE at h
  by_cases c : openE t xs = 0
  · rw [if_neg (by simpa using c)] at h
    refine ⟨c, ?_⟩
    cases e : bdB t 0
    · rw [e] at h; cases h
    · rfl
  · rw [if_pos c] at h; exact absurd h c
theorem ask_known {t : Tp} {xs : Nat → List Int} (h : openE t xs = 0) {i : Nat} (hi : i < 3) {n : Int} (hn : n ∈ xs i) : 0 ≤ n ∧ n < lim t i := by
  have hc := openE_check h
  unfold openE at h
  rw [if_neg (by simpa using hc)] at h
  have := map_zero.1 h i (by simpa using hi)
  exact knownE_zero.1 (map_zero.1 this n hn)
set_option maxRecDepth 100000 in
set_option maxHeartbeats 2000000 in
theorem measure_any (t : Tp) (gv rv lv : Value) (s a : Int) (w : World) (ht : IsTp w gv rv lv t) (hl1 : t.gr.length ≤ 1000) (hl2 : t.rd.length ≤ 1000) (hl3 : t.lk.length ≤ 1000) :
    Calls Try.prog 33 #[tpV t gv rv lv, .int .i64 s, .int .i64 a] w fun e w' => e = .returned (.tuple #[.agg #[.int .i64 (measV t s a).1, .int .i64 (measV t s a).2], .int .i64 (measE t s a)]) ∧ Ext [] w w' := by
  have hone := tp_one ht
  have HK : Hid (∀ (W : World) (b1 b2 : Nat), Ext [] w W → W.heap[b1]? = some (.cells #[.int .i64 s] 3 (0, 0)) → W.heap[b2]? = some (.cells #[.int .i64 a] 3 (0, 0)) → Calls Try.prog 90 #[tpV t gv rv lv, .slice (some ⟨b1, 0, none⟩) 1 1, .slice (some ⟨b2, 0, none⟩) 1 1, .slice none 0 0] W fun e w' => e = .returned (.tuple #[.agg (openV t (sel3 [s] [a] []) gv rv lv), .agg (matCells (solvedM t (sel3 [s] [a] []))), .int .i64 (measE t s a)]) ∧ Ext [] W w') :=
    fun W b1 b2 e h1 h2 => solved_any t gv rv lv (sel3 [s] [a] []) (sel3 (some ⟨b1, 0, none⟩) (some ⟨b2, 0, none⟩) none) (sel3 1 1 0) W (ht.ext e (by simp)) hl1 hl2 hl3 (rows3 (rows_lit [s] 1 h1) (rows_lit [a] 1 h2) (rows_nil _ _ _)) (fun i hi => by rcases i with _ | _ | i <;> simp [sel3])
  clear ht
  have E : Ext [] w w := Ext.refl _ _
  have hVs := openV_size t (sel3 [s] [a] []) gv rv lv
  have hVo := openV_one (t := t) (xs := sel3 [s] [a] []) hone
  generalize openV t (sel3 [s] [a] []) gv rv lv = X at HK hVs hVo
  by_cases h : measE t s a = 0
  · obtain ⟨h1, h2⟩ := solved_open h
    have ok := (checkE_zero.1 (openE_check h1)).1
    have ks := ask_known h1 (i := 0) (by omega) (n := s) (by simp [sel3])
    have ka := ask_known h1 (i := 1) (by omega) (n := a) (by simp [sel3])
    have k1 := ok.S3
    have k2 := ok.A3
    rw [show lim t 0 = t.S from rfl] at ks
    rw [show lim t 1 = t.A from rfl] at ka
    rw [show solvedM t (sel3 [s] [a] []) = bdV t 0 from if_pos h1, h] at HK
    rw [show measV t s a = (-(bdV t 0 (nodeC s a) 0), bdV t 0 0 (nodeC s a)) from if_pos h, h]
    have big := bd_big ok 0 (p := nodeC s a) (q := 0) (by unfold nodeC; omega) (by omega)
    clear h h1 h2 ok
    obtain ⟨m, hm⟩ : ∃ m, m = bdV t 0 := ⟨_, rfl⟩
    rw [← hm] at HK big ⊢
    clear hm
    unfold nodeC at big ⊢
    unfold tpV at HK ⊢
    go_enter Try.func33, Try.ntmps33
    go_upto_region 0 with (fail)
    refine wp_region_lit ?_
    refine seq_new rfl rfl (R_box (v := .agg _) rfl rfl) (by simp only [List.set_cons_succ, List.set_cons_zero]; exact rfl) fun w1 hw => ?_
    obtain ⟨n3, hn⟩ : ∃ n, n = w.heap.size := ⟨_, rfl⟩
    rw [← hn]
    have l3 : w.heap.size ≤ n3 := by rw [hn]; exact E.size
    have q3 := new_row hw hn
    replace E := ext_alloc E hw
    clear hw hn
    refine seq_new rfl rfl (R_alloc rfl Try.zeroValue23) (by simp only [List.set_cons_succ, List.set_cons_zero]; exact rfl) fun w2 hw => ?_
    obtain ⟨n6, hn⟩ : ∃ n, n = w1.heap.size := ⟨_, rfl⟩
    rw [← hn]
    have l6 : w.heap.size ≤ n6 := by rw [hn]; exact E.size
    have m6_3 : n3 < n6 := by rw [hn]; exact blk_lt q3
    replace q3 := keep_alloc hw q3
    have q6 := new_row hw hn
    replace E := ext_alloc E hw
    clear hw hn
    refine seq_val rfl rfl (R_assign (v := .int .i64 _) rfl rfl) (by simp only [List.set_cons_succ, List.set_cons_zero]; exact rfl) ?_
    refine wpList_nil ?_
    go_upto_region 1 with (fail)
    refine wp_region_lit ?_
    refine seq_val rfl rfl (R_loadBlk rfl rfl Try.underlying28 rfl (by kernel_rfl) q3) (by simp only [List.set_cons_succ, List.set_cons_zero]; exact rfl) ?_
    refine seq_val rfl rfl (R_move (v := .int .i64 _) rfl rfl) (by simp only [List.set_cons_succ, List.set_cons_zero]; exact rfl) ?_
    refine seq_new rfl rfl (R_buildSlice rfl Try.underlying29 (size := 1) (by kernel_rfl) (by decide) (by decide) Try.zeroValue3 (cells := #[.int .i64 s]) (by kernel_rfl)) (by simp only [List.set_cons_succ, List.set_cons_zero]; exact rfl) fun w3 hw => ?_
    obtain ⟨n14, hn⟩ : ∃ n, n = w2.heap.size := ⟨_, rfl⟩
    rw [← hn]
    have l14 : w.heap.size ≤ n14 := by rw [hn]; exact E.size
    have m14_3 : n3 < n14 := by rw [hn]; exact blk_lt q3
    have m14_6 : n6 < n14 := by rw [hn]; exact blk_lt q6
    replace q3 := keep_alloc hw q3
    replace q6 := keep_alloc hw q6
    have q14 := new_block hw hn
    replace E := ext_alloc E hw
    clear hw hn
    refine seq_val rfl rfl (R_move (v := .int .i64 _) rfl rfl) (by simp only [List.set_cons_succ, List.set_cons_zero]; exact rfl) ?_
    refine seq_new rfl rfl (R_buildSlice rfl Try.underlying29 (size := 1) (by kernel_rfl) (by decide) (by decide) Try.zeroValue3 (cells := #[.int .i64 a]) (by kernel_rfl)) (by simp only [List.set_cons_succ, List.set_cons_zero]; exact rfl) fun w4 hw => ?_
    obtain ⟨n16, hn⟩ : ∃ n, n = w3.heap.size := ⟨_, rfl⟩
    rw [← hn]
    have l16 : w.heap.size ≤ n16 := by rw [hn]; exact E.size
    have m16_3 : n3 < n16 := by rw [hn]; exact blk_lt q3
    have m16_6 : n6 < n16 := by rw [hn]; exact blk_lt q6
    have m16_14 : n14 < n16 := by rw [hn]; exact blk_lt q14
    replace q3 := keep_alloc hw q3
    replace q6 := keep_alloc hw q6
    replace q14 := keep_alloc hw q14
    have q16 := new_block hw hn
    replace E := ext_alloc E hw
    clear hw hn
    refine seq_call rfl rfl (by kernel_rfl) (HK.out _ n14 n16 E q14 q16) fun e w5 hR => ?_
    obtain ⟨rfl, e1⟩ := hR
    refine ⟨_, _, rfl, (by simp only [List.set_cons_succ, List.set_cons_zero]; exact rfl), ?_⟩
    replace q3 := (e1).keep0 q3
    replace q6 := (e1).keep0 q6
    replace q14 := (e1).keep0 q14
    replace q16 := (e1).keep0 q16
    replace E := ext_same E (e1)
    refine seq_val rfl rfl (R_move (v := .tuple _) rfl rfl) (by simp only [List.set_cons_succ, List.set_cons_zero]; exact rfl) ?_
    refine seq_val rfl rfl (R_extract rfl rfl (get0)) (by simp only [List.set_cons_succ, List.set_cons_zero]; exact rfl) ?_
    refine seq_val rfl rfl (R_extract rfl rfl (getS (get0))) (by simp only [List.set_cons_succ, List.set_cons_zero]; exact rfl) ?_
    refine seq_val rfl rfl (R_extract rfl rfl (getS (getS (get0)))) (by simp only [List.set_cons_succ, List.set_cons_zero]; exact rfl) ?_
    refine seq_new rfl rfl (R_alloc rfl Try.zeroValue100) (by simp only [List.set_cons_succ, List.set_cons_zero]; exact rfl) fun w6 hw => ?_
    obtain ⟨n8, hn⟩ : ∃ n, n = w5.heap.size := ⟨_, rfl⟩
    rw [← hn]
    have l8 : w.heap.size ≤ n8 := by rw [hn]; exact E.size
    have m8_3 : n3 < n8 := by rw [hn]; exact blk_lt q3
    have m8_6 : n6 < n8 := by rw [hn]; exact blk_lt q6
    have m8_14 : n14 < n8 := by rw [hn]; exact blk_lt q14
    have m8_16 : n16 < n8 := by rw [hn]; exact blk_lt q16
    replace q3 := keep_alloc hw q3
    replace q6 := keep_alloc hw q6
    replace q14 := keep_alloc hw q14
    replace q16 := keep_alloc hw q16
    have q8 := new_row hw hn
    replace E := ext_alloc E hw
    clear hw hn
    refine seq_new rfl rfl (R_alloc rfl Try.zeroValue105) (by simp only [List.set_cons_succ, List.set_cons_zero]; exact rfl) fun w7 hw => ?_
    obtain ⟨n9, hn⟩ : ∃ n, n = w6.heap.size := ⟨_, rfl⟩
    rw [← hn]
    have l9 : w.heap.size ≤ n9 := by rw [hn]; exact E.size
    have m9_3 : n3 < n9 := by rw [hn]; exact blk_lt q3
    have m9_6 : n6 < n9 := by rw [hn]; exact blk_lt q6
    have m9_14 : n14 < n9 := by rw [hn]; exact blk_lt q14
    have m9_16 : n16 < n9 := by rw [hn]; exact blk_lt q16
    have m9_8 : n8 < n9 := by rw [hn]; exact blk_lt q8
    replace q3 := keep_alloc hw q3
    replace q6 := keep_alloc hw q6
    replace q14 := keep_alloc hw q14
    replace q16 := keep_alloc hw q16
    replace q8 := keep_alloc hw q8
    have q9 := new_row hw hn
    replace E := ext_alloc E hw
    clear hw hn
    refine seq_to rfl rfl (R_storeRow rfl rfl rfl (by rw [hVs]; kernel_rfl) hVo q8 (by rw [hVs]; rfl)) fun w8 hw => ?_
    replace q3 := keep_cells hw q3 (by omega)
    replace q6 := keep_cells hw q6 (by omega)
    replace q14 := keep_cells hw q14 (by omega)
    replace q16 := keep_cells hw q16 (by omega)
    replace q8 := put_row hw q8 (by rw [hVs]; rfl)
    replace q9 := keep_cells hw q9 (by omega)
    replace E := ext_cells E hw (fun h => by first | exact absurd h (by omega) | simp)
    clear hw
    refine seq_to rfl rfl (R_storeRow rfl rfl rfl (by rw [matCells_size]; kernel_rfl) (by rw [← matList_toArray]; exact all_oneCell_toArray (matList_one _)) q9 (by show Try.zeroCells105.size = _; rw [Try.zeroCells105_size, matCells_size])) fun w9 hw => ?_
    replace q3 := keep_cells hw q3 (by omega)
    replace q6 := keep_cells hw q6 (by omega)
    replace q14 := keep_cells hw q14 (by omega)
    replace q16 := keep_cells hw q16 (by omega)
    replace q8 := keep_cells hw q8 (by omega)
    replace q9 := put_row hw q9 (by show Try.zeroCells105.size = _; rw [Try.zeroCells105_size, matCells_size])
    replace E := ext_cells E hw (fun h => by first | exact absurd h (by omega) | simp)
    clear hw
    refine seq_val rfl rfl (R_assign (v := .int .i64 _) rfl rfl) (by simp only [List.set_cons_succ, List.set_cons_zero]; exact rfl) ?_
    refine wpList_nil ?_
    clear e1
    go_upto_region 4 with (fail)
    refine wp_region_st 4 follows (by kernel_rfl) fun w10 hw10 ew10 => ?_
    replace q3 := keep_same hw10 q3
    replace q6 := keep_same hw10 q6
    replace q14 := keep_same hw10 q14
    replace q16 := keep_same hw10 q16
    replace q8 := keep_same hw10 q8
    replace q9 := keep_same hw10 q9
    replace E := ext_same E ew10
    clear hw10 ew10
    refine still_val rfl rfl (R_loadBlk rfl rfl Try.underlying105 rfl (by rw [matCells_size]; kernel_rfl) q9) (by simp only [List.set_cons_succ, List.set_cons_zero]; exact rfl) ?_
    refine still_val rfl rfl (R_move (v := .int .i64 _) rfl rfl) (by simp only [List.set_cons_succ, List.set_cons_zero]; exact rfl) ?_
    refine still_val rfl rfl (R_move (v := .int .i64 _) rfl rfl) (by simp only [List.set_cons_succ, List.set_cons_zero]; exact rfl) ?_
    refine still_call rfl rfl (by kernel_rfl) (cell_any s a _ (by omega) (by omega) (by omega) (by omega)) (by simp only [List.set_cons_succ, List.set_cons_zero]; exact rfl) ?_
    refine wpStill_nil ?_
    refine seq_call rfl rfl (by kernel_rfl) (apart_any m 0 (1 + s * 3 + a) _ (by omega) (by omega) (by omega) (by omega) big.1 big.2) fun e w11 hR => ?_
    obtain ⟨rfl, hb⟩ := hR
    refine ⟨_, _, rfl, (by simp only [List.set_cons_succ, List.set_cons_zero]; exact rfl), ?_⟩
    replace q3 := (Ext.of_below hb).keep0 q3
    replace q6 := (Ext.of_below hb).keep0 q6
    replace q14 := (Ext.of_below hb).keep0 q14
    replace q16 := (Ext.of_below hb).keep0 q16
    replace q8 := (Ext.of_below hb).keep0 q8
    replace q9 := (Ext.of_below hb).keep0 q9
    replace E := ext_same E (Ext.of_below hb)
    refine seq_to rfl rfl (R_storeRow rfl rfl rfl (by kernel_rfl) (by simp [Value.oneCell']) q6 rfl) fun w12 hw => ?_
    replace q3 := keep_cells hw q3 (by omega)
    replace q6 := put_row hw q6 rfl
    replace q14 := keep_cells hw q14 (by omega)
    replace q16 := keep_cells hw q16 (by omega)
    replace q8 := keep_cells hw q8 (by omega)
    replace q9 := keep_cells hw q9 (by omega)
    replace E := ext_cells E hw (fun h => by first | exact absurd h (by omega) | simp)
    clear hw
    refine seq_val rfl rfl (R_assign (v := .int .i64 _) rfl rfl) (by simp only [List.set_cons_succ, List.set_cons_zero]; exact rfl) ?_
    refine wpList_nil ?_
    go_wp2
    refine bodyPost_ret (res_ct rfl rfl Try.underlying23 rfl (by kernel_rfl) q6 rfl) rfl ⟨rfl, E⟩
  · rw [show measV t s a = (0, 0) from if_neg h]
    obtain ⟨ce, hce⟩ : ∃ ce, ce = measE t s a := ⟨_, rfl⟩
    rw [← hce] at h HK ⊢
    clear hce
    have hb : (ce != 0) = true := by simpa using h
    generalize solvedM t (sel3 [s] [a] []) = m at HK
    unfold tpV at HK ⊢
    go_enter Try.func33, Try.ntmps33
    go_upto_region 0 with (fail)
    refine wp_region_lit ?_
    refine seq_new rfl rfl (R_box (v := .agg _) rfl rfl) (by simp only [List.set_cons_succ, List.set_cons_zero]; exact rfl) fun w1 hw => ?_
    obtain ⟨n3, hn⟩ : ∃ n, n = w.heap.size := ⟨_, rfl⟩
    rw [← hn]
    have l3 : w.heap.size ≤ n3 := by rw [hn]; exact E.size
    have q3 := new_row hw hn
    replace E := ext_alloc E hw
    clear hw hn
    refine seq_new rfl rfl (R_alloc rfl Try.zeroValue23) (by simp only [List.set_cons_succ, List.set_cons_zero]; exact rfl) fun w2 hw => ?_
    obtain ⟨n6, hn⟩ : ∃ n, n = w1.heap.size := ⟨_, rfl⟩
    rw [← hn]
    have l6 : w.heap.size ≤ n6 := by rw [hn]; exact E.size
    have m6_3 : n3 < n6 := by rw [hn]; exact blk_lt q3
    replace q3 := keep_alloc hw q3
    have q6 := new_row hw hn
    replace E := ext_alloc E hw
    clear hw hn
    refine seq_val rfl rfl (R_assign (v := .int .i64 _) rfl rfl) (by simp only [List.set_cons_succ, List.set_cons_zero]; exact rfl) ?_
    refine wpList_nil ?_
    go_upto_region 1 with (fail)
    refine wp_region_lit ?_
    refine seq_val rfl rfl (R_loadBlk rfl rfl Try.underlying28 rfl (by kernel_rfl) q3) (by simp only [List.set_cons_succ, List.set_cons_zero]; exact rfl) ?_
    refine seq_val rfl rfl (R_move (v := .int .i64 _) rfl rfl) (by simp only [List.set_cons_succ, List.set_cons_zero]; exact rfl) ?_
    refine seq_new rfl rfl (R_buildSlice rfl Try.underlying29 (size := 1) (by kernel_rfl) (by decide) (by decide) Try.zeroValue3 (cells := #[.int .i64 s]) (by kernel_rfl)) (by simp only [List.set_cons_succ, List.set_cons_zero]; exact rfl) fun w3 hw => ?_
    obtain ⟨n14, hn⟩ : ∃ n, n = w2.heap.size := ⟨_, rfl⟩
    rw [← hn]
    have l14 : w.heap.size ≤ n14 := by rw [hn]; exact E.size
    have m14_3 : n3 < n14 := by rw [hn]; exact blk_lt q3
    have m14_6 : n6 < n14 := by rw [hn]; exact blk_lt q6
    replace q3 := keep_alloc hw q3
    replace q6 := keep_alloc hw q6
    have q14 := new_block hw hn
    replace E := ext_alloc E hw
    clear hw hn
    refine seq_val rfl rfl (R_move (v := .int .i64 _) rfl rfl) (by simp only [List.set_cons_succ, List.set_cons_zero]; exact rfl) ?_
    refine seq_new rfl rfl (R_buildSlice rfl Try.underlying29 (size := 1) (by kernel_rfl) (by decide) (by decide) Try.zeroValue3 (cells := #[.int .i64 a]) (by kernel_rfl)) (by simp only [List.set_cons_succ, List.set_cons_zero]; exact rfl) fun w4 hw => ?_
    obtain ⟨n16, hn⟩ : ∃ n, n = w3.heap.size := ⟨_, rfl⟩
    rw [← hn]
    have l16 : w.heap.size ≤ n16 := by rw [hn]; exact E.size
    have m16_3 : n3 < n16 := by rw [hn]; exact blk_lt q3
    have m16_6 : n6 < n16 := by rw [hn]; exact blk_lt q6
    have m16_14 : n14 < n16 := by rw [hn]; exact blk_lt q14
    replace q3 := keep_alloc hw q3
    replace q6 := keep_alloc hw q6
    replace q14 := keep_alloc hw q14
    have q16 := new_block hw hn
    replace E := ext_alloc E hw
    clear hw hn
    refine seq_call rfl rfl (by kernel_rfl) (HK.out _ n14 n16 E q14 q16) fun e w5 hR => ?_
    obtain ⟨rfl, e1⟩ := hR
    refine ⟨_, _, rfl, (by simp only [List.set_cons_succ, List.set_cons_zero]; exact rfl), ?_⟩
    replace q3 := (e1).keep0 q3
    replace q6 := (e1).keep0 q6
    replace q14 := (e1).keep0 q14
    replace q16 := (e1).keep0 q16
    replace E := ext_same E (e1)
    refine seq_val rfl rfl (R_move (v := .tuple _) rfl rfl) (by simp only [List.set_cons_succ, List.set_cons_zero]; exact rfl) ?_
    refine seq_val rfl rfl (R_extract rfl rfl (get0)) (by simp only [List.set_cons_succ, List.set_cons_zero]; exact rfl) ?_
    refine seq_val rfl rfl (R_extract rfl rfl (getS (get0))) (by simp only [List.set_cons_succ, List.set_cons_zero]; exact rfl) ?_
    refine seq_val rfl rfl (R_extract rfl rfl (getS (getS (get0)))) (by simp only [List.set_cons_succ, List.set_cons_zero]; exact rfl) ?_
    refine seq_new rfl rfl (R_alloc rfl Try.zeroValue100) (by simp only [List.set_cons_succ, List.set_cons_zero]; exact rfl) fun w6 hw => ?_
    obtain ⟨n8, hn⟩ : ∃ n, n = w5.heap.size := ⟨_, rfl⟩
    rw [← hn]
    have l8 : w.heap.size ≤ n8 := by rw [hn]; exact E.size
    have m8_3 : n3 < n8 := by rw [hn]; exact blk_lt q3
    have m8_6 : n6 < n8 := by rw [hn]; exact blk_lt q6
    have m8_14 : n14 < n8 := by rw [hn]; exact blk_lt q14
    have m8_16 : n16 < n8 := by rw [hn]; exact blk_lt q16
    replace q3 := keep_alloc hw q3
    replace q6 := keep_alloc hw q6
    replace q14 := keep_alloc hw q14
    replace q16 := keep_alloc hw q16
    have q8 := new_row hw hn
    replace E := ext_alloc E hw
    clear hw hn
    refine seq_new rfl rfl (R_alloc rfl Try.zeroValue105) (by simp only [List.set_cons_succ, List.set_cons_zero]; exact rfl) fun w7 hw => ?_
    obtain ⟨n9, hn⟩ : ∃ n, n = w6.heap.size := ⟨_, rfl⟩
    rw [← hn]
    have l9 : w.heap.size ≤ n9 := by rw [hn]; exact E.size
    have m9_3 : n3 < n9 := by rw [hn]; exact blk_lt q3
    have m9_6 : n6 < n9 := by rw [hn]; exact blk_lt q6
    have m9_14 : n14 < n9 := by rw [hn]; exact blk_lt q14
    have m9_16 : n16 < n9 := by rw [hn]; exact blk_lt q16
    have m9_8 : n8 < n9 := by rw [hn]; exact blk_lt q8
    replace q3 := keep_alloc hw q3
    replace q6 := keep_alloc hw q6
    replace q14 := keep_alloc hw q14
    replace q16 := keep_alloc hw q16
    replace q8 := keep_alloc hw q8
    have q9 := new_row hw hn
    replace E := ext_alloc E hw
    clear hw hn
    refine seq_to rfl rfl (R_storeRow rfl rfl rfl (by rw [hVs]; kernel_rfl) hVo q8 (by rw [hVs]; rfl)) fun w8 hw => ?_
    replace q3 := keep_cells hw q3 (by omega)
    replace q6 := keep_cells hw q6 (by omega)
    replace q14 := keep_cells hw q14 (by omega)
    replace q16 := keep_cells hw q16 (by omega)
    replace q8 := put_row hw q8 (by rw [hVs]; rfl)
    replace q9 := keep_cells hw q9 (by omega)
    replace E := ext_cells E hw (fun h => by first | exact absurd h (by omega) | simp)
    clear hw
    refine seq_to rfl rfl (R_storeRow rfl rfl rfl (by rw [matCells_size]; kernel_rfl) (by rw [← matList_toArray]; exact all_oneCell_toArray (matList_one _)) q9 (by show Try.zeroCells105.size = _; rw [Try.zeroCells105_size, matCells_size])) fun w9 hw => ?_
    replace q3 := keep_cells hw q3 (by omega)
    replace q6 := keep_cells hw q6 (by omega)
    replace q14 := keep_cells hw q14 (by omega)
    replace q16 := keep_cells hw q16 (by omega)
    replace q8 := keep_cells hw q8 (by omega)
    replace q9 := put_row hw q9 (by show Try.zeroCells105.size = _; rw [Try.zeroCells105_size, matCells_size])
    replace E := ext_cells E hw (fun h => by first | exact absurd h (by omega) | simp)
    clear hw
    refine seq_val rfl rfl (R_assign (v := .int .i64 _) rfl rfl) (by simp only [List.set_cons_succ, List.set_cons_zero]; exact rfl) ?_
    refine wpList_nil ?_
    clear e1
    go_upto_region 3 with (fail)
    refine wp_region_lit ?_
    refine seq_val rfl rfl (R_build' rfl (cells := #[.int .i64 0, .int .i64 0]) (by kernel_rfl)) (by simp only [List.set_cons_succ, List.set_cons_zero]; exact rfl) ?_
    refine seq_val rfl rfl (R_move (v := .int .i64 _) rfl rfl) (by simp only [List.set_cons_succ, List.set_cons_zero]; exact rfl) ?_
    refine seq_to rfl rfl (R_storeRow rfl rfl rfl (by kernel_rfl) (by simp [Value.oneCell']) q6 rfl) fun w10 hw => ?_
    replace q3 := keep_cells hw q3 (by omega)
    replace q6 := put_row hw q6 rfl
    replace q14 := keep_cells hw q14 (by omega)
    replace q16 := keep_cells hw q16 (by omega)
    replace q8 := keep_cells hw q8 (by omega)
    replace q9 := keep_cells hw q9 (by omega)
    replace E := ext_cells E hw (fun h => by first | exact absurd h (by omega) | simp)
    clear hw
    refine seq_val rfl rfl (R_assign (v := .int .i64 _) rfl rfl) (by simp only [List.set_cons_succ, List.set_cons_zero]; exact rfl) ?_
    refine wpList_nil ?_
    go_wp2
    refine bodyPost_ret (res_ct rfl rfl Try.underlying23 rfl (by kernel_rfl) q6 rfl) rfl ⟨rfl, E⟩
end Go.Proofs.Ytholfdgebdlgjaa
