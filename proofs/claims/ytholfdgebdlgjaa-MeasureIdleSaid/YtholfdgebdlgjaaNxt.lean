/- The walk of Next. Conditions: lists of at most 1000; the readings' capacity is no less than their number. -/
import Derived.Test.YtholfdgebdlgjaaRed
import Derived.Test.YtholfdgebdlgjaaRng
import Derived.ScopeJumps
namespace Go.Proofs.Ytholfdgebdlgjaa
open Go.RowKit
set_option linter.unusedVariables false
set_option linter.unusedSimpArgs false
/-- How many numbers a measure can have. -/
def numB (t : Tp) (at_ : Nat) : Int := bdV t 0 0 at_ + bdV t 0 at_ 0 + 1
/-- All tapes of a tailor: the most numbers that are left; none if that is not less. -/
def nxt1 (t : Tp) (s a : Int) (i : Nat) (left : Int) : Nat → Int → Int → Option Int
  | 0, _, most => some most
  | n + 1, tape, most =>
    if bdB (addR t (s, a, i, tape)) 0 = true then
      if left ≤ max most (numB (addR t (s, a, i, tape)) (nodeC s a)) then none
      else nxt1 t s a i left n (tape + 1) (max most (numB (addR t (s, a, i, tape)) (nodeC s a)))
    else nxt1 t s a i left n (tape + 1) most
def nxtLo (t : Tp) (s a : Int) (i : Nat) : Int := -(bdV t 0 (nodeC s a) (nodeT i)) - t.sl
def nxtHi (t : Tp) (s a : Int) (i : Nat) : Int := bdV t 0 (nodeT i) (nodeC s a) + t.sl
/-- A tailor is taken, or not. -/
def nxtPick (r : Option Int) (old : Int × Int) (i : Nat) : Int × Int := match r with
  | none => old
  | some m => ((i : Int), m)
/-- The best of the first tailors, and how many numbers are left. -/
def nxtTo (t : Tp) (s a : Int) : Nat → Int × Int
  | 0 => (-1, numB t (nodeC s a))
  | i + 1 => nxtPick (nxt1 t s a i (nxtTo t s a i).2 (nxtHi t s a i - nxtLo t s a i + 1).toNat (nxtLo t s a i) 0) (nxtTo t s a i) i
theorem nxtTo_succ (t : Tp) (s a : Int) (i : Nat) : nxtTo t s a (i + 1) = nxtPick (nxt1 t s a i (nxtTo t s a i).2 (nxtHi t s a i - nxtLo t s a i + 1).toNat (nxtLo t s a i) 0) (nxtTo t s a i) i := by rw [nxtTo]
def nextE (t : Tp) (s a : Int) : Int := if measE t s a ≠ 0 then measE t s a else if (nxtTo t s a t.T.toNat).1 < 0 then 11 else 0
def nextV (t : Tp) (s a : Int) : Int × Int := if nextE t s a = 0 then nxtTo t s a t.T.toNat else (0, 0)
theorem sum_bd {t : Tp} (ok : t.Ok) (hb : bdB t 0 = true) {s a i : Nat} (hs : (s : Int) < t.S) (ha : (a : Int) < t.A) (hi : (i : Int) < t.T) :
    11 ≤ -(bdV t 0 (nodeC s a) (nodeT i)) ∧ bdV t 0 (nodeT i) (nodeC s a) ≤ 209 := by
  have hy := bdB_get hb
  have k1 := ok.bl1
  have k2 := ok.bm1
  have k3 := ok.pl1
  have k4 := ok.pm1
  constructor
  · obtain ⟨r, r0⟩ := bd_reach ok hy (live_lt ok (live_cell hs ha))
    have c := (r.cell s a hs ha).lo
    have d := (r.tail i hi).hi
    try simp only at c d
    omega
  · obtain ⟨r, r0⟩ := bd_reach ok hy (live_lt ok (live_tail hi))
    have c := (r.cell s a hs ha).hi
    have d := (r.tail i hi).lo
    try simp only at c d
    omega
theorem addR_ok {t : Tp} (ok : t.Ok) (h8 : t.rd.length ≤ 8) {s a i tape : Int} (h : 0 ≤ s ∧ s < t.S) (h2 : 0 ≤ a ∧ a < t.A) (h3 : 0 ≤ i ∧ i < t.T) (h4 : 0 ≤ tape ∧ tape ≤ 250) : (addR t (s, a, i, tape)).Ok :=
  { ok with
    rdl := by simp [addR]; omega
    rd := fun r hr => by
      simp only [addR, List.mem_append, List.mem_cons, List.not_mem_nil, or_false] at hr
      rcases hr with hr | rfl
      · exact ok.rd r hr
      · exact ⟨h.1, h.2, h2.1, h2.2, h3.1, h3.2, h4.1, h4.2⟩ }
theorem jump_ret {l : Nat} {J : Act → World → Prop} {Q : Exit → Act → World → Prop} {a : Act} {w : World} (h : Q .ret a w) : Exit.jump l J Q .ret a w := h
theorem apart_n (m : Nat → Nat → Int) (l h : Nat) (hl : l < 13) (hh : h < 13) (big : -1000000000000000000 ≤ m h l ∧ m h l ≤ 1000000000000000000) (w : World) :
    Calls Try.prog 91 #[.agg (matCells m), .int .i64 l, .int .i64 h] w fun e w' => e = .returned (.agg #[.int .i64 (-(m h l)), .int .i64 (m l h)]) ∧ Ext [] w w' := by
  refine (apart_any m l h w (by omega) (by omega) (by omega) (by omega) (by simpa using big.1) (by simpa using big.2)).mono fun e w' hr => ⟨?_, Ext.of_below hr.2⟩
  rw [hr.1, Int.toNat_natCast, Int.toNat_natCast]
theorem cell_n (s a : Nat) (h1 : s ≤ 1000) (h2 : a ≤ 1000) (w : World) :
    Calls Try.prog 92 #[.int .i64 s, .int .i64 a] w fun e w' => e = .returned (.int .i64 (nodeC s a : Nat)) ∧ w = w' := by
  refine (cell_any s a w (by omega) (by omega) (by omega) (by omega)).mono fun e w' hr => ⟨hr.1.trans (ret_int ?_), hr.2⟩
  unfold nodeC; omega
theorem tug_n (i : Nat) (h1 : i ≤ 1000) (w : World) :
    Calls Try.prog 101 #[.int .i64 i] w fun e w' => e = .returned (.int .i64 (nodeT i : Nat)) ∧ w = w' := by
  refine (tug_any i w (by omega) (by omega)).mono fun e w' hr => ⟨hr.1.trans (ret_int ?_), hr.2⟩
  unfold nodeT; omega
theorem num_n (t : Tp) (c : Nat) (b1 : -1000000000000000000 ≤ bdV t 0 c 0 ∧ bdV t 0 c 0 ≤ 1000000000000000000) (b2 : -1000000000000000000 ≤ bdV t 0 0 c ∧ bdV t 0 0 c ≤ 1000000000000000000) (w : World) :
    Calls Try.prog 100 #[.agg #[.int .i64 (-(bdV t 0 c 0)), .int .i64 (bdV t 0 0 c)]] w fun e w' => e = .returned (.int .i64 (numB t c)) ∧ Ext [] w w' := by
  refine (numbers_any _ _ w (by omega) (by omega) (by omega) (by omega)).mono fun e w' hr => ⟨hr.1.trans (ret_int ?_), hr.2⟩
  unfold numB; omega
set_option maxRecDepth 100000 in
set_option maxHeartbeats 4000000 in
theorem next_any (t : Tp) (gv lv : Value) (ra : Option Addr) (rcap : Nat) (s a : Int) (w : World) (ht : IsTp w gv (.slice ra t.rd.length rcap) lv t) (hl1 : t.gr.length ≤ 1000) (hl2 : t.rd.length ≤ 1000) (hl3 : t.lk.length ≤ 1000) (hrc : t.rd.length ≤ rcap) :
    Calls Try.prog 38 #[tpV t gv (.slice ra t.rd.length rcap) lv, .int .i64 s, .int .i64 a] w fun e w' => e = .returned (.tuple #[.int .i64 (nextV t s a).1, .int .i64 (nextV t s a).2, .int .i64 (nextE t s a)]) ∧ Ext [] w w' := by
  obtain ⟨rv, hrv⟩ : ∃ rv, rv = Value.slice ra t.rd.length rcap := ⟨_, rfl⟩
  have ht0 := ht
  rw [← hrv] at ht
  have hone := tp_one ht
  have HK : Hid (∀ (W : World) (b1 b2 : Nat), Ext [] w W → W.heap[b1]? = some (.cells #[.int .i64 s] 3 (0, 0)) → W.heap[b2]? = some (.cells #[.int .i64 a] 3 (0, 0)) → Calls Try.prog 90 #[tpV t gv rv lv, .slice (some ⟨b1, 0, none⟩) 1 1, .slice (some ⟨b2, 0, none⟩) 1 1, .slice none 0 0] W fun e w' => e = .returned (.tuple #[.agg (openV t (sel3 [s] [a] []) gv rv lv), .agg (matCells (solvedM t (sel3 [s] [a] []))), .int .i64 (measE t s a)]) ∧ Ext [] W w') :=
    fun W b1 b2 e h1 h2 => solved_any t gv rv lv (sel3 [s] [a] []) (sel3 (some ⟨b1, 0, none⟩) (some ⟨b2, 0, none⟩) none) (sel3 1 1 0) W (ht.ext e (by simp)) hl1 hl2 hl3 (rows3 (rows_lit [s] 1 h1) (rows_lit [a] 1 h2) (rows_nil _ _ _)) (fun i hi => by rcases i with _ | _ | i <;> simp [sel3])
  have E : Ext [] w w := Ext.refl _ _
  have hVs := openV_size t (sel3 [s] [a] []) gv rv lv
  have hVo := openV_one (t := t) (xs := sel3 [s] [a] []) hone
  by_cases h : measE t s a = 0
  · obtain ⟨h1, h2⟩ := solved_open h
    obtain ⟨ok, h8⟩ := checkE_zero.1 (openE_check h1)
    have ks := ask_known h1 (i := 0) (by omega) (n := s) (by simp [sel3])
    have ka := ask_known h1 (i := 1) (by omega) (n := a) (by simp [sel3])
    have k1 := ok.S3
    have k2 := ok.A3
    have k3 := ok.T3
    have k4 := ok.T1
    have k5 := ok.sl0
    have k6 := ok.sl5
    rw [show lim t 0 = t.S from rfl] at ks
    rw [show lim t 1 = t.A from rfl] at ka
    rw [openV_ok h1, show solvedM t (sel3 [s] [a] []) = bdV t 0 from if_pos h1, h] at HK
    have HE : Hid (nextE t s a = if (nxtTo t s a t.T.toNat).1 < 0 then 11 else 0) := by show _ = _; rw [nextE, if_neg (by simpa using h)]
    obtain ⟨s, rfl⟩ := Int.eq_ofNat_of_zero_le ks.1
    obtain ⟨a, rfl⟩ := Int.eq_ofNat_of_zero_le ka.1
    have big := fun p q hp hq => bd_big ok 0 (p := p) (q := q) hp hq
    have HSum := Lib.hid (fun i hi => sum_bd ok h2 (s := s) (a := a) (i := i) ks.2 ka.2 hi)
    have HSol : Hid (∀ (i : Nat) (tape : Int) (W : World) (b cap : Nat), (i : Int) < t.T → 0 ≤ tape → tape ≤ 250 → IsTp W gv (.slice (some ⟨b, 0, none⟩) (addR t (s, a, i, tape)).rd.length cap) lv (addR t (s, a, i, tape)) →
        Calls Try.prog 80 #[tpV (addR t (s, a, i, tape)) gv (.slice (some ⟨b, 0, none⟩) (addR t (s, a, i, tape)).rd.length cap) lv, .int .u16 0] W fun e w' => e = .returned (.tuple #[.agg (matCells (bdV (addR t (s, a, i, tape)) 0)), .bool (bdB (addR t (s, a, i, tape)) 0)]) ∧ Ext [] W w') :=
      fun i tape W b cap hi h0 h1 hT => solve_v _ (addR_ok ok h8 ⟨by omega, ks.2⟩ ⟨by omega, ka.2⟩ ⟨by omega, hi⟩ ⟨h0, h1⟩) _ _ _ 0 (by omega) (by omega) W hT
    have HBig : Hid (∀ (i : Nat) (tape : Int) (p q : Nat), (i : Int) < t.T → 0 ≤ tape → tape ≤ 250 → p < 13 → q < 13 → -1000000000000000000 ≤ bdV (addR t (s, a, i, tape)) 0 p q ∧ bdV (addR t (s, a, i, tape)) 0 p q ≤ 1000000000000000000) :=
      fun i tape p q hi h0 h1 hp hq => bd_big (addR_ok ok h8 ⟨by omega, ks.2⟩ ⟨by omega, ka.2⟩ ⟨by omega, hi⟩ ⟨h0, h1⟩) 0 hp hq
    have HBg := Lib.hid big
    have HRd := Lib.hid (fun (r : Int × Int × Int × Int) (W : World) (e : Ext [] w W) => read_any t gv lv ra rcap r W (ht0.ext e (by simp)) hl2 hrc)
    clear big ht ht0 h1 h2 ok h hVs hVo
    subst hrv
    unfold tpV at HK HRd HSol ⊢
    go_enter Try.func38, Try.ntmps38
    go_upto_region 0 with (fail)
    refine wp_region_lit ?_
    refine seq_new rfl rfl (R_box (v := .agg _) rfl rfl) (by simp only [List.set_cons_succ, List.set_cons_zero]; exact rfl) fun w1 hw => ?_
    obtain ⟨n3, hn⟩ : ∃ n, n = w.heap.size := ⟨_, rfl⟩
    rw [← hn]
    have l3 : w.heap.size ≤ n3 := by rw [hn]; exact E.size
    have q3 := new_row hw hn
    replace E := ext_alloc E hw
    clear hw hn
    refine seq_val rfl rfl (R_assign (v := .int .i64 _) rfl rfl) (by simp only [List.set_cons_succ, List.set_cons_zero]; exact rfl) ?_
    refine seq_val rfl rfl (R_assign (v := .int .i64 _) rfl rfl) (by simp only [List.set_cons_succ, List.set_cons_zero]; exact rfl) ?_
    refine seq_val rfl rfl (R_assign (v := .int .i64 _) rfl rfl) (by simp only [List.set_cons_succ, List.set_cons_zero]; exact rfl) ?_
    refine wpList_nil ?_
    go_upto_region 1 with (fail)
    refine wp_scope_jumps 0 (fun _ _ => False) (fun _ _ => 0) (by exact rfl) ?_ (fun _ _ h => h.elim)
    go_upto_region 1 with (fail)
    refine wp_region_lit ?_
    refine seq_val rfl rfl (R_loadBlk rfl rfl Try.underlying28 rfl (by kernel_rfl) q3) (by simp only [List.set_cons_succ, List.set_cons_zero]; exact rfl) ?_
    refine seq_val rfl rfl (R_move (v := .int .i64 _) rfl rfl) (by simp only [List.set_cons_succ, List.set_cons_zero]; exact rfl) ?_
    refine seq_new rfl rfl (R_buildSlice rfl Try.underlying29 (size := 1) (by kernel_rfl) (by decide) (by decide) Try.zeroValue3 (cells := #[.int .i64 s]) (by kernel_rfl)) (by simp only [List.set_cons_succ, List.set_cons_zero]; exact rfl) fun w2 hw => ?_
    obtain ⟨n25, hn⟩ : ∃ n, n = w1.heap.size := ⟨_, rfl⟩
    rw [← hn]
    have l25 : w.heap.size ≤ n25 := by rw [hn]; exact E.size
    have m25_3 : n3 < n25 := by rw [hn]; exact blk_lt q3
    replace q3 := keep_alloc hw q3
    have q25 := new_block hw hn
    replace E := ext_alloc E hw
    clear hw hn
    refine seq_val rfl rfl (R_move (v := .int .i64 _) rfl rfl) (by simp only [List.set_cons_succ, List.set_cons_zero]; exact rfl) ?_
    refine seq_new rfl rfl (R_buildSlice rfl Try.underlying29 (size := 1) (by kernel_rfl) (by decide) (by decide) Try.zeroValue3 (cells := #[.int .i64 a]) (by kernel_rfl)) (by simp only [List.set_cons_succ, List.set_cons_zero]; exact rfl) fun w3 hw => ?_
    obtain ⟨n27, hn⟩ : ∃ n, n = w2.heap.size := ⟨_, rfl⟩
    rw [← hn]
    have l27 : w.heap.size ≤ n27 := by rw [hn]; exact E.size
    have m27_3 : n3 < n27 := by rw [hn]; exact blk_lt q3
    have m27_25 : n25 < n27 := by rw [hn]; exact blk_lt q25
    replace q3 := keep_alloc hw q3
    replace q25 := keep_alloc hw q25
    have q27 := new_block hw hn
    replace E := ext_alloc E hw
    clear hw hn
    refine seq_call rfl rfl (by kernel_rfl) (HK.out _ n25 n27 E q25 q27) fun e w4 hR => ?_
    obtain ⟨rfl, e1⟩ := hR
    refine ⟨_, _, rfl, (by simp only [List.set_cons_succ, List.set_cons_zero]; exact rfl), ?_⟩
    replace q3 := (e1).keep0 q3
    replace q25 := (e1).keep0 q25
    replace q27 := (e1).keep0 q27
    replace E := ext_same E (e1)
    refine seq_val rfl rfl (R_move (v := .tuple _) rfl rfl) (by simp only [List.set_cons_succ, List.set_cons_zero]; exact rfl) ?_
    refine seq_val rfl rfl (R_extract rfl rfl (get0)) (by simp only [List.set_cons_succ, List.set_cons_zero]; exact rfl) ?_
    refine seq_val rfl rfl (R_extract rfl rfl (getS (get0))) (by simp only [List.set_cons_succ, List.set_cons_zero]; exact rfl) ?_
    refine seq_val rfl rfl (R_extract rfl rfl (getS (getS (get0)))) (by simp only [List.set_cons_succ, List.set_cons_zero]; exact rfl) ?_
    refine seq_new rfl rfl (R_alloc rfl Try.zeroValue100) (by simp only [List.set_cons_succ, List.set_cons_zero]; exact rfl) fun w5 hw => ?_
    obtain ⟨n9, hn⟩ : ∃ n, n = w4.heap.size := ⟨_, rfl⟩
    rw [← hn]
    have l9 : w.heap.size ≤ n9 := by rw [hn]; exact E.size
    have m9_3 : n3 < n9 := by rw [hn]; exact blk_lt q3
    have m9_25 : n25 < n9 := by rw [hn]; exact blk_lt q25
    have m9_27 : n27 < n9 := by rw [hn]; exact blk_lt q27
    replace q3 := keep_alloc hw q3
    replace q25 := keep_alloc hw q25
    replace q27 := keep_alloc hw q27
    have q9 := new_row hw hn
    replace E := ext_alloc E hw
    clear hw hn
    refine seq_new rfl rfl (R_alloc rfl Try.zeroValue105) (by simp only [List.set_cons_succ, List.set_cons_zero]; exact rfl) fun w6 hw => ?_
    obtain ⟨n10, hn⟩ : ∃ n, n = w5.heap.size := ⟨_, rfl⟩
    rw [← hn]
    have l10 : w.heap.size ≤ n10 := by rw [hn]; exact E.size
    have m10_3 : n3 < n10 := by rw [hn]; exact blk_lt q3
    have m10_25 : n25 < n10 := by rw [hn]; exact blk_lt q25
    have m10_27 : n27 < n10 := by rw [hn]; exact blk_lt q27
    have m10_9 : n9 < n10 := by rw [hn]; exact blk_lt q9
    replace q3 := keep_alloc hw q3
    replace q25 := keep_alloc hw q25
    replace q27 := keep_alloc hw q27
    replace q9 := keep_alloc hw q9
    have q10 := new_row hw hn
    replace E := ext_alloc E hw
    clear hw hn
    refine seq_to rfl rfl (R_storeRow rfl rfl rfl (by kernel_rfl) (tp_cells_one hone) q9 rfl) fun w7 hw => ?_
    replace q3 := keep_cells hw q3 (by omega)
    replace q25 := keep_cells hw q25 (by omega)
    replace q27 := keep_cells hw q27 (by omega)
    replace q9 := put_row hw q9 rfl
    replace q10 := keep_cells hw q10 (by omega)
    replace E := ext_cells E hw (fun h => by first | exact absurd h (by omega) | simp)
    clear hw
    refine seq_to rfl rfl (R_storeRow rfl rfl rfl (by rw [matCells_size]; kernel_rfl) (by rw [← matList_toArray]; exact all_oneCell_toArray (matList_one _)) q10 (by show Try.zeroCells105.size = _; rw [Try.zeroCells105_size, matCells_size])) fun w8 hw => ?_
    replace q3 := keep_cells hw q3 (by omega)
    replace q25 := keep_cells hw q25 (by omega)
    replace q27 := keep_cells hw q27 (by omega)
    replace q9 := keep_cells hw q9 (by omega)
    replace q10 := put_row hw q10 (by show Try.zeroCells105.size = _; rw [Try.zeroCells105_size, matCells_size])
    replace E := ext_cells E hw (fun h => by first | exact absurd h (by omega) | simp)
    clear hw
    refine seq_val rfl rfl (R_assign (v := .int .i64 _) rfl rfl) (by simp only [List.set_cons_succ, List.set_cons_zero]; exact rfl) ?_
    refine wpList_nil ?_
    clear e1 q25 q27
    have hc : nodeC s a < 13 := by unfold nodeC; omega
    have HAp : Hid (∀ W : World, Calls Try.prog 91 #[.agg (matCells (bdV t 0)), .int .i64 0, .int .i64 (nodeC s a : Nat)] W fun e w' => e = .returned (.agg #[.int .i64 (-(bdV t 0 (nodeC s a) 0)), .int .i64 (bdV t 0 0 (nodeC s a))]) ∧ Ext [] W w') :=
      fun W => apart_n (bdV t 0) 0 (nodeC s a) (by omega) hc (HBg.out _ _ hc (by omega)) W
    have HNm := Lib.hid (num_n t (nodeC s a) (HBg.out _ _ hc (by omega)) (HBg.out _ _ (by omega) hc))
    go_upto_region 4 with (fail)
    refine wp_region_lit ?_
    refine seq_val rfl rfl (R_move (v := .int .i64 _) rfl rfl) (by simp only [List.set_cons_succ, List.set_cons_zero]; exact rfl) ?_
    refine seq_val rfl rfl (R_move (v := .int .i64 _) rfl rfl) (by simp only [List.set_cons_succ, List.set_cons_zero]; exact rfl) ?_
    refine seq_call rfl rfl (by kernel_rfl) (cell_n s a (by omega) (by omega) _) fun e w' hR => ?_
    obtain ⟨rfl, rfl⟩ := hR
    refine ⟨_, _, rfl, (by simp only [List.set_cons_succ, List.set_cons_zero]; exact rfl), ?_⟩
    refine seq_val rfl rfl (R_assign (v := .int .i64 _) rfl rfl) (by simp only [List.set_cons_succ, List.set_cons_zero]; exact rfl) ?_
    refine wpList_nil ?_
    go_upto_region 5 with (fail)
    refine wp_region_lit ?_
    refine seq_val rfl rfl (R_loadBlk rfl rfl Try.underlying105 rfl (by rw [matCells_size]; kernel_rfl) q10) (by simp only [List.set_cons_succ, List.set_cons_zero]; exact rfl) ?_
    refine seq_val rfl rfl (R_move (v := .int .i64 _) rfl rfl) (by simp only [List.set_cons_succ, List.set_cons_zero]; exact rfl) ?_
    refine seq_call rfl rfl (by kernel_rfl) (HAp.out _) fun e w9 hR => ?_
    obtain ⟨rfl, e1⟩ := hR
    refine ⟨_, _, rfl, (by simp only [List.set_cons_succ, List.set_cons_zero]; exact rfl), ?_⟩
    replace q3 := (e1).keep0 q3
    replace q9 := (e1).keep0 q9
    replace q10 := (e1).keep0 q10
    replace E := ext_same E (e1)
    refine seq_call rfl rfl (by kernel_rfl) (HNm.out _) fun e w10 hR => ?_
    obtain ⟨rfl, e2⟩ := hR
    refine ⟨_, _, rfl, (by simp only [List.set_cons_succ, List.set_cons_zero]; exact rfl), ?_⟩
    replace q3 := (e2).keep0 q3
    replace q9 := (e2).keep0 q9
    replace q10 := (e2).keep0 q10
    replace E := ext_same E (e2)
    refine seq_val rfl rfl (R_assign (v := .int .i64 _) rfl rfl) (by simp only [List.set_cons_succ, List.set_cons_zero]; exact rfl) ?_
    refine seq_val rfl rfl (R_assign (v := .int .i64 _) rfl rfl) (by simp only [List.set_cons_succ, List.set_cons_zero]; exact rfl) ?_
    refine wpList_nil ?_
    clear e1 e2
    have ct := (cells_of_block q9 2).trans (getS (getS get0))
    go_wp2_with fail
    refine wp_label ?_
    go_wp2_with fail
    clear ct
    go_loopw [45, 13, 14] (fun iv bv lv' wr => ∃ i : Nat, (i : Int) ≤ t.T ∧ iv = .int .i64 i ∧ bv = .int .i64 (nxtTo t s a i).1 ∧ lv' = .int .i64 (nxtTo t s a i).2 ∧
      wr.heap[n3]? = some (.cells #[.int .i64 t.S, .int .i64 t.A, .int .i64 t.T, .int .i64 t.bl, .int .i64 t.bm, .int .i64 t.pl, .int .i64 t.pm, .int .i64 t.sl, gv, .slice ra t.rd.length rcap, lv] 28 (0, 0)) ∧
      wr.heap[n10]? = some (.cells (matCells (bdV t 0)) 105 (0, 0)) ∧ Ext [] w wr) (fun iv _ _ _ => t.T.toNat - (intOf iv).toNat)
    case atStart => exact ⟨0, by omega, rfl, rfl, rfl, q3, q10, E⟩
    case round =>
      clear q3 q9 q10 E
      obtain ⟨i, hi, rfl, rfl, rfl, q3, q10, E⟩ := hrel
      by_cases hlt : (i : Int) < t.T
      · have hd : nodeT i < 13 := by unfold nodeT; omega
        have hap := fun W => apart_n (bdV t 0) (nodeT i) (nodeC s a) hd hc (HBg.out _ _ hc hd) W
        have hsum := HSum.out i hlt
        have bgd := HBg.out (nodeC s a) (nodeT i) hc hd
        have bgd2 := HBg.out (nodeT i) (nodeC s a) hd hc
        go_upto_region 10 with (fail)
        refine region_until (Ext [] wr) 6 follows fun w11 hh eS => ?_
        have q3_ := q3
        have q10_ := q10
        replace q3 := keep_same hh q3
        replace q10 := keep_same hh q10
        replace E := ext_same E eS
        refine anyU_take (i := 0) (last := 6) rfl rfl (by decide) (by kernel_rfl) (by kernel_rfl) (by kernel_rfl) (by kernel_rfl) (by kernel_rfl) (fun _ _ _ h => h) rfl rfl (fun w' hS => R_loadBlk rfl rfl Try.underlying105 rfl (by rw [matCells_size]; kernel_rfl) (hS.keep q10_ (by simp))) eS (by simp only [List.set_cons_succ, List.set_cons_zero]; exact rfl) ?_
        refine anyU_take (i := 1) (last := 6) rfl rfl (by decide) (by kernel_rfl) (by kernel_rfl) (by kernel_rfl) (by kernel_rfl) (by kernel_rfl) (fun _ _ _ h => h) rfl rfl (fun w' hS => R_move (v := .int .i64 _) rfl rfl) eS (by simp only [List.set_cons_succ, List.set_cons_zero]; exact rfl) ?_
        refine anyU_take (i := 3) (last := 6) rfl rfl (by decide) (by kernel_rfl) (by kernel_rfl) (by kernel_rfl) (by kernel_rfl) (by kernel_rfl) (fun _ _ _ h => h) rfl rfl (fun w' hS => R_move (v := .int .i64 _) rfl rfl) eS (by simp only [List.set_cons_succ, List.set_cons_zero]; exact rfl) ?_
        refine anyU_pair (i := 2) (j := 5) (by kernel_rfl) ?_ ?_
        refine opU_call rfl rfl rfl (by kernel_rfl) (tug_n i (by omega) _) fun e w' hR => ?_
        obtain ⟨rfl, rfl⟩ := hR
        refine ⟨_, _, rfl, (by simp only [List.set_cons_succ, List.set_cons_zero]; exact rfl), fun _ => eS, ?_⟩
        refine anyU_pair (i := 4) (j := 5) (by kernel_rfl) ?_ ?_
        refine opU_call rfl rfl rfl (by kernel_rfl) (hap _) fun e w13 hR => ?_
        obtain ⟨rfl, e1⟩ := hR
        replace eS := eS.nil (e1)
        replace q3 := (e1).keep0 q3
        replace q10 := (e1).keep0 q10
        replace E := ext_same E (e1)
        refine ⟨_, _, rfl, (by simp only [List.set_cons_succ, List.set_cons_zero]; exact rfl), fun _ => eS, ?_⟩
        refine anyU_new (i := 5) rfl (by kernel_rfl) rfl rfl (R_alloc rfl Try.zeroValue23) (by simp only [List.set_cons_succ, List.set_cons_zero]; exact rfl) fun w14 hw => ?_
        replace eS := ext_alloc eS hw
        obtain ⟨n17, hn⟩ : ∃ n, n = w13.heap.size := ⟨_, rfl⟩
        rw [← hn]
        have l17 : w.heap.size ≤ n17 := by rw [hn]; exact E.size
        have m17_3 : n3 < n17 := by rw [hn]; exact blk_lt q3
        have m17_10 : n10 < n17 := by rw [hn]; exact blk_lt q10
        replace q3 := keep_alloc hw q3
        replace q10 := keep_alloc hw q10
        have q17 := new_row hw hn
        replace E := ext_alloc E hw
        clear hw hn
        refine ⟨fun _ => eS, ?_⟩
        refine anyU_last (o := _) rfl (by kernel_rfl) rfl rfl (R_storeRow rfl rfl rfl (by kernel_rfl) (by simp [Value.oneCell']) q17 rfl) (by kernel_rfl) fun w15 hw => ?_
        replace q3 := keep_cells hw q3 (by omega)
        replace q10 := keep_cells hw q10 (by omega)
        replace q17 := put_row hw q17 rfl
        replace E := ext_cells E hw (fun h => by first | exact absurd h (by omega) | simp)
        clear hw
        refine anyU_done (by kernel_rfl) ?_ _
        clear q3_ q10_ hh eS
        rotate_left
        refine opU_new rfl rfl rfl (R_alloc rfl Try.zeroValue23) (by simp only [List.set_cons_succ, List.set_cons_zero]; exact rfl) fun w13 hw => ?_
        replace eS := ext_alloc eS hw
        obtain ⟨n17, hn⟩ : ∃ n, n = w11.heap.size := ⟨_, rfl⟩
        rw [← hn]
        have l17 : w.heap.size ≤ n17 := by rw [hn]; exact E.size
        have m17_3 : n3 < n17 := by rw [hn]; exact blk_lt q3
        have m17_10 : n10 < n17 := by rw [hn]; exact blk_lt q10
        replace q3 := keep_alloc hw q3
        replace q10 := keep_alloc hw q10
        have q17 := new_row hw hn
        replace E := ext_alloc E hw
        clear hw hn
        refine ⟨fun _ => eS, ?_⟩
        refine anyU_call (i := 4) rfl (by kernel_rfl) rfl rfl (by kernel_rfl) (hap _) fun e w14 hR => ?_
        obtain ⟨rfl, e1⟩ := hR
        replace eS := eS.nil (e1)
        replace q3 := (e1).keep0 q3
        replace q10 := (e1).keep0 q10
        replace q17 := (e1).keep0 q17
        replace E := ext_same E (e1)
        refine ⟨_, _, rfl, (by simp only [List.set_cons_succ, List.set_cons_zero]; exact rfl), eS, ?_⟩
        refine anyU_last (o := _) rfl (by kernel_rfl) rfl rfl (R_storeRow rfl rfl rfl (by kernel_rfl) (by simp [Value.oneCell']) q17 rfl) (by kernel_rfl) fun w15 hw => ?_
        replace q3 := keep_cells hw q3 (by omega)
        replace q10 := keep_cells hw q10 (by omega)
        replace q17 := put_row hw q17 rfl
        replace E := ext_cells E hw (fun h => by first | exact absurd h (by omega) | simp)
        clear hw
        refine anyU_done (by kernel_rfl) ?_ _
        clear q3_ q10_ hh eS
        rotate_left
        refine opU_new rfl rfl rfl (R_alloc rfl Try.zeroValue23) (by simp only [List.set_cons_succ, List.set_cons_zero]; exact rfl) fun w12 hw => ?_
        replace eS := ext_alloc eS hw
        obtain ⟨n17, hn⟩ : ∃ n, n = w11.heap.size := ⟨_, rfl⟩
        rw [← hn]
        have l17 : w.heap.size ≤ n17 := by rw [hn]; exact E.size
        have m17_3 : n3 < n17 := by rw [hn]; exact blk_lt q3
        have m17_10 : n10 < n17 := by rw [hn]; exact blk_lt q10
        replace q3 := keep_alloc hw q3
        replace q10 := keep_alloc hw q10
        have q17 := new_row hw hn
        replace E := ext_alloc E hw
        clear hw hn
        refine ⟨fun _ => eS, ?_⟩
        refine anyU_call (i := 2) rfl (by kernel_rfl) rfl rfl (by kernel_rfl) (tug_n i (by omega) _) fun e w' hR => ?_
        obtain ⟨rfl, rfl⟩ := hR
        refine ⟨_, _, rfl, (by simp only [List.set_cons_succ, List.set_cons_zero]; exact rfl), eS, ?_⟩
        refine anyU_call (i := 4) rfl (by kernel_rfl) rfl rfl (by kernel_rfl) (hap _) fun e w14 hR => ?_
        obtain ⟨rfl, e1⟩ := hR
        replace eS := eS.nil (e1)
        replace q3 := (e1).keep0 q3
        replace q10 := (e1).keep0 q10
        replace q17 := (e1).keep0 q17
        replace E := ext_same E (e1)
        refine ⟨_, _, rfl, (by simp only [List.set_cons_succ, List.set_cons_zero]; exact rfl), eS, ?_⟩
        refine anyU_last (o := _) rfl (by kernel_rfl) rfl rfl (R_storeRow rfl rfl rfl (by kernel_rfl) (by simp [Value.oneCell']) q17 rfl) (by kernel_rfl) fun w15 hw => ?_
        replace q3 := keep_cells hw q3 (by omega)
        replace q10 := keep_cells hw q10 (by omega)
        replace q17 := put_row hw q17 rfl
        replace E := ext_cells E hw (fun h => by first | exact absurd h (by omega) | simp)
        clear hw
        refine anyU_done (by kernel_rfl) ?_ _
        clear q3_ q10_ hh eS
        all_goals
          clear e1 hap
          go_upto_region 11 with (fail)
          refine wp_region_lit ?_
          refine seq_val rfl rfl (R_field rfl rfl Try.underlying23 rfl (n := 0) (sz := 1) rfl (by kernel_rfl) (by decide)) (by simp only [List.set_cons_succ, List.set_cons_zero]; exact rfl) ?_
          refine seq_val rfl rfl (R_load rfl rfl Try.underlying3 rfl ((cells_of_block q17 0).trans (get0))) (by simp only [List.set_cons_succ, List.set_cons_zero]; exact rfl) ?_
          refine seq_val rfl rfl (R_field rfl rfl Try.underlying28 rfl (n := 7) (sz := 1) rfl (by kernel_rfl) (by decide)) (by simp only [List.set_cons_succ, List.set_cons_zero]; exact rfl) ?_
          refine seq_val rfl rfl (R_load rfl rfl Try.underlying3 rfl ((cells_of_block q3 7).trans (getS (getS (getS (getS (getS (getS (getS (get0)))))))))) (by simp only [List.set_cons_succ, List.set_cons_zero]; exact rfl) ?_
          refine seq_val rfl rfl (R_sub rfl rfl rfl (by omega) (by omega)) (by simp only [List.set_cons_succ, List.set_cons_zero]; exact rfl) ?_
          refine seq_val rfl rfl (R_assign (v := .int .i64 _) rfl rfl) (by simp only [List.set_cons_succ, List.set_cons_zero]; exact rfl) ?_
          refine wpList_nil ?_
          obtain ⟨left, hleft⟩ : ∃ left, left = (nxtTo t s a i).2 := ⟨_, rfl⟩
          obtain ⟨cnt, hcnt⟩ : ∃ cnt, cnt = (nxtHi t s a i - nxtLo t s a i + 1).toNat := ⟨_, rfl⟩
          have HR := Lib.hid (show nxtTo t s a (i + 1) = nxtPick (nxt1 t s a i left cnt (nxtLo t s a i) 0) (nxtTo t s a i) i by rw [hcnt, hleft]; exact nxtTo_succ _ _ _ _)
          rw [← hleft]
          have HL := Lib.hid hleft
          clear hleft
          have hlo : -(bdV t 0 (nodeC s a) (nodeT i)) - t.sl = nxtLo t s a i := rfl
          have hhi : bdV t 0 (nodeT i) (nodeC s a) + t.sl = nxtHi t s a i := rfl
          rw [hlo]
          have Hcnt := Lib.hid hcnt
          have Hlo := Lib.hid hlo
          have Hhi := Lib.hid hhi
          have Hsum := Lib.hid hsum
          clear hcnt hlo hhi hsum
          generalize hbst : (nxtTo t s a i).1 = bst
          go_wp2_with fail
          go_loopw [18, 16] (fun tv mv wr => ∃ (k : Nat) (most : Int), k ≤ cnt ∧ tv = .int .i64 (nxtLo t s a i + k) ∧ mv = .int .i64 most ∧
            nxt1 t s a i left (cnt - k) (nxtLo t s a i + k) most = nxt1 t s a i left cnt (nxtLo t s a i) 0 ∧
            wr.heap[n3]? = some (.cells #[.int .i64 t.S, .int .i64 t.A, .int .i64 t.T, .int .i64 t.bl, .int .i64 t.bm, .int .i64 t.pl, .int .i64 t.pm, .int .i64 t.sl, gv, .slice ra t.rd.length rcap, lv] 28 (0, 0)) ∧
            wr.heap[n10]? = some (.cells (matCells (bdV t 0)) 105 (0, 0)) ∧
            wr.heap[n17]? = some (.cells #[.int .i64 (-(bdV t 0 (nodeC s a) (nodeT i))), .int .i64 (bdV t 0 (nodeT i) (nodeC s a))] 23 (0, 0)) ∧ Ext [] w wr) (fun tv _ _ => cnt - (intOf tv - nxtLo t s a i).toNat)
          case atStart => exact ⟨0, 0, Nat.zero_le _, by simp, rfl, by simp, q3, q10, q17, E⟩
          case round =>
            clear q3 q10 q17 E
            obtain ⟨k, most, hk, rfl, rfl, hn, q3, q10, q17, E⟩ := hrel
            have HN := Lib.hid hn; clear hn
            have hlo := Hlo.out
            have hhi := Hhi.out
            have hsum := Hsum.out
            have hcn := Hcnt.out
            go_upto_region 12 with (fail)
            refine wp_region_lit ?_
            refine seq_val rfl rfl (R_move (v := .int .i64 _) rfl rfl) (by simp only [List.set_cons_succ, List.set_cons_zero]; exact rfl) ?_
            refine seq_val rfl rfl (R_field rfl rfl Try.underlying23 rfl (n := 1) (sz := 1) rfl (by kernel_rfl) (by decide)) (by simp only [List.set_cons_succ, List.set_cons_zero]; exact rfl) ?_
            refine seq_val rfl rfl (R_load rfl rfl Try.underlying3 rfl ((cells_of_block q17 1).trans (getS (get0)))) (by simp only [List.set_cons_succ, List.set_cons_zero]; exact rfl) ?_
            refine seq_val rfl rfl (R_field rfl rfl Try.underlying28 rfl (n := 7) (sz := 1) rfl (by kernel_rfl) (by decide)) (by simp only [List.set_cons_succ, List.set_cons_zero]; exact rfl) ?_
            refine seq_val rfl rfl (R_load rfl rfl Try.underlying3 rfl ((cells_of_block q3 7).trans (getS (getS (getS (getS (getS (getS (getS (get0)))))))))) (by simp only [List.set_cons_succ, List.set_cons_zero]; exact rfl) ?_
            refine seq_val rfl rfl (R_add rfl rfl rfl (by omega) (by omega)) (by simp only [List.set_cons_succ, List.set_cons_zero]; exact rfl) ?_
            refine seq_val rfl rfl (R_leq rfl rfl rfl) (by simp only [List.set_cons_succ, List.set_cons_zero]; exact rfl) ?_
            refine wpList_nil ?_
            rw [hhi]
            by_cases hltk : k < cnt
            · have hle : nxtLo t s a i + (k : Int) ≤ nxtHi t s a i := by omega
              have g1 : 0 ≤ nxtLo t s a i + (k : Int) := by omega
              have g2 : nxtLo t s a i + (k : Int) ≤ 250 := by omega
              obtain ⟨tape, htape⟩ : ∃ tape, tape = nxtLo t s a i + (k : Int) := ⟨_, rfl⟩
              rw [← htape] at hle g1 g2 HN ⊢
              go_upto_region 14 with (fail)
              refine wp_region_lit ?_
              refine seq_val rfl rfl (R_loadBlk rfl rfl Try.underlying28 rfl (by kernel_rfl) q3) (by simp only [List.set_cons_succ, List.set_cons_zero]; exact rfl) ?_
              refine seq_val rfl rfl (R_move (v := .int .i64 _) rfl rfl) (by simp only [List.set_cons_succ, List.set_cons_zero]; exact rfl) ?_
              refine seq_val rfl rfl (R_move (v := .int .i64 _) rfl rfl) (by simp only [List.set_cons_succ, List.set_cons_zero]; exact rfl) ?_
              refine seq_val rfl rfl (R_move (v := .int .i64 _) rfl rfl) (by simp only [List.set_cons_succ, List.set_cons_zero]; exact rfl) ?_
              refine seq_val rfl rfl (R_move (v := .int .i64 _) rfl rfl) (by simp only [List.set_cons_succ, List.set_cons_zero]; exact rfl) ?_
              refine seq_val rfl rfl (R_build' rfl (cells := #[.int .i64 s, .int .i64 a, .int .i64 i, .int .i64 tape]) (by kernel_rfl)) (by simp only [List.set_cons_succ, List.set_cons_zero]; exact rfl) ?_
              refine seq_call rfl rfl (by kernel_rfl) (HRd.out (s, a, i, tape) _ E) fun e w16 hR => ?_
              obtain ⟨rb, rc, hrcap, rfl, hT, e1⟩ := hR
              refine ⟨_, _, rfl, (by simp only [List.set_cons_succ, List.set_cons_zero]; exact rfl), ?_⟩
              replace q3 := (e1).keep0 q3
              replace q10 := (e1).keep0 q10
              replace q17 := (e1).keep0 q17
              replace E := ext_same E (e1)
              have E2 : Ext [] w16 w16 := Ext.refl _ _
              refine seq_val rfl rfl (R_build' rfl (cells := (tpCells (addR t (s, a, i, tape)) gv (.slice (some ⟨rb, 0, none⟩) (addR t (s, a, i, tape)).rd.length rc) lv)) (by kernel_rfl)) (by simp only [List.set_cons_succ, List.set_cons_zero]; exact rfl) ?_
              refine seq_new rfl rfl (R_alloc rfl Try.zeroValue100) (by simp only [List.set_cons_succ, List.set_cons_zero]; exact rfl) fun w17 hw => ?_
              obtain ⟨n19, hn⟩ : ∃ n, n = w16.heap.size := ⟨_, rfl⟩
              rw [← hn]
              have l19 : w.heap.size ≤ n19 := by rw [hn]; exact E.size
              have l19_E2 : w16.heap.size ≤ n19 := by rw [hn]; exact E2.size
              have m19_3 : n3 < n19 := by rw [hn]; exact blk_lt q3
              have m19_10 : n10 < n19 := by rw [hn]; exact blk_lt q10
              have m19_17 : n17 < n19 := by rw [hn]; exact blk_lt q17
              replace q3 := keep_alloc hw q3
              replace q10 := keep_alloc hw q10
              replace q17 := keep_alloc hw q17
              replace E2 := ext_alloc E2 hw
              have q19 := new_row hw hn
              replace E := ext_alloc E hw
              clear hw hn
              refine seq_to rfl rfl (R_storeRow rfl rfl rfl (by kernel_rfl) (tp_cells_one ⟨hone.1, rfl, hone.2.2⟩) q19 rfl) fun w18 hw => ?_
              replace q3 := keep_cells hw q3 (by omega)
              replace q10 := keep_cells hw q10 (by omega)
              replace q17 := keep_cells hw q17 (by omega)
              replace q19 := put_row hw q19 rfl
              replace E2 := ext_cells E2 hw (fun h => by first | exact absurd h (by omega) | simp)
              replace E := ext_cells E hw (fun h => by first | exact absurd h (by omega) | simp)
              clear hw
              refine wpList_nil ?_
              clear e1
              go_upto_region 15 with (fail)
              refine wp_region_lit ?_
              refine seq_val rfl rfl (R_loadBlk rfl rfl Try.underlying100 rfl (by kernel_rfl) q19) (by simp only [List.set_cons_succ, List.set_cons_zero]; exact rfl) ?_
              refine seq_call rfl rfl (by kernel_rfl) (HSol.out i tape _ rb rc hlt g1 g2 (hT.ext E2 (by simp))) fun e w19 hR => ?_
              obtain ⟨rfl, e1⟩ := hR
              refine ⟨_, _, rfl, (by simp only [List.set_cons_succ, List.set_cons_zero]; exact rfl), ?_⟩
              replace q3 := (e1).keep0 q3
              replace q10 := (e1).keep0 q10
              replace q17 := (e1).keep0 q17
              replace q19 := (e1).keep0 q19
              replace E2 := ext_same E2 (e1)
              replace E := ext_same E (e1)
              refine seq_val rfl rfl (R_move (v := .tuple _) rfl rfl) (by simp only [List.set_cons_succ, List.set_cons_zero]; exact rfl) ?_
              refine seq_val rfl rfl (R_extract rfl rfl (get0)) (by simp only [List.set_cons_succ, List.set_cons_zero]; exact rfl) ?_
              refine seq_val rfl rfl (R_extract rfl rfl (getS (get0))) (by simp only [List.set_cons_succ, List.set_cons_zero]; exact rfl) ?_
              refine seq_new rfl rfl (R_alloc rfl Try.zeroValue105) (by simp only [List.set_cons_succ, List.set_cons_zero]; exact rfl) fun w20 hw => ?_
              obtain ⟨n20, hn⟩ : ∃ n, n = w19.heap.size := ⟨_, rfl⟩
              rw [← hn]
              have l20 : w.heap.size ≤ n20 := by rw [hn]; exact E.size
              have l20_E2 : w16.heap.size ≤ n20 := by rw [hn]; exact E2.size
              have m20_3 : n3 < n20 := by rw [hn]; exact blk_lt q3
              have m20_10 : n10 < n20 := by rw [hn]; exact blk_lt q10
              have m20_17 : n17 < n20 := by rw [hn]; exact blk_lt q17
              have m20_19 : n19 < n20 := by rw [hn]; exact blk_lt q19
              replace q3 := keep_alloc hw q3
              replace q10 := keep_alloc hw q10
              replace q17 := keep_alloc hw q17
              replace q19 := keep_alloc hw q19
              replace E2 := ext_alloc E2 hw
              have q20 := new_row hw hn
              replace E := ext_alloc E hw
              clear hw hn
              refine seq_to rfl rfl (R_storeRow rfl rfl rfl (by rw [matCells_size]; kernel_rfl) (by rw [← matList_toArray]; exact all_oneCell_toArray (matList_one _)) q20 (by show Try.zeroCells105.size = _; rw [Try.zeroCells105_size, matCells_size])) fun w21 hw => ?_
              replace q3 := keep_cells hw q3 (by omega)
              replace q10 := keep_cells hw q10 (by omega)
              replace q17 := keep_cells hw q17 (by omega)
              replace q19 := keep_cells hw q19 (by omega)
              replace q20 := put_row hw q20 (by show Try.zeroCells105.size = _; rw [Try.zeroCells105_size, matCells_size])
              replace E2 := ext_cells E2 hw (fun h => by first | exact absurd h (by omega) | simp)
              replace E := ext_cells E hw (fun h => by first | exact absurd h (by omega) | simp)
              clear hw
              refine seq_val rfl rfl (R_assign (v := .bool _) rfl rfl) (by simp only [List.set_cons_succ, List.set_cons_zero]; exact rfl) ?_
              refine wpList_nil ?_
              clear e1 hT
              have hk1 : cnt - k = (cnt - (k + 1)) + 1 := by omega
              have hap2 := fun W => apart_n (bdV (addR t (s, a, i, tape)) 0) 0 (nodeC s a) (by omega) hc (HBig.out i tape _ _ hlt g1 g2 hc (by omega)) W
              have hnm2 := num_n (addR t (s, a, i, tape)) (nodeC s a) (HBig.out i tape _ _ hlt g1 g2 hc (by omega)) (HBig.out i tape _ _ hlt g1 g2 (by omega) hc)
              have HT := Lib.hid htape
              clear hsum hcn hlo hhi htape
              cases hb : bdB (addR t (s, a, i, tape)) 0
              · have H1 : Hid (nxt1 t s a i left (cnt - (k + 1)) (nxtLo t s a i + ((k + 1 : Nat) : Int)) most = nxt1 t s a i left cnt (nxtLo t s a i) 0) := by
                  show _ = _
                  rw [← HN.out, hk1]
                  simp only [nxt1, hb, Bool.false_eq_true, if_false]
                  rw [HT.out, show nxtLo t s a i + ((k + 1 : Nat) : Int) = nxtLo t s a i + (k : Int) + 1 by omega]
                clear hap2 hnm2 hb
                go_wp2
                go_roundw
                case rel => exact ⟨k + 1, most, by omega, by rw [HT.out, show nxtLo t s a i + ((k + 1 : Nat) : Int) = nxtLo t s a i + (k : Int) + 1 by omega], rfl, H1.out, q3, q10, q17, E⟩
                case measure => simp [intOf, HT.out]; omega
              · go_upto_region 17 with (fail)
                refine wp_region_lit ?_
                refine seq_val rfl rfl (R_move (v := .int .i64 _) rfl rfl) (by simp only [List.set_cons_succ, List.set_cons_zero]; exact rfl) ?_
                refine seq_val rfl rfl (R_loadBlk rfl rfl Try.underlying105 rfl (by rw [matCells_size]; kernel_rfl) q20) (by simp only [List.set_cons_succ, List.set_cons_zero]; exact rfl) ?_
                refine seq_val rfl rfl (R_move (v := .int .i64 _) rfl rfl) (by simp only [List.set_cons_succ, List.set_cons_zero]; exact rfl) ?_
                refine seq_call rfl rfl (by kernel_rfl) (hap2 _) fun e w22 hR => ?_
                obtain ⟨rfl, e1⟩ := hR
                refine ⟨_, _, rfl, (by simp only [List.set_cons_succ, List.set_cons_zero]; exact rfl), ?_⟩
                replace q3 := (e1).keep0 q3
                replace q10 := (e1).keep0 q10
                replace q17 := (e1).keep0 q17
                replace q19 := (e1).keep0 q19
                replace q20 := (e1).keep0 q20
                replace E2 := ext_same E2 (e1)
                replace E := ext_same E (e1)
                refine seq_call rfl rfl (by kernel_rfl) (hnm2 _) fun e w23 hR => ?_
                obtain ⟨rfl, e2⟩ := hR
                refine ⟨_, _, rfl, (by simp only [List.set_cons_succ, List.set_cons_zero]; exact rfl), ?_⟩
                replace q3 := (e2).keep0 q3
                replace q10 := (e2).keep0 q10
                replace q17 := (e2).keep0 q17
                replace q19 := (e2).keep0 q19
                replace q20 := (e2).keep0 q20
                replace E2 := ext_same E2 (e2)
                replace E := ext_same E (e2)
                refine seq_val rfl rfl (R_max rfl rfl rfl rfl) (by simp only [List.set_cons_succ, List.set_cons_zero]; exact rfl) ?_
                refine seq_val rfl rfl (R_assign (v := .int .i64 _) rfl rfl) (by simp only [List.set_cons_succ, List.set_cons_zero]; exact rfl) ?_
                refine wpList_nil ?_
                clear e1 e2 hap2 hnm2
                obtain ⟨m2, hm2⟩ : ∃ m2, m2 = max most (numB (addR t (s, a, i, tape)) (nodeC s a)) := ⟨_, rfl⟩
                rw [← hm2]
                have H0 : Hid (nxt1 t s a i left cnt (nxtLo t s a i) 0 = if left ≤ m2 then none else nxt1 t s a i left (cnt - (k + 1)) (tape + 1) m2) := by
                  show _ = _
                  rw [← HN.out, hk1]
                  simp only [nxt1, hb, if_true, ← hm2]
                clear hm2 hb
                by_cases hge : left ≤ m2
                · have H1 : Hid (nxtTo t s a (i + 1) = nxtTo t s a i) := by
                    show _ = _
                    rw [HR.out, H0.out, if_pos hge]
                    rfl
                  clear H0
                  go_wp2
                  go_roundw
                  case rel => exact ⟨i + 1, by omega, by go_num, by rw [H1.out, hbst], by rw [H1.out, ← HL.out], q3, q10, E⟩
                  case measure => simp [intOf]; omega
                · have H1 : Hid (nxt1 t s a i left (cnt - (k + 1)) (nxtLo t s a i + ((k + 1 : Nat) : Int)) m2 = nxt1 t s a i left cnt (nxtLo t s a i) 0) := by
                    show _ = _
                    rw [H0.out, if_neg hge, HT.out, show nxtLo t s a i + ((k + 1 : Nat) : Int) = nxtLo t s a i + (k : Int) + 1 by omega]
                  clear H0
                  go_wp2
                  go_roundw
                  case rel => exact ⟨k + 1, m2, by omega, by rw [HT.out, show nxtLo t s a i + ((k + 1 : Nat) : Int) = nxtLo t s a i + (k : Int) + 1 by omega], rfl, H1.out, q3, q10, q17, E⟩
                  case measure => simp [intOf, HT.out]; omega
            · have hle : ¬ nxtLo t s a i + (k : Int) ≤ nxtHi t s a i := by omega
              have H1 : Hid (nxtTo t s a (i + 1) = ((i : Int), most)) := by
                show _ = _
                rw [HR.out, ← HN.out, show cnt - k = 0 by omega]
                rfl
              clear hsum hcn hlo hhi
              go_wp2
              go_roundw
              case rel => exact ⟨i + 1, by omega, by go_num, by rw [H1.out], by rw [H1.out], q3, q10, E⟩
              case measure => simp [intOf]; omega
      · have hT : (i : Int) = t.T := by omega
        have hTi : t.T.toNat = i := by omega
        rw [hTi] at HE
        have HV : Hid (nextV t s a = if nextE t s a = 0 then nxtTo t s a i else (0, 0)) := by show _ = _; rw [nextV, hTi]
        obtain ⟨⟨bst, left⟩, hbl⟩ : ∃ bl, bl = nxtTo t s a i := ⟨_, rfl⟩
        rw [← hbl] at HE HV ⊢
        clear hbl hTi
        by_cases hb : bst < 0
        · have h1 : nextE t s a = 11 := by rw [HE.out, if_pos hb]
          have h2 : nextV t s a = (0, 0) := by rw [HV.out, h1]; rfl
          clear HE HV
          have H1 := Lib.hid h1
          have H2 := Lib.hid h2
          clear h1 h2
          go_wp2
          refine jump_ret ?_
          refine bodyPost_ret (v := .tuple #[.int .i64 0, .int .i64 0, .int .i64 11]) (by simp [results, Try.results38]) rfl ⟨by rw [H1.out, H2.out], E⟩
        · have h1 : nextE t s a = 0 := by rw [HE.out, if_neg hb]
          have h2 : nextV t s a = (bst, left) := by rw [HV.out, h1]; rfl
          clear HE HV
          have H1 := Lib.hid h1
          have H2 := Lib.hid h2
          clear h1 h2
          go_wp2
          refine jump_ret ?_
          refine bodyPost_ret (v := .tuple #[.int .i64 bst, .int .i64 left, .int .i64 0]) (by simp [results, Try.results38]) rfl ⟨by rw [H1.out, H2.out], E⟩
  · have h1 : nextE t s a = measE t s a := by rw [nextE, if_pos (by simpa using h)]
    have h2 : nextV t s a = (0, 0) := by rw [nextV, h1, if_neg h]
    rw [h1, h2]
    obtain ⟨ce, hce⟩ : ∃ ce, ce = measE t s a := ⟨_, rfl⟩
    rw [← hce] at h HK ⊢
    clear hce h1 h2 ht0 ht
    have hb : (ce != 0) = true := by simpa using h
    generalize solvedM t (sel3 [s] [a] []) = m at HK
    generalize openV t (sel3 [s] [a] []) gv rv lv = X at HK hVs hVo
    subst hrv
    unfold tpV at HK ⊢
    go_enter Try.func38, Try.ntmps38
    go_upto_region 0 with (fail)
    refine wp_region_lit ?_
    refine seq_new rfl rfl (R_box (v := .agg _) rfl rfl) (by simp only [List.set_cons_succ, List.set_cons_zero]; exact rfl) fun w1 hw => ?_
    obtain ⟨n3, hn⟩ : ∃ n, n = w.heap.size := ⟨_, rfl⟩
    rw [← hn]
    have l3 : w.heap.size ≤ n3 := by rw [hn]; exact E.size
    have q3 := new_row hw hn
    replace E := ext_alloc E hw
    clear hw hn
    refine seq_val rfl rfl (R_assign (v := .int .i64 _) rfl rfl) (by simp only [List.set_cons_succ, List.set_cons_zero]; exact rfl) ?_
    refine seq_val rfl rfl (R_assign (v := .int .i64 _) rfl rfl) (by simp only [List.set_cons_succ, List.set_cons_zero]; exact rfl) ?_
    refine seq_val rfl rfl (R_assign (v := .int .i64 _) rfl rfl) (by simp only [List.set_cons_succ, List.set_cons_zero]; exact rfl) ?_
    refine wpList_nil ?_
    go_upto_region 1 with (fail)
    refine wp_scope_jumps 0 (fun _ _ => False) (fun _ _ => 0) (by exact rfl) ?_ (fun _ _ h => h.elim)
    go_upto_region 1 with (fail)
    refine wp_region_lit ?_
    refine seq_val rfl rfl (R_loadBlk rfl rfl Try.underlying28 rfl (by kernel_rfl) q3) (by simp only [List.set_cons_succ, List.set_cons_zero]; exact rfl) ?_
    refine seq_val rfl rfl (R_move (v := .int .i64 _) rfl rfl) (by simp only [List.set_cons_succ, List.set_cons_zero]; exact rfl) ?_
    refine seq_new rfl rfl (R_buildSlice rfl Try.underlying29 (size := 1) (by kernel_rfl) (by decide) (by decide) Try.zeroValue3 (cells := #[.int .i64 s]) (by kernel_rfl)) (by simp only [List.set_cons_succ, List.set_cons_zero]; exact rfl) fun w2 hw => ?_
    obtain ⟨n25, hn⟩ : ∃ n, n = w1.heap.size := ⟨_, rfl⟩
    rw [← hn]
    have l25 : w.heap.size ≤ n25 := by rw [hn]; exact E.size
    have m25_3 : n3 < n25 := by rw [hn]; exact blk_lt q3
    replace q3 := keep_alloc hw q3
    have q25 := new_block hw hn
    replace E := ext_alloc E hw
    clear hw hn
    refine seq_val rfl rfl (R_move (v := .int .i64 _) rfl rfl) (by simp only [List.set_cons_succ, List.set_cons_zero]; exact rfl) ?_
    refine seq_new rfl rfl (R_buildSlice rfl Try.underlying29 (size := 1) (by kernel_rfl) (by decide) (by decide) Try.zeroValue3 (cells := #[.int .i64 a]) (by kernel_rfl)) (by simp only [List.set_cons_succ, List.set_cons_zero]; exact rfl) fun w3 hw => ?_
    obtain ⟨n27, hn⟩ : ∃ n, n = w2.heap.size := ⟨_, rfl⟩
    rw [← hn]
    have l27 : w.heap.size ≤ n27 := by rw [hn]; exact E.size
    have m27_3 : n3 < n27 := by rw [hn]; exact blk_lt q3
    have m27_25 : n25 < n27 := by rw [hn]; exact blk_lt q25
    replace q3 := keep_alloc hw q3
    replace q25 := keep_alloc hw q25
    have q27 := new_block hw hn
    replace E := ext_alloc E hw
    clear hw hn
    refine seq_call rfl rfl (by kernel_rfl) (HK.out _ n25 n27 E q25 q27) fun e w4 hR => ?_
    obtain ⟨rfl, e1⟩ := hR
    refine ⟨_, _, rfl, (by simp only [List.set_cons_succ, List.set_cons_zero]; exact rfl), ?_⟩
    replace q3 := (e1).keep0 q3
    replace q25 := (e1).keep0 q25
    replace q27 := (e1).keep0 q27
    replace E := ext_same E (e1)
    refine seq_val rfl rfl (R_move (v := .tuple _) rfl rfl) (by simp only [List.set_cons_succ, List.set_cons_zero]; exact rfl) ?_
    refine seq_val rfl rfl (R_extract rfl rfl (get0)) (by simp only [List.set_cons_succ, List.set_cons_zero]; exact rfl) ?_
    refine seq_val rfl rfl (R_extract rfl rfl (getS (get0))) (by simp only [List.set_cons_succ, List.set_cons_zero]; exact rfl) ?_
    refine seq_val rfl rfl (R_extract rfl rfl (getS (getS (get0)))) (by simp only [List.set_cons_succ, List.set_cons_zero]; exact rfl) ?_
    refine seq_new rfl rfl (R_alloc rfl Try.zeroValue100) (by simp only [List.set_cons_succ, List.set_cons_zero]; exact rfl) fun w5 hw => ?_
    obtain ⟨n9, hn⟩ : ∃ n, n = w4.heap.size := ⟨_, rfl⟩
    rw [← hn]
    have l9 : w.heap.size ≤ n9 := by rw [hn]; exact E.size
    have m9_3 : n3 < n9 := by rw [hn]; exact blk_lt q3
    have m9_25 : n25 < n9 := by rw [hn]; exact blk_lt q25
    have m9_27 : n27 < n9 := by rw [hn]; exact blk_lt q27
    replace q3 := keep_alloc hw q3
    replace q25 := keep_alloc hw q25
    replace q27 := keep_alloc hw q27
    have q9 := new_row hw hn
    replace E := ext_alloc E hw
    clear hw hn
    refine seq_new rfl rfl (R_alloc rfl Try.zeroValue105) (by simp only [List.set_cons_succ, List.set_cons_zero]; exact rfl) fun w6 hw => ?_
    obtain ⟨n10, hn⟩ : ∃ n, n = w5.heap.size := ⟨_, rfl⟩
    rw [← hn]
    have l10 : w.heap.size ≤ n10 := by rw [hn]; exact E.size
    have m10_3 : n3 < n10 := by rw [hn]; exact blk_lt q3
    have m10_25 : n25 < n10 := by rw [hn]; exact blk_lt q25
    have m10_27 : n27 < n10 := by rw [hn]; exact blk_lt q27
    have m10_9 : n9 < n10 := by rw [hn]; exact blk_lt q9
    replace q3 := keep_alloc hw q3
    replace q25 := keep_alloc hw q25
    replace q27 := keep_alloc hw q27
    replace q9 := keep_alloc hw q9
    have q10 := new_row hw hn
    replace E := ext_alloc E hw
    clear hw hn
    refine seq_to rfl rfl (R_storeRow rfl rfl rfl (by rw [hVs]; kernel_rfl) hVo q9 (by rw [hVs]; rfl)) fun w7 hw => ?_
    replace q3 := keep_cells hw q3 (by omega)
    replace q25 := keep_cells hw q25 (by omega)
    replace q27 := keep_cells hw q27 (by omega)
    replace q9 := put_row hw q9 (by rw [hVs]; rfl)
    replace q10 := keep_cells hw q10 (by omega)
    replace E := ext_cells E hw (fun h => by first | exact absurd h (by omega) | simp)
    clear hw
    refine seq_to rfl rfl (R_storeRow rfl rfl rfl (by rw [matCells_size]; kernel_rfl) (by rw [← matList_toArray]; exact all_oneCell_toArray (matList_one _)) q10 (by show Try.zeroCells105.size = _; rw [Try.zeroCells105_size, matCells_size])) fun w8 hw => ?_
    replace q3 := keep_cells hw q3 (by omega)
    replace q25 := keep_cells hw q25 (by omega)
    replace q27 := keep_cells hw q27 (by omega)
    replace q9 := keep_cells hw q9 (by omega)
    replace q10 := put_row hw q10 (by show Try.zeroCells105.size = _; rw [Try.zeroCells105_size, matCells_size])
    replace E := ext_cells E hw (fun h => by first | exact absurd h (by omega) | simp)
    clear hw
    refine seq_val rfl rfl (R_assign (v := .int .i64 _) rfl rfl) (by simp only [List.set_cons_succ, List.set_cons_zero]; exact rfl) ?_
    refine wpList_nil ?_
    clear e1
    go_wp2
    refine jump_ret ?_
    refine bodyPost_ret (v := .tuple #[.int .i64 0, .int .i64 0, .int .i64 ce]) (by simp [results, Try.results38]) rfl ⟨rfl, E⟩
end Go.Proofs.Ytholfdgebdlgjaa
