/- The walk of Fixed. Conditions: lists of at most 1000. -/
import Derived.Test.YtholfdgebdlgjaaOwn
import Derived.Test.YtholfdgebdlgjaaNxt
import Derived.Test.YtholfdgebdlgjaaUnt
namespace Go.Proofs.Ytholfdgebdlgjaa
open Go.RowKit
set_option linter.unusedVariables false
set_option linter.unusedSimpArgs false
theorem own_ne_type {w : World} {base size n k : Nat} {e T : TypeId} {v : Value} {xs : List Value} {cs : Array Value} {fz : Nat × Nat} (ho : w.ownsRow base e size v n xs) (h : w.heap[k]? = some (.cells cs T fz)) (hT : T ≠ e) : some k ≠ v.ownBlock := by
  intro hk
  rcases ho.2 with ⟨hv, -⟩ | ⟨g, cap, cur, hv, -, hg, -⟩
  · rw [hv] at hk; cases hk
  · rw [hv] at hk
    have hkg : k = g := by cases hk; rfl
    subst hkg
    rw [hg] at h
    cases h
    exact hT rfl
/-- Pairs of numbers as a list of lists: the slices vs, each of two numbers in a block of its own. -/
def PairsAt (w : World) (vs : List Value) (ps : List (Int × Int)) : Prop :=
  vs.length = ps.length ∧ ∀ (i : Nat) (p : Int × Int), ps[i]? = some p → ∃ g, vs[i]? = some (.slice (some ⟨g, 0, none⟩) 2 2) ∧ w.heap[g]? = some (.cells #[.int .i64 p.1, .int .i64 p.2] 3 (0, 0))
theorem pairs_keep {w w' : World} {vs : List Value} {ps : List (Int × Int)} (h : PairsAt w vs ps) (k : ∀ (g : Nat) (cs : Array Value), w.heap[g]? = some (.cells cs 3 (0, 0)) → w'.heap[g]? = some (.cells cs 3 (0, 0))) : PairsAt w' vs ps :=
  ⟨h.1, fun i p hp => by
    obtain ⟨g, h1, h2⟩ := h.2 i p hp
    exact ⟨g, h1, k g _ h2⟩⟩
theorem pairs_snoc {w : World} {vs : List Value} {ps : List (Int × Int)} (h : PairsAt w vs ps) {g : Nat} {p : Int × Int} (hg : w.heap[g]? = some (.cells #[.int .i64 p.1, .int .i64 p.2] 3 (0, 0))) : PairsAt w (vs ++ [.slice (some ⟨g, 0, none⟩) 2 2]) (ps ++ [p]) := by
  refine ⟨by simp [h.1], fun i q hq => ?_⟩
  by_cases hi : i < ps.length
  · rw [List.getElem?_append_left hi] at hq
    obtain ⟨g', h1, h2⟩ := h.2 i q hq
    exact ⟨g', by rw [List.getElem?_append_left (by rw [h.1]; exact hi)]; exact h1, h2⟩
  · have hil : i = ps.length := by
      have := (List.getElem?_eq_some_iff.1 hq).1
      simp at this
      omega
    subst hil
    simp at hq
    subst hq
    exact ⟨g, by rw [← h.1]; simp, hg⟩
/-- The fixed measures of a singer, and of the first singers. -/
def fixIn (m : Nat → Nat → Int) (s : Nat) : Nat → List (Int × Int)
  | 0 => []
  | a + 1 => if -(m (nodeC s a) 0) = m 0 (nodeC s a) then fixIn m s a ++ [((s : Int), (a : Int))] else fixIn m s a
def fixTo (m : Nat → Nat → Int) (A : Nat) : Nat → List (Int × Int)
  | 0 => []
  | s + 1 => fixTo m A s ++ fixIn m s A
theorem fixIn_len (m : Nat → Nat → Int) (s : Nat) : ∀ a, (fixIn m s a).length ≤ a
  | 0 => by simp [fixIn]
  | a + 1 => by
    have := fixIn_len m s a
    unfold fixIn
    split <;> simp <;> omega
theorem fixTo_len (m : Nat → Nat → Int) (A : Nat) : ∀ s, (fixTo m A s).length ≤ A * s
  | 0 => by simp [fixTo]
  | s + 1 => by
    have h1 := fixTo_len m A s
    have h2 := fixIn_len m s A
    simp only [fixTo, List.length_append, Nat.mul_succ]
    omega
def fixE (t : Tp) : Int := solvedE t noX
def fixL (t : Tp) : List (Int × Int) := if fixE t = 0 then fixTo (bdV t 0) t.A.toNat t.S.toNat else []
/-- A list of pairs as the program hands it back. -/
def IsPairs (w : World) (v : Value) (ps : List (Int × Int)) : Prop := ∃ (base : Nat) (vs : List Value), w.ownsRow base 29 1 v ps.length vs ∧ PairsAt w vs ps
set_option maxRecDepth 100000 in
set_option maxHeartbeats 4000000 in
theorem fixed_any (t : Tp) (gv rv lv : Value) (w : World) (ht : IsTp w gv rv lv t) (hl1 : t.gr.length ≤ 1000) (hl2 : t.rd.length ≤ 1000) (hl3 : t.lk.length ≤ 1000) :
    Calls Try.prog 61 #[tpV t gv rv lv] w fun e w' => ∃ v, e = .returned (.tuple #[v, .int .i64 (fixE t)]) ∧ IsPairs w' v (fixL t) ∧ Ext [] w w' := by
  have hone := tp_one ht
  have HK : Hid (∀ W : World, Ext [] w W → Calls Try.prog 90 #[tpV t gv rv lv, .slice none 0 0, .slice none 0 0, .slice none 0 0] W fun e w' => e = .returned (.tuple #[.agg (openV t noX gv rv lv), .agg (matCells (solvedM t noX)), .int .i64 (fixE t)]) ∧ Ext [] W w') :=
    fun W e => solved_any t gv rv lv noX (fun _ => none) (fun _ => 0) W (ht.ext e (by simp)) hl1 hl2 hl3 (fun i hi => rows_nil _ _ _) (fun i hi => by simp [noX])
  clear ht
  have E : Ext [] w w := Ext.refl _ _
  by_cases h : fixE t = 0
  · obtain ⟨h1, h2⟩ := solved_open h
    obtain ⟨ok, h8⟩ := checkE_zero.1 (openE_check h1)
    have k1 := ok.S3
    have k2 := ok.A3
    have k3 := ok.S1
    have k4 := ok.A1
    have HBg := Lib.hid (fun p q hp hq => bd_big ok 0 (p := p) (q := q) hp hq)
    rw [openV_ok h1, show solvedM t noX = bdV t 0 from if_pos h1, h] at HK
    rw [show fixL t = fixTo (bdV t 0) t.A.toNat t.S.toNat from if_pos h, h]
    clear h h1 h2 ok h8
    obtain ⟨m, hm⟩ : ∃ m, m = bdV t 0 := ⟨_, rfl⟩
    rw [← hm] at HK HBg ⊢
    clear hm
    unfold tpV at HK ⊢
    go_enter Try.func61, Try.ntmps61
    go_upto_region 0 with (fail)
    refine wp_region_lit ?_
    refine seq_new rfl rfl (R_box (v := .agg _) rfl rfl) (by simp only [List.set_cons_succ, List.set_cons_zero]; exact rfl) fun w1 hw => ?_
    obtain ⟨n1, hn⟩ : ∃ n, n = w.heap.size := ⟨_, rfl⟩
    rw [← hn]
    have l1 : w.heap.size ≤ n1 := by rw [hn]; exact E.size
    have q1 := new_row hw hn
    replace E := ext_alloc E hw
    clear hw hn
    refine seq_val rfl rfl (R_assign (v := .slice _ _ _) rfl rfl) (by simp only [List.set_cons_succ, List.set_cons_zero]; exact rfl) ?_
    refine seq_val rfl rfl (R_assign (v := .int .i64 _) rfl rfl) (by simp only [List.set_cons_succ, List.set_cons_zero]; exact rfl) ?_
    refine wpList_nil ?_
    go_upto_region 1 with (fail)
    refine wp_region_lit ?_
    refine seq_val rfl rfl (R_loadBlk rfl rfl Try.underlying28 rfl (by kernel_rfl) q1) (by simp only [List.set_cons_succ, List.set_cons_zero]; exact rfl) ?_
    refine seq_call rfl rfl (by kernel_rfl) (HK.out _ E) fun e w2 hR => ?_
    obtain ⟨rfl, e1⟩ := hR
    refine ⟨_, _, rfl, (by simp only [List.set_cons_succ, List.set_cons_zero]; exact rfl), ?_⟩
    replace q1 := (e1).keep0 q1
    replace E := ext_same E (e1)
    refine seq_val rfl rfl (R_move (v := .tuple _) rfl rfl) (by simp only [List.set_cons_succ, List.set_cons_zero]; exact rfl) ?_
    refine seq_val rfl rfl (R_extract rfl rfl (get0)) (by simp only [List.set_cons_succ, List.set_cons_zero]; exact rfl) ?_
    refine seq_val rfl rfl (R_extract rfl rfl (getS (get0))) (by simp only [List.set_cons_succ, List.set_cons_zero]; exact rfl) ?_
    refine seq_val rfl rfl (R_extract rfl rfl (getS (getS (get0)))) (by simp only [List.set_cons_succ, List.set_cons_zero]; exact rfl) ?_
    refine seq_new rfl rfl (R_alloc rfl Try.zeroValue100) (by simp only [List.set_cons_succ, List.set_cons_zero]; exact rfl) fun w3 hw => ?_
    obtain ⟨n4, hn⟩ : ∃ n, n = w2.heap.size := ⟨_, rfl⟩
    rw [← hn]
    have l4 : w.heap.size ≤ n4 := by rw [hn]; exact E.size
    have m4_1 : n1 < n4 := by rw [hn]; exact blk_lt q1
    replace q1 := keep_alloc hw q1
    have q4 := new_row hw hn
    replace E := ext_alloc E hw
    clear hw hn
    refine seq_new rfl rfl (R_alloc rfl Try.zeroValue105) (by simp only [List.set_cons_succ, List.set_cons_zero]; exact rfl) fun w4 hw => ?_
    obtain ⟨n5, hn⟩ : ∃ n, n = w3.heap.size := ⟨_, rfl⟩
    rw [← hn]
    have l5 : w.heap.size ≤ n5 := by rw [hn]; exact E.size
    have m5_1 : n1 < n5 := by rw [hn]; exact blk_lt q1
    have m5_4 : n4 < n5 := by rw [hn]; exact blk_lt q4
    replace q1 := keep_alloc hw q1
    replace q4 := keep_alloc hw q4
    have q5 := new_row hw hn
    replace E := ext_alloc E hw
    clear hw hn
    refine seq_to rfl rfl (R_storeRow rfl rfl rfl (by kernel_rfl) (tp_cells_one hone) q4 rfl) fun w5 hw => ?_
    replace q1 := keep_cells hw q1 (by omega)
    replace q4 := put_row hw q4 rfl
    replace q5 := keep_cells hw q5 (by omega)
    replace E := ext_cells E hw (fun h => by first | exact absurd h (by omega) | simp)
    clear hw
    refine seq_to rfl rfl (R_storeRow rfl rfl rfl (by rw [matCells_size]; kernel_rfl) (by rw [← matList_toArray]; exact all_oneCell_toArray (matList_one _)) q5 (by show Try.zeroCells105.size = _; rw [Try.zeroCells105_size, matCells_size])) fun w6 hw => ?_
    replace q1 := keep_cells hw q1 (by omega)
    replace q4 := keep_cells hw q4 (by omega)
    replace q5 := put_row hw q5 (by show Try.zeroCells105.size = _; rw [Try.zeroCells105_size, matCells_size])
    replace E := ext_cells E hw (fun h => by first | exact absurd h (by omega) | simp)
    clear hw
    refine seq_val rfl rfl (R_assign (v := .int .i64 _) rfl rfl) (by simp only [List.set_cons_succ, List.set_cons_zero]; exact rfl) ?_
    refine wpList_nil ?_
    clear e1
    have c4 := (cells_of_block q4 0).trans get0
    go_wp2_with fail
    clear c4
    go_loopw [23, 7] (fun iv v wr => ∃ (s : Nat) (vs : List Value), (s : Int) ≤ t.S ∧ iv = .int .i64 s ∧ wr.heap[n4]? = some (.cells (tpCells t gv rv lv) 100 (0, 0)) ∧ wr.heap[n5]? = some (.cells (matCells m) 105 (0, 0)) ∧
      wr.ownsRow (n5 + 1) 29 1 v (fixTo m t.A.toNat s).length vs ∧ PairsAt wr vs (fixTo m t.A.toNat s) ∧ Ext [] w wr ∧ n5 < wr.heap.size) (fun iv _ _ => t.S.toNat - (intOf iv).toNat)
    case atStart => exact ⟨0, [], by omega, rfl, q4, q5, World.ownsRow_nil _ _ _ _, ⟨rfl, fun i p hp => by simp [fixTo] at hp⟩, E, blk_lt q5⟩
    case round =>
      clear q1 q4 q5 E
      obtain ⟨s, vs, hs, rfl, q4, q5, ho, hp, E, hsz⟩ := hrel
      obtain ⟨va, vc, rfl⟩ := owns_slice ho
      by_cases hlts : (s : Int) < t.S
      · have c4 := (cells_of_block q4 1).trans (getS get0)
        go_wp2_with fail
        clear c4
        obtain ⟨ws, hws⟩ : ∃ ws : World, ws = wr := ⟨_, rfl⟩
        clear hws
        go_loopw [29, 7] (fun iv v wr => ∃ (a : Nat) (vs : List Value), (a : Int) ≤ t.A ∧ iv = .int .i64 a ∧ wr.heap[n4]? = some (.cells (tpCells t gv rv lv) 100 (0, 0)) ∧ wr.heap[n5]? = some (.cells (matCells m) 105 (0, 0)) ∧
          wr.ownsRow (n5 + 1) 29 1 v (fixTo m t.A.toNat s ++ fixIn m s a).length vs ∧ PairsAt wr vs (fixTo m t.A.toNat s ++ fixIn m s a) ∧ Ext [] w wr ∧ n5 < wr.heap.size) (fun iv _ _ => t.A.toNat - (intOf iv).toNat)
        case atStart => exact ⟨0, vs, by omega, rfl, q4, q5, by simpa [fixIn] using ho, by simpa [fixIn] using hp, E, hsz⟩
        case round =>
          clear q4 q5 E ho hp hsz
          obtain ⟨a, vs, ha, rfl, q4, q5, ho, hp, E, hsz⟩ := hrel
          obtain ⟨va, vc, rfl⟩ := owns_slice ho
          by_cases hlta : (a : Int) < t.A
          · have hc : nodeC s a < 13 := by unfold nodeC; omega
            have hap := fun W => apart_n m 0 (nodeC s a) (by omega) hc (HBg.out _ _ hc (by omega)) W
            have Er : Ext [] wr wr := Ext.refl _ _
            go_upto_region 11 with (fail)
            refine region_until (Ext [] wr) 6 follows fun w1 hh eS => ?_
            have q4_ := q4
            have q5_ := q5
            replace q4 := keep_same hh q4
            replace q5 := keep_same hh q5
            replace E := ext_same E eS
            replace Er := ext_same Er eS
            refine anyU_take (i := 0) (last := 6) rfl rfl (by decide) (by kernel_rfl) (by kernel_rfl) (by kernel_rfl) (by kernel_rfl) (by kernel_rfl) (fun _ _ _ h => h) rfl rfl (fun w' hS => R_loadBlk rfl rfl Try.underlying105 rfl (by rw [matCells_size]; kernel_rfl) (hS.keep q5_ (by simp))) eS (by simp only [List.set_cons_succ, List.set_cons_zero]; exact rfl) ?_
            refine anyU_take (i := 1) (last := 6) rfl rfl (by decide) (by kernel_rfl) (by kernel_rfl) (by kernel_rfl) (by kernel_rfl) (by kernel_rfl) (fun _ _ _ h => h) rfl rfl (fun w' hS => R_move (v := .int .i64 _) rfl rfl) eS (by simp only [List.set_cons_succ, List.set_cons_zero]; exact rfl) ?_
            refine anyU_take (i := 2) (last := 6) rfl rfl (by decide) (by kernel_rfl) (by kernel_rfl) (by kernel_rfl) (by kernel_rfl) (by kernel_rfl) (fun _ _ _ h => h) rfl rfl (fun w' hS => R_move (v := .int .i64 _) rfl rfl) eS (by simp only [List.set_cons_succ, List.set_cons_zero]; exact rfl) ?_
            refine anyU_pair (i := 3) (j := 5) (by kernel_rfl) ?_ ?_
            refine opU_call rfl rfl rfl (by kernel_rfl) (cell_n s a (by omega) (by omega) _) fun e w' hR => ?_
            obtain ⟨rfl, rfl⟩ := hR
            refine ⟨_, _, rfl, (by simp only [List.set_cons_succ, List.set_cons_zero]; exact rfl), fun _ => eS, ?_⟩
            refine anyU_pair (i := 4) (j := 5) (by kernel_rfl) ?_ ?_
            refine opU_call rfl rfl rfl (by kernel_rfl) (hap _) fun e w3 hR => ?_
            obtain ⟨rfl, e1⟩ := hR
            replace eS := eS.nil (e1)
            replace q4 := (e1).keep0 q4
            replace q5 := (e1).keep0 q5
            replace Er := ext_same Er (e1)
            replace E := ext_same E (e1)
            refine ⟨_, _, rfl, (by simp only [List.set_cons_succ, List.set_cons_zero]; exact rfl), fun _ => eS, ?_⟩
            refine anyU_new (i := 5) rfl (by kernel_rfl) rfl rfl (R_alloc rfl Try.zeroValue23) (by simp only [List.set_cons_succ, List.set_cons_zero]; exact rfl) fun w4 hw => ?_
            replace eS := ext_alloc eS hw
            obtain ⟨n10, hn⟩ : ∃ n, n = w3.heap.size := ⟨_, rfl⟩
            rw [← hn]
            have l10 : w.heap.size ≤ n10 := by rw [hn]; exact E.size
            have l10_Er : wr.heap.size ≤ n10 := by rw [hn]; exact Er.size
            have m10_4 : n4 < n10 := by rw [hn]; exact blk_lt q4
            have m10_5 : n5 < n10 := by rw [hn]; exact blk_lt q5
            replace q4 := keep_alloc hw q4
            replace q5 := keep_alloc hw q5
            replace Er := ext_alloc Er hw
            have q10 := new_row hw hn
            replace E := ext_alloc E hw
            clear hw hn
            refine ⟨fun _ => eS, ?_⟩
            refine anyU_last (o := _) rfl (by kernel_rfl) rfl rfl (R_storeRow rfl rfl rfl (by kernel_rfl) (by simp [Value.oneCell']) q10 rfl) (by kernel_rfl) fun w5 hw => ?_
            replace q4 := keep_cells hw q4 (by omega)
            replace q5 := keep_cells hw q5 (by omega)
            replace q10 := put_row hw q10 rfl
            replace Er := ext_cells Er hw (fun h => by first | exact absurd h (by omega) | simp)
            replace E := ext_cells E hw (fun h => by first | exact absurd h (by omega) | simp)
            clear hw
            refine anyU_done (by kernel_rfl) ?_ _
            clear q4_ q5_ hh eS
            rotate_left
            refine opU_new rfl rfl rfl (R_alloc rfl Try.zeroValue23) (by simp only [List.set_cons_succ, List.set_cons_zero]; exact rfl) fun w3 hw => ?_
            replace eS := ext_alloc eS hw
            obtain ⟨n10, hn⟩ : ∃ n, n = w1.heap.size := ⟨_, rfl⟩
            rw [← hn]
            have l10 : w.heap.size ≤ n10 := by rw [hn]; exact E.size
            have l10_Er : wr.heap.size ≤ n10 := by rw [hn]; exact Er.size
            have m10_4 : n4 < n10 := by rw [hn]; exact blk_lt q4
            have m10_5 : n5 < n10 := by rw [hn]; exact blk_lt q5
            replace q4 := keep_alloc hw q4
            replace q5 := keep_alloc hw q5
            replace Er := ext_alloc Er hw
            have q10 := new_row hw hn
            replace E := ext_alloc E hw
            clear hw hn
            refine ⟨fun _ => eS, ?_⟩
            refine anyU_call (i := 4) rfl (by kernel_rfl) rfl rfl (by kernel_rfl) (hap _) fun e w4 hR => ?_
            obtain ⟨rfl, e1⟩ := hR
            replace eS := eS.nil (e1)
            replace q4 := (e1).keep0 q4
            replace q5 := (e1).keep0 q5
            replace q10 := (e1).keep0 q10
            replace Er := ext_same Er (e1)
            replace E := ext_same E (e1)
            refine ⟨_, _, rfl, (by simp only [List.set_cons_succ, List.set_cons_zero]; exact rfl), eS, ?_⟩
            refine anyU_last (o := _) rfl (by kernel_rfl) rfl rfl (R_storeRow rfl rfl rfl (by kernel_rfl) (by simp [Value.oneCell']) q10 rfl) (by kernel_rfl) fun w5 hw => ?_
            replace q4 := keep_cells hw q4 (by omega)
            replace q5 := keep_cells hw q5 (by omega)
            replace q10 := put_row hw q10 rfl
            replace Er := ext_cells Er hw (fun h => by first | exact absurd h (by omega) | simp)
            replace E := ext_cells E hw (fun h => by first | exact absurd h (by omega) | simp)
            clear hw
            refine anyU_done (by kernel_rfl) ?_ _
            clear q4_ q5_ hh eS
            rotate_left
            refine opU_new rfl rfl rfl (R_alloc rfl Try.zeroValue23) (by simp only [List.set_cons_succ, List.set_cons_zero]; exact rfl) fun w2 hw => ?_
            replace eS := ext_alloc eS hw
            obtain ⟨n10, hn⟩ : ∃ n, n = w1.heap.size := ⟨_, rfl⟩
            rw [← hn]
            have l10 : w.heap.size ≤ n10 := by rw [hn]; exact E.size
            have l10_Er : wr.heap.size ≤ n10 := by rw [hn]; exact Er.size
            have m10_4 : n4 < n10 := by rw [hn]; exact blk_lt q4
            have m10_5 : n5 < n10 := by rw [hn]; exact blk_lt q5
            replace q4 := keep_alloc hw q4
            replace q5 := keep_alloc hw q5
            replace Er := ext_alloc Er hw
            have q10 := new_row hw hn
            replace E := ext_alloc E hw
            clear hw hn
            refine ⟨fun _ => eS, ?_⟩
            refine anyU_call (i := 3) rfl (by kernel_rfl) rfl rfl (by kernel_rfl) (cell_n s a (by omega) (by omega) _) fun e w' hR => ?_
            obtain ⟨rfl, rfl⟩ := hR
            refine ⟨_, _, rfl, (by simp only [List.set_cons_succ, List.set_cons_zero]; exact rfl), eS, ?_⟩
            refine anyU_call (i := 4) rfl (by kernel_rfl) rfl rfl (by kernel_rfl) (hap _) fun e w4 hR => ?_
            obtain ⟨rfl, e1⟩ := hR
            replace eS := eS.nil (e1)
            replace q4 := (e1).keep0 q4
            replace q5 := (e1).keep0 q5
            replace q10 := (e1).keep0 q10
            replace Er := ext_same Er (e1)
            replace E := ext_same E (e1)
            refine ⟨_, _, rfl, (by simp only [List.set_cons_succ, List.set_cons_zero]; exact rfl), eS, ?_⟩
            refine anyU_last (o := _) rfl (by kernel_rfl) rfl rfl (R_storeRow rfl rfl rfl (by kernel_rfl) (by simp [Value.oneCell']) q10 rfl) (by kernel_rfl) fun w5 hw => ?_
            replace q4 := keep_cells hw q4 (by omega)
            replace q5 := keep_cells hw q5 (by omega)
            replace q10 := put_row hw q10 rfl
            replace Er := ext_cells Er hw (fun h => by first | exact absurd h (by omega) | simp)
            replace E := ext_cells E hw (fun h => by first | exact absurd h (by omega) | simp)
            clear hw
            refine anyU_done (by kernel_rfl) ?_ _
            clear q4_ q5_ hh eS
            all_goals
              clear e1
              go_upto_region 12 with (fail)
              refine wp_region_lit ?_
              refine seq_val rfl rfl (R_field rfl rfl Try.underlying23 rfl (n := 0) (sz := 1) rfl (by kernel_rfl) (by decide)) (by simp only [List.set_cons_succ, List.set_cons_zero]; exact rfl) ?_
              refine seq_val rfl rfl (R_load rfl rfl Try.underlying3 rfl ((cells_of_block q10 0).trans (get0))) (by simp only [List.set_cons_succ, List.set_cons_zero]; exact rfl) ?_
              refine seq_val rfl rfl (R_field rfl rfl Try.underlying23 rfl (n := 1) (sz := 1) rfl (by kernel_rfl) (by decide)) (by simp only [List.set_cons_succ, List.set_cons_zero]; exact rfl) ?_
              refine seq_val rfl rfl (R_load rfl rfl Try.underlying3 rfl ((cells_of_block q10 1).trans (getS (get0)))) (by simp only [List.set_cons_succ, List.set_cons_zero]; exact rfl) ?_
              refine seq_val rfl rfl (R_eql rfl rfl rfl) (by simp only [List.set_cons_succ, List.set_cons_zero]; exact rfl) ?_
              refine wpList_nil ?_
              have ho2 := owns_ext ho Er (by simp)
              have hp2 : PairsAt _ vs (fixTo m t.A.toNat s ++ fixIn m s a) := pairs_keep hp fun g cs hg => Er.keep0 hg
              have hlen := fixTo_len m t.A.toNat s
              have hlen2 := fixIn_len m s a
              have hmul : t.A.toNat * s ≤ 9 := Nat.le_trans (Nat.mul_le_mul (show t.A.toNat ≤ 3 by omega) (show s ≤ 3 by omega)) (by decide)
              have hll : (fixTo m t.A.toNat s ++ fixIn m s a).length ≤ 100 := by rw [List.length_append]; omega
              obtain ⟨lo, hlo⟩ : ∃ lo, lo = -(m (nodeC s a) 0) := ⟨_, rfl⟩
              obtain ⟨hi, hhi⟩ : ∃ hi, hi = m 0 (nodeC s a) := ⟨_, rfl⟩
              rw [← hlo, ← hhi]
              by_cases heq : lo = hi
              · have H1 : Hid (fixTo m t.A.toNat s ++ fixIn m s (a + 1) = fixTo m t.A.toNat s ++ fixIn m s a ++ [((s : Int), (a : Int))]) := by
                  show _ = _
                  rw [fixIn, if_pos (by rw [← hlo, ← hhi]; exact heq), List.append_assoc]
                subst heq
                clear hap hlo hhi
                generalize fixTo m t.A.toNat s ++ fixIn m s a = ps at ho2 hp2 hp H1 hll ⊢
                go_upto_region 13 with (fail)
                refine wp_region_lit ?_
                refine seq_val rfl rfl (R_move (v := .slice _ _ _) rfl rfl) (by simp only [List.set_cons_succ, List.set_cons_zero]; exact rfl) ?_
                refine seq_val rfl rfl (R_move (v := .int .i64 _) rfl rfl) (by simp only [List.set_cons_succ, List.set_cons_zero]; exact rfl) ?_
                refine seq_val rfl rfl (R_move (v := .int .i64 _) rfl rfl) (by simp only [List.set_cons_succ, List.set_cons_zero]; exact rfl) ?_
                refine seq_new rfl rfl (R_buildSlice rfl Try.underlying29 (size := 1) (by kernel_rfl) (by decide) (by decide) Try.zeroValue3 (cells := #[.int .i64 s, .int .i64 a]) (by kernel_rfl)) (by simp only [List.set_cons_succ, List.set_cons_zero]; exact rfl) fun w6 hw => ?_
                obtain ⟨n45, hn⟩ : ∃ n, n = w5.heap.size := ⟨_, rfl⟩
                rw [← hn]
                have l45 : w.heap.size ≤ n45 := by rw [hn]; exact E.size
                have l45_Er : wr.heap.size ≤ n45 := by rw [hn]; exact Er.size
                have m45_4 : n4 < n45 := by rw [hn]; exact blk_lt q4
                have m45_5 : n5 < n45 := by rw [hn]; exact blk_lt q5
                have m45_10 : n10 < n45 := by rw [hn]; exact blk_lt q10
                replace q4 := keep_alloc hw q4
                replace q5 := keep_alloc hw q5
                replace q10 := keep_alloc hw q10
                replace Er := ext_alloc Er hw
                replace ho2 := owns_alloc hw ho2
                have q45 := new_block hw hn
                replace E := ext_alloc E hw
                clear hw hn
                refine seq_new rfl rfl (R_buildSlice rfl Try.underlying50 (size := 1) (by kernel_rfl) (by decide) (by decide) Try.zeroValue29 (cells := #[.slice (some ⟨n45, 0, none⟩) 2 2]) (by kernel_rfl)) (by simp only [List.set_cons_succ, List.set_cons_zero]; exact rfl) fun w7 hw => ?_
                obtain ⟨n46, hn⟩ : ∃ n, n = w6.heap.size := ⟨_, rfl⟩
                rw [← hn]
                have l46 : w.heap.size ≤ n46 := by rw [hn]; exact E.size
                have l46_Er : wr.heap.size ≤ n46 := by rw [hn]; exact Er.size
                have m46_4 : n4 < n46 := by rw [hn]; exact blk_lt q4
                have m46_5 : n5 < n46 := by rw [hn]; exact blk_lt q5
                have m46_10 : n10 < n46 := by rw [hn]; exact blk_lt q10
                have m46_45 : n45 < n46 := by rw [hn]; exact blk_lt q45
                replace q4 := keep_alloc hw q4
                replace q5 := keep_alloc hw q5
                replace q10 := keep_alloc hw q10
                replace q45 := keep_alloc hw q45
                replace Er := ext_alloc Er hw
                replace ho2 := owns_alloc hw ho2
                have q46 := new_block hw hn
                replace E := ext_alloc E hw
                clear hw hn
                replace hp2 := pairs_keep hp fun g cs hg => Er.keep0 hg
                have hsz2 := Er.size
                refine seq_append rfl rfl rfl (n5 + 1) (e := 29) (size := 1) (bytes := 24) Try.underlying50 (by kernel_rfl) (by decide) rfl ho2 rfl q46 rfl (by simp [Value.oneCell']) (by omega) (by omega) (by have := E.size; omega) fun v' w8 hown' hg => ?_
                obtain ⟨va47, vc47, rfl⟩ := owns_slice hown'
                refine ⟨_, (by simp only [List.set_cons_succ, List.set_cons_zero]; exact rfl), ?_⟩
                replace q4 := keep_append ho2 hg q4 (by omega)
                replace q5 := keep_append ho2 hg q5 (by omega)
                replace hp2 := pairs_keep hp2 fun g cs h => (hg.block g (blk_lt h) (own_ne_type ho2 h (by decide))).trans h
                have q45b := (hg.block n45 (blk_lt q45) (own_ne_type ho2 q45 (by decide))).trans q45
                have hsz4 := Nat.lt_of_lt_of_le (Nat.lt_of_lt_of_le hsz hsz2) hg.size
                replace E := ext_append E ho2 hg (by omega)
                replace ho2 := hown'
                clear hg
                refine seq_val rfl rfl (R_assign (v := .slice _ _ _) rfl rfl) (by simp only [List.set_cons_succ, List.set_cons_zero]; exact rfl) ?_
                refine wpList_nil ?_
                have hp3 := pairs_snoc hp2 (p := ((s : Int), (a : Int))) q45b
                go_wp2
                go_roundw
                case rel => exact ⟨a + 1, _, by omega, by go_num, q4, q5, by rw [H1.out, List.length_append]; exact ho2, by rw [H1.out]; exact hp3, E, hsz4⟩
                case measure => simp [intOf]; omega
              · have H1 : Hid (fixTo m t.A.toNat s ++ fixIn m s (a + 1) = fixTo m t.A.toNat s ++ fixIn m s a) := by
                  show _ = _
                  rw [fixIn, if_neg (by rw [← hlo, ← hhi]; exact heq)]
                have hsz3 := Nat.lt_of_lt_of_le hsz Er.size
                have hb : (lo == hi) = false := by simpa using heq
                clear hap hlo hhi
                go_wp2
                go_roundw
                case rel => exact ⟨a + 1, _, by omega, by go_num, q4, q5, by rw [H1.out]; exact ho2, by rw [H1.out]; exact hp2, E, hsz3⟩
                case measure => simp [intOf]; omega
          · have hA : t.A.toNat = a := by omega
            have H1 : Hid (fixTo m t.A.toNat s ++ fixIn m s a = fixTo m t.A.toNat (s + 1)) := by show _ = _; rw [fixTo, hA]
            go_wp2
            go_roundw
            case rel => exact ⟨s + 1, _, by omega, by go_num, q4, q5, by rw [← H1.out]; exact ho, by rw [← H1.out]; exact hp, E, hsz⟩
            case measure => simp [intOf]; omega
      · have hS : t.S.toNat = s := by omega
        go_wp2
        go_ret2
        exact ⟨_, rfl, ⟨_, _, ho, hp⟩, E⟩
  · rw [show fixL t = [] from if_neg h]
    have hVs := openV_size t noX gv rv lv
    have hVo := openV_one (t := t) (xs := noX) hone
    generalize openV t noX gv rv lv = X at HK hVs hVo
    generalize solvedM t noX = m at HK
    obtain ⟨ce, hce⟩ : ∃ ce, ce = fixE t := ⟨_, rfl⟩
    rw [← hce] at h HK ⊢
    clear hce
    have hb : (ce != 0) = true := by simpa using h
    unfold tpV at HK ⊢
    go_enter Try.func61, Try.ntmps61
    go_upto_region 0 with (fail)
    refine wp_region_lit ?_
    refine seq_new rfl rfl (R_box (v := .agg _) rfl rfl) (by simp only [List.set_cons_succ, List.set_cons_zero]; exact rfl) fun w1 hw => ?_
    obtain ⟨n1, hn⟩ : ∃ n, n = w.heap.size := ⟨_, rfl⟩
    rw [← hn]
    have l1 : w.heap.size ≤ n1 := by rw [hn]; exact E.size
    have q1 := new_row hw hn
    replace E := ext_alloc E hw
    clear hw hn
    refine seq_val rfl rfl (R_assign (v := .slice _ _ _) rfl rfl) (by simp only [List.set_cons_succ, List.set_cons_zero]; exact rfl) ?_
    refine seq_val rfl rfl (R_assign (v := .int .i64 _) rfl rfl) (by simp only [List.set_cons_succ, List.set_cons_zero]; exact rfl) ?_
    refine wpList_nil ?_
    go_upto_region 1 with (fail)
    refine wp_region_lit ?_
    refine seq_val rfl rfl (R_loadBlk rfl rfl Try.underlying28 rfl (by kernel_rfl) q1) (by simp only [List.set_cons_succ, List.set_cons_zero]; exact rfl) ?_
    refine seq_call rfl rfl (by kernel_rfl) (HK.out _ E) fun e w2 hR => ?_
    obtain ⟨rfl, e1⟩ := hR
    refine ⟨_, _, rfl, (by simp only [List.set_cons_succ, List.set_cons_zero]; exact rfl), ?_⟩
    replace q1 := (e1).keep0 q1
    replace E := ext_same E (e1)
    refine seq_val rfl rfl (R_move (v := .tuple _) rfl rfl) (by simp only [List.set_cons_succ, List.set_cons_zero]; exact rfl) ?_
    refine seq_val rfl rfl (R_extract rfl rfl (get0)) (by simp only [List.set_cons_succ, List.set_cons_zero]; exact rfl) ?_
    refine seq_val rfl rfl (R_extract rfl rfl (getS (get0))) (by simp only [List.set_cons_succ, List.set_cons_zero]; exact rfl) ?_
    refine seq_val rfl rfl (R_extract rfl rfl (getS (getS (get0)))) (by simp only [List.set_cons_succ, List.set_cons_zero]; exact rfl) ?_
    refine seq_new rfl rfl (R_alloc rfl Try.zeroValue100) (by simp only [List.set_cons_succ, List.set_cons_zero]; exact rfl) fun w3 hw => ?_
    obtain ⟨n4, hn⟩ : ∃ n, n = w2.heap.size := ⟨_, rfl⟩
    rw [← hn]
    have l4 : w.heap.size ≤ n4 := by rw [hn]; exact E.size
    have m4_1 : n1 < n4 := by rw [hn]; exact blk_lt q1
    replace q1 := keep_alloc hw q1
    have q4 := new_row hw hn
    replace E := ext_alloc E hw
    clear hw hn
    refine seq_new rfl rfl (R_alloc rfl Try.zeroValue105) (by simp only [List.set_cons_succ, List.set_cons_zero]; exact rfl) fun w4 hw => ?_
    obtain ⟨n5, hn⟩ : ∃ n, n = w3.heap.size := ⟨_, rfl⟩
    rw [← hn]
    have l5 : w.heap.size ≤ n5 := by rw [hn]; exact E.size
    have m5_1 : n1 < n5 := by rw [hn]; exact blk_lt q1
    have m5_4 : n4 < n5 := by rw [hn]; exact blk_lt q4
    replace q1 := keep_alloc hw q1
    replace q4 := keep_alloc hw q4
    have q5 := new_row hw hn
    replace E := ext_alloc E hw
    clear hw hn
    refine seq_to rfl rfl (R_storeRow rfl rfl rfl (by rw [hVs]; kernel_rfl) hVo q4 (by rw [hVs]; rfl)) fun w5 hw => ?_
    replace q1 := keep_cells hw q1 (by omega)
    replace q4 := put_row hw q4 (by rw [hVs]; rfl)
    replace q5 := keep_cells hw q5 (by omega)
    replace E := ext_cells E hw (fun h => by first | exact absurd h (by omega) | simp)
    clear hw
    refine seq_to rfl rfl (R_storeRow rfl rfl rfl (by rw [matCells_size]; kernel_rfl) (by rw [← matList_toArray]; exact all_oneCell_toArray (matList_one _)) q5 (by show Try.zeroCells105.size = _; rw [Try.zeroCells105_size, matCells_size])) fun w6 hw => ?_
    replace q1 := keep_cells hw q1 (by omega)
    replace q4 := keep_cells hw q4 (by omega)
    replace q5 := put_row hw q5 (by show Try.zeroCells105.size = _; rw [Try.zeroCells105_size, matCells_size])
    replace E := ext_cells E hw (fun h => by first | exact absurd h (by omega) | simp)
    clear hw
    refine seq_val rfl rfl (R_assign (v := .int .i64 _) rfl rfl) (by simp only [List.set_cons_succ, List.set_cons_zero]; exact rfl) ?_
    refine wpList_nil ?_
    clear e1
    go_wp2
    go_ret2
    exact ⟨_, rfl, ⟨0, [], World.ownsRow_nil _ _ _ _, ⟨rfl, fun i p hp => by simp at hp⟩⟩, E⟩
end Go.Proofs.Ytholfdgebdlgjaa
