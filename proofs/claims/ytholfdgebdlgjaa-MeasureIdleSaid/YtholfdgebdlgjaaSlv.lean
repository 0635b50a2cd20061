/- The walk of solved: the bounds of tapes, or their error. Conditions: lists of at most 1000. -/
import Derived.Test.YtholfdgebdlgjaaOpn
import Derived.Test.YtholfdgebdlgjaaSol
import Derived.Test.YtholfdgebdlgjaaTru
namespace Go.Proofs.Ytholfdgebdlgjaa
open Go.RowKit
set_option linter.unusedVariables false
set_option linter.unusedSimpArgs false
theorem spanE_zero {l m lo hi : Int} : spanE l m lo hi = 0 ↔ (lo ≤ l ∧ l ≤ hi) ∧ (lo ≤ m ∧ m ≤ hi) ∧ l ≤ m := by
  unfold spanE
  rw [firstE_zero]
  constructor
  · intro h
    have h1 := numberE_zero.1 (h (numberE l lo hi) (by simp))
    have h2 := numberE_zero.1 (h (numberE m lo hi) (by simp))
    have h3 := h (if m < l then 5 else 0) (by simp)
    refine ⟨h1, h2, ?_⟩
    by_cases c : m < l
    · rw [if_pos c] at h3; omega
    · omega
  · rintro ⟨h1, h2, h3⟩ e he
    simp only [List.mem_cons, List.not_mem_nil, or_false] at he
    rcases he with rfl | rfl | rfl
    · exact numberE_zero.2 h1
    · exact numberE_zero.2 h2
    · rw [if_neg (by omega)]
theorem knownE_zero {n many : Int} : knownE n many = 0 ↔ 0 ≤ n ∧ n < many := by
  unfold knownE
  cases h : inB n 0 (many - 1)
  · have : ¬ (0 ≤ n ∧ n ≤ many - 1) := fun c => by rw [← inB_iff, h] at c; cases c
    simp; omega
  · have := inB_iff.1 h
    simp; omega
theorem map_zero {α : Type} {f : α → Int} {xs : List α} : firstE (xs.map f) = 0 ↔ ∀ x ∈ xs, f x = 0 := by
  rw [firstE_zero]; simp
theorem rdE_zero {t : Tp} {r : Int × Int × Int × Int} : rdE t r = 0 ↔ (0 ≤ r.1 ∧ r.1 < t.S) ∧ (0 ≤ r.2.1 ∧ r.2.1 < t.A) ∧ (0 ≤ r.2.2.1 ∧ r.2.2.1 < t.T) ∧ 0 ≤ r.2.2.2 ∧ r.2.2.2 ≤ 250 := by
  unfold rdE rdgE
  rw [firstE_zero]
  simp [knownE_zero, numberE_zero]
theorem lkE_zero {t : Tp} {l : Int × Int × Int × Int × Int × Int} : lkE t l = 0 ↔ (0 ≤ l.1 ∧ l.1 < t.S) ∧ (0 ≤ l.2.2.1 ∧ l.2.2.1 < t.S) ∧ (0 ≤ l.2.1 ∧ l.2.1 < t.A) ∧ (0 ≤ l.2.2.2.1 ∧ l.2.2.2.1 < t.A) ∧ ¬ (l.1 = l.2.2.1 ∧ l.2.1 = l.2.2.2.1) ∧ (-200 ≤ l.2.2.2.2.1 ∧ l.2.2.2.2.1 ≤ 200) ∧ (-200 ≤ l.2.2.2.2.2 ∧ l.2.2.2.2.2 ≤ 200) ∧ l.2.2.2.2.1 ≤ l.2.2.2.2.2 := by
  unfold lkE lnkE
  rw [firstE_zero]
  simp only [List.mem_cons, List.not_mem_nil, or_false, forall_eq_or_imp, forall_eq, knownE_zero, spanE_zero]
  have e : (if l.1 = l.2.2.1 ∧ l.2.1 = l.2.2.2.1 then (4 : Int) else 0) = 0 ↔ ¬ (l.1 = l.2.2.1 ∧ l.2.1 = l.2.2.2.1) := by
    split <;> simp_all
  rw [e]
/-- Valid tapes are those without an error. -/
theorem checkE_zero {t : Tp} : checkE t = 0 ↔ t.Ok ∧ t.rd.length ≤ 8 := by
  have hh : headE t = 0 ↔ (1 ≤ t.S ∧ t.S ≤ 3) ∧ (1 ≤ t.A ∧ t.A ≤ 3) ∧ (1 ≤ t.T ∧ t.T ≤ 3) ∧ ((20 ≤ t.bl ∧ t.bl ≤ 200) ∧ (20 ≤ t.bm ∧ t.bm ≤ 200) ∧ t.bl ≤ t.bm) ∧ ((-9 ≤ t.pl ∧ t.pl ≤ 9) ∧ (-9 ≤ t.pm ∧ t.pm ≤ 9) ∧ t.pl ≤ t.pm) ∧ (0 ≤ t.sl ∧ t.sl ≤ 5) := by
    unfold headE
    rw [firstE_zero]
    simp only [List.mem_cons, List.not_mem_nil, or_false, forall_eq_or_imp, forall_eq, numberE_zero, spanE_zero]
  unfold checkE
  constructor
  · intro h
    by_cases c1 : headE t = 0
    · rw [if_neg (by simpa using c1)] at h
      by_cases c2 : (t.gr.length : Int) < t.S
      · rw [if_pos c2] at h; omega
      rw [if_neg c2] at h
      by_cases c3 : t.S < (t.gr.length : Int)
      · rw [if_pos c3] at h; omega
      rw [if_neg c3] at h
      by_cases c4 : firstE (t.gr.map grE) = 0
      · rw [if_neg (by simpa using c4)] at h
        by_cases c5 : 8 < t.rd.length
        · rw [if_pos c5] at h; omega
        rw [if_neg c5] at h
        by_cases c6 : firstE (t.rd.map (rdE t)) = 0
        · rw [if_neg (by simpa using c6)] at h
          by_cases c7 : 3 < t.lk.length
          · rw [if_pos c7] at h; omega
          rw [if_neg c7] at h
          obtain ⟨d1, d2, d3, d4, d5, d6⟩ := hh.1 c1
          refine ⟨⟨d1.1, d1.2, d2.1, d2.2, d3.1, d3.2, d4.1.1, d4.2.1.2, d4.2.2, d5.1.1, d5.2.1.2, d5.2.2, d6.1, d6.2, by omega, fun g hg => ?_, by omega, fun r hr => ?_, by omega, fun l hl => ?_⟩, by omega⟩
          · have := spanE_zero.1 (map_zero.1 c4 g hg); omega
          · have := rdE_zero.1 (map_zero.1 c6 r hr); omega
          · obtain ⟨x1, x2, x3, x4, x5, x6, x7, x8⟩ := lkE_zero.1 (map_zero.1 h l hl)
            exact ⟨x1.1, x1.2, x3.1, x3.2, x2.1, x2.2, x4.1, x4.2, x5, x6.1, x7.2, x8⟩
        · rw [if_pos (by simpa using c6)] at h; exact absurd h c6
      · rw [if_pos (by simpa using c4)] at h; exact absurd h c4
    · rw [if_pos (by simpa using c1)] at h; exact absurd h c1
  · rintro ⟨ok, h8⟩
    have b1 := ok.b
    have b2 := ok.p
    have b3 := ok.bl1
    have b4 := ok.bm1
    have b5 := ok.pl1
    have b6 := ok.pm1
    rw [if_neg (by rw [hh.2 ⟨⟨ok.S1, ok.S3⟩, ⟨ok.A1, ok.A3⟩, ⟨ok.T1, ok.T3⟩, ⟨⟨by omega, by omega⟩, ⟨by omega, by omega⟩, by omega⟩, ⟨⟨by omega, by omega⟩, ⟨by omega, by omega⟩, by omega⟩, ⟨ok.sl0, ok.sl5⟩⟩]; simp),
      if_neg (by have := ok.grl; omega), if_neg (by have := ok.grl; omega), if_neg (by rw [(map_zero (f := grE)).2 fun g hg => spanE_zero.2 (by have := ok.gr g hg; omega)]; simp), if_neg (by omega),
      if_neg (by rw [(map_zero (f := rdE t)).2 fun r hr => rdE_zero.2 (by have := ok.rd r hr; omega)]; simp), if_neg (by have := ok.lkl; omega)]
    exact map_zero.2 fun l hl => lkE_zero.2 (by
      obtain ⟨g1, g2, g3, g4, g5, g6, g7, g8, g9, g10, g11, g12⟩ := ok.lk l hl
      exact ⟨⟨g1, g2⟩, ⟨g5, g6⟩, ⟨g3, g4⟩, ⟨g7, g8⟩, g9, ⟨g10, by omega⟩, ⟨by omega, g11⟩, g12⟩)
theorem openE_check {t : Tp} {xs : Nat → List Int} (h : openE t xs = 0) : checkE t = 0 := by
  unfold openE at h
  by_cases c : checkE t = 0
  · exact c
  · rw [if_pos c] at h; exact h
/-- The bounds that solve returns, and whether there is a truth. -/
def bdV (t : Tp) (out : Int) : Nat → Nat → Int := (kTo (looseM t out) 13).getD fun _ _ => 0
def bdB (t : Tp) (out : Int) : Bool := (kTo (looseM t out) 13).isSome
theorem solve_v (t : Tp) (ok : t.Ok) (gv rv lv : Value) (out : Int) (ho1 : 0 ≤ out) (ho2 : out < 65536) (w : World) (ht : IsTp w gv rv lv t) :
    Calls Try.prog 80 #[tpV t gv rv lv, .int .u16 out] w fun e w' => e = .returned (.tuple #[.agg (matCells (bdV t out)), .bool (bdB t out)]) ∧ Ext [] w w' := by
  refine (solve_ok t ok gv rv lv out ho1 ho2 w ht).mono fun e w' h => ?_
  rcases h with ⟨h1, ⟨h2, rfl⟩ | ⟨m, h2, rfl⟩⟩
  · exact ⟨by rw [bdV, bdB, h2]; rfl, h1⟩
  · exact ⟨by rw [bdV, bdB, h2]; rfl, h1⟩
def solvedE (t : Tp) (xs : Nat → List Int) : Int := if openE t xs ≠ 0 then openE t xs else if bdB t 0 then 0 else 9
def solvedM (t : Tp) (xs : Nat → List Int) : Nat → Nat → Int := if openE t xs = 0 then bdV t 0 else fun _ _ => 0
theorem tp_one {w : World} {gv rv lv : Value} {t : Tp} (ht : IsTp w gv rv lv t) : gv.oneCell' = true ∧ rv.oneCell' = true ∧ lv.oneCell' = true := by
  obtain ⟨_, _, e1⟩ := rows_len ht.gr
  obtain ⟨_, _, e2⟩ := rows_len ht.rd
  obtain ⟨_, _, e3⟩ := rows_len ht.lk
  rw [e1, e2, e3]; exact ⟨rfl, rfl, rfl⟩
theorem tp_cells_one {t : Tp} {gv rv lv : Value} (h : gv.oneCell' = true ∧ rv.oneCell' = true ∧ lv.oneCell' = true) : (tpCells t gv rv lv).all (·.oneCell') = true := by
  simp [tpCells, h.1, h.2.1, h.2.2, show ∀ k n, (Value.int k n).oneCell' = true from fun _ _ => rfl]
theorem tp_zero_one : tpZero.all (·.oneCell') = true := by simp [tpZero, Value.oneCell']
theorem mat_size_info (m : Nat → Nat → Int) : (Try.prog.info? 105).map (·.size) = some (matCells m).size := by rw [matCells_size]; kernel_rfl
set_option maxRecDepth 100000 in
set_option maxHeartbeats 2000000 in
theorem solved_any (t : Tp) (gv rv lv : Value) (xs : Nat → List Int) (va : Nat → Option Addr) (vc : Nat → Nat) (w : World) (ht : IsTp w gv rv lv t) (hl1 : t.gr.length ≤ 1000) (hl2 : t.rd.length ≤ 1000) (hl3 : t.lk.length ≤ 1000)
    (hx : ∀ i, i < 3 → IsRows w (.slice (va i) (xs i).length (vc i)) 1 ((xs i).map intRow)) (hxl : ∀ i, i < 3 → (xs i).length ≤ 1000) :
    Calls Try.prog 90 #[tpV t gv rv lv, .slice (va 0) (xs 0).length (vc 0), .slice (va 1) (xs 1).length (vc 1), .slice (va 2) (xs 2).length (vc 2)] w fun e w' => e = .returned (.tuple #[.agg (openV t xs gv rv lv), .agg (matCells (solvedM t xs)), .int .i64 (solvedE t xs)]) ∧ Ext [] w w' := by
  have hone := tp_one ht
  have HK : Hid (∀ W : World, Ext [] w W → Calls Try.prog 79 #[tpV t gv rv lv, .slice (va 0) (xs 0).length (vc 0), .slice (va 1) (xs 1).length (vc 1), .slice (va 2) (xs 2).length (vc 2)] W fun e w' => e = .returned (.tuple #[.agg (openV t xs gv rv lv), .int .i64 (openE t xs)]) ∧ Ext [] W w') :=
    fun W e => open_any t gv rv lv xs va vc W (ht.ext e (by simp)) hl1 hl2 hl3 (fun i hi => (hx i hi).ext e (by simp)) hxl
  have Ht := Lib.hid ht; clear ht hx
  have E : Ext [] w w := Ext.refl _ _
  by_cases h : openE t xs = 0
  · have ok := (checkE_zero.1 (openE_check h)).1
    have HS : Hid (∀ W : World, Ext [] w W → Calls Try.prog 80 #[tpV t gv rv lv, .int .u16 0] W fun e w' => e = .returned (.tuple #[.agg (matCells (bdV t 0)), .bool (bdB t 0)]) ∧ Ext [] W w') :=
      fun W e => solve_v t ok gv rv lv 0 (by omega) (by omega) W (Ht.out.ext e (by simp))
    simp only [openV_ok h, show solvedM t xs = bdV t 0 from if_pos h, show solvedE t xs = if bdB t 0 then 0 else 9 by rw [solvedE, if_neg (by simpa using h)]] at HK ⊢
    rw [h] at HK
    clear h ok
    obtain ⟨m, hm⟩ : ∃ m, m = bdV t 0 := ⟨_, rfl⟩
    obtain ⟨b, hb⟩ : ∃ b, b = bdB t 0 := ⟨_, rfl⟩
    rw [← hm, ← hb] at HS ⊢
    clear hm hb
    unfold tpV at HK HS ⊢
    go_enter Try.func90, Try.ntmps90
    go_upto_region 0 with (fail)
    refine wp_region_lit ?_
    refine seq_new rfl rfl (R_box (v := .agg _) rfl rfl) (by simp only [List.set_cons_succ, List.set_cons_zero]; exact rfl) fun w1 hw => ?_
    obtain ⟨n4, hn⟩ : ∃ n, n = w.heap.size := ⟨_, rfl⟩
    rw [← hn]
    have l4 : w.heap.size ≤ n4 := by rw [hn]; exact E.size
    have q4 := new_row hw hn
    replace E := ext_alloc E hw
    clear hw hn
    refine seq_new rfl rfl (R_alloc rfl Try.zeroValue100) (by simp only [List.set_cons_succ, List.set_cons_zero]; exact rfl) fun w2 hw => ?_
    obtain ⟨n8, hn⟩ : ∃ n, n = w1.heap.size := ⟨_, rfl⟩
    rw [← hn]
    have l8 : w.heap.size ≤ n8 := by rw [hn]; exact E.size
    have m8_4 : n4 < n8 := by rw [hn]; exact blk_lt q4
    replace q4 := keep_alloc hw q4
    have q8 := new_row hw hn
    replace E := ext_alloc E hw
    clear hw hn
    refine seq_new rfl rfl (R_alloc rfl Try.zeroValue105) (by simp only [List.set_cons_succ, List.set_cons_zero]; exact rfl) fun w3 hw => ?_
    obtain ⟨n9, hn⟩ : ∃ n, n = w2.heap.size := ⟨_, rfl⟩
    rw [← hn]
    have l9 : w.heap.size ≤ n9 := by rw [hn]; exact E.size
    have m9_4 : n4 < n9 := by rw [hn]; exact blk_lt q4
    have m9_8 : n8 < n9 := by rw [hn]; exact blk_lt q8
    replace q4 := keep_alloc hw q4
    replace q8 := keep_alloc hw q8
    have q9 := new_row hw hn
    replace E := ext_alloc E hw
    clear hw hn
    refine seq_val rfl rfl (R_assign (v := .int .i64 _) rfl rfl) (by simp only [List.set_cons_succ, List.set_cons_zero]; exact rfl) ?_
    refine wpList_nil ?_
    go_upto_region 1 with (fail)
    refine wp_region_lit ?_
    refine seq_val rfl rfl (R_loadBlk rfl rfl Try.underlying28 rfl (by kernel_rfl) q4) (by simp only [List.set_cons_succ, List.set_cons_zero]; exact rfl) ?_
    refine seq_val rfl rfl (R_move (v := .slice _ _ _) rfl rfl) (by simp only [List.set_cons_succ, List.set_cons_zero]; exact rfl) ?_
    refine seq_val rfl rfl (R_move (v := .slice _ _ _) rfl rfl) (by simp only [List.set_cons_succ, List.set_cons_zero]; exact rfl) ?_
    refine seq_val rfl rfl (R_move (v := .slice _ _ _) rfl rfl) (by simp only [List.set_cons_succ, List.set_cons_zero]; exact rfl) ?_
    refine seq_call rfl rfl (by kernel_rfl) (HK.out _ E) fun e w4 hR => ?_
    obtain ⟨rfl, e1⟩ := hR
    refine ⟨_, _, rfl, (by simp only [List.set_cons_succ, List.set_cons_zero]; exact rfl), ?_⟩
    replace q4 := (e1).keep0 q4
    replace q8 := (e1).keep0 q8
    replace q9 := (e1).keep0 q9
    replace E := ext_same E (e1)
    refine seq_val rfl rfl (R_move (v := .tuple _) rfl rfl) (by simp only [List.set_cons_succ, List.set_cons_zero]; exact rfl) ?_
    refine seq_val rfl rfl (R_extract rfl rfl (get0)) (by simp only [List.set_cons_succ, List.set_cons_zero]; exact rfl) ?_
    refine seq_val rfl rfl (R_extract rfl rfl (getS (get0))) (by simp only [List.set_cons_succ, List.set_cons_zero]; exact rfl) ?_
    refine seq_new rfl rfl (R_alloc rfl Try.zeroValue100) (by simp only [List.set_cons_succ, List.set_cons_zero]; exact rfl) fun w5 hw => ?_
    obtain ⟨n11, hn⟩ : ∃ n, n = w4.heap.size := ⟨_, rfl⟩
    rw [← hn]
    have l11 : w.heap.size ≤ n11 := by rw [hn]; exact E.size
    have m11_4 : n4 < n11 := by rw [hn]; exact blk_lt q4
    have m11_8 : n8 < n11 := by rw [hn]; exact blk_lt q8
    have m11_9 : n9 < n11 := by rw [hn]; exact blk_lt q9
    replace q4 := keep_alloc hw q4
    replace q8 := keep_alloc hw q8
    replace q9 := keep_alloc hw q9
    have q11 := new_row hw hn
    replace E := ext_alloc E hw
    clear hw hn
    refine seq_to rfl rfl (R_storeRow rfl rfl rfl (by kernel_rfl) (tp_cells_one hone) q11 rfl) fun w6 hw => ?_
    replace q4 := keep_cells hw q4 (by omega)
    replace q8 := keep_cells hw q8 (by omega)
    replace q9 := keep_cells hw q9 (by omega)
    replace q11 := put_row hw q11 rfl
    replace E := ext_cells E hw (fun h => by first | exact absurd h (by omega) | simp)
    clear hw
    refine seq_val rfl rfl (R_assign (v := .int .i64 _) rfl rfl) (by simp only [List.set_cons_succ, List.set_cons_zero]; exact rfl) ?_
    refine wpList_nil ?_
    clear e1
    go_upto_region 4 with (fail)
    refine wp_region_lit ?_
    refine seq_val rfl rfl (R_loadBlk rfl rfl Try.underlying100 rfl (by kernel_rfl) q11) (by simp only [List.set_cons_succ, List.set_cons_zero]; exact rfl) ?_
    refine seq_call rfl rfl (by kernel_rfl) (HS.out _ E) fun e w7 hR => ?_
    obtain ⟨rfl, e1⟩ := hR
    refine ⟨_, _, rfl, (by simp only [List.set_cons_succ, List.set_cons_zero]; exact rfl), ?_⟩
    replace q4 := (e1).keep0 q4
    replace q8 := (e1).keep0 q8
    replace q9 := (e1).keep0 q9
    replace q11 := (e1).keep0 q11
    replace E := ext_same E (e1)
    refine seq_val rfl rfl (R_move (v := .tuple _) rfl rfl) (by simp only [List.set_cons_succ, List.set_cons_zero]; exact rfl) ?_
    refine seq_val rfl rfl (R_extract rfl rfl (get0)) (by simp only [List.set_cons_succ, List.set_cons_zero]; exact rfl) ?_
    refine seq_val rfl rfl (R_extract rfl rfl (getS (get0))) (by simp only [List.set_cons_succ, List.set_cons_zero]; exact rfl) ?_
    refine seq_new rfl rfl (R_alloc rfl Try.zeroValue105) (by simp only [List.set_cons_succ, List.set_cons_zero]; exact rfl) fun w8 hw => ?_
    obtain ⟨n13, hn⟩ : ∃ n, n = w7.heap.size := ⟨_, rfl⟩
    rw [← hn]
    have l13 : w.heap.size ≤ n13 := by rw [hn]; exact E.size
    have m13_4 : n4 < n13 := by rw [hn]; exact blk_lt q4
    have m13_8 : n8 < n13 := by rw [hn]; exact blk_lt q8
    have m13_9 : n9 < n13 := by rw [hn]; exact blk_lt q9
    have m13_11 : n11 < n13 := by rw [hn]; exact blk_lt q11
    replace q4 := keep_alloc hw q4
    replace q8 := keep_alloc hw q8
    replace q9 := keep_alloc hw q9
    replace q11 := keep_alloc hw q11
    have q13 := new_row hw hn
    replace E := ext_alloc E hw
    clear hw hn
    refine seq_to rfl rfl (R_storeRow rfl rfl rfl (by rw [matCells_size]; kernel_rfl) (by rw [← matList_toArray]; exact all_oneCell_toArray (matList_one _)) q13 (by show Try.zeroCells105.size = _; rw [Try.zeroCells105_size, matCells_size])) fun w9 hw => ?_
    replace q4 := keep_cells hw q4 (by omega)
    replace q8 := keep_cells hw q8 (by omega)
    replace q9 := keep_cells hw q9 (by omega)
    replace q11 := keep_cells hw q11 (by omega)
    replace q13 := put_row hw q13 (by show Try.zeroCells105.size = _; rw [Try.zeroCells105_size, matCells_size])
    replace E := ext_cells E hw (fun h => by first | exact absurd h (by omega) | simp)
    clear hw
    refine seq_val rfl rfl (R_assign (v := .bool _) rfl rfl) (by simp only [List.set_cons_succ, List.set_cons_zero]; exact rfl) ?_
    refine wpList_nil ?_
    clear e1
    cases b
    · skip
      go_upto_region 6 with (fail)
      refine region_any (Ext [n8, n9] w9) follows fun w10 hh eS => ?_
      have q4_ := q4
      have q8_ := q8
      have q9_ := q9
      have q11_ := q11
      have q13_ := q13
      replace q4 := keep_same hh q4
      replace q8 := keep_same hh q8
      replace q9 := keep_same hh q9
      replace q11 := keep_same hh q11
      replace q13 := keep_same hh q13
      replace E := ext_same E eS
      replace eS := eS.mono (Y := [n8, n9]) (by simp)
      refine anyH_take (i := 0) rfl (by kernel_rfl) (by kernel_rfl) (by kernel_rfl) (fun _ _ _ h => h) rfl rfl (fun w' hS => R_loadBlk rfl rfl Try.underlying100 rfl (by kernel_rfl) (hS.keep q11_ (by simp; omega))) eS (by simp only [List.set_cons_succ, List.set_cons_zero]; exact rfl) ?_
      refine anyH_take (i := 1) rfl (by kernel_rfl) (by kernel_rfl) (by kernel_rfl) (fun _ _ _ h => h) rfl rfl (fun w' hS => R_loadBlk rfl rfl Try.underlying105 rfl (by rw [matCells_size]; kernel_rfl) (hS.keep q13_ (by simp; omega))) eS (by simp only [List.set_cons_succ, List.set_cons_zero]; exact rfl) ?_
      refine anyH_to (i := 2) rfl (by kernel_rfl) rfl rfl (R_storeRow rfl rfl rfl (by kernel_rfl) (tp_cells_one hone) q8 rfl) fun w11 hw => ?_
      replace eS := ext_cells eS hw (fun _ => by simp)
      replace q4 := keep_cells hw q4 (by omega)
      replace q8 := put_row hw q8 rfl
      replace q9 := keep_cells hw q9 (by omega)
      replace q11 := keep_cells hw q11 (by omega)
      replace q13 := keep_cells hw q13 (by omega)
      replace E := ext_cells E hw (fun h => by first | exact absurd h (by omega) | simp)
      clear hw
      refine ⟨eS, ?_⟩
      refine anyH_to (i := 3) rfl (by kernel_rfl) rfl rfl (R_storeRow rfl rfl rfl (by rw [matCells_size]; kernel_rfl) (by rw [← matList_toArray]; exact all_oneCell_toArray (matList_one _)) q9 (by show Try.zeroCells105.size = _; rw [Try.zeroCells105_size, matCells_size])) fun w12 hw => ?_
      replace eS := ext_cells eS hw (fun _ => by simp)
      replace q4 := keep_cells hw q4 (by omega)
      replace q8 := keep_cells hw q8 (by omega)
      replace q9 := put_row hw q9 (by show Try.zeroCells105.size = _; rw [Try.zeroCells105_size, matCells_size])
      replace q11 := keep_cells hw q11 (by omega)
      replace q13 := keep_cells hw q13 (by omega)
      replace E := ext_cells E hw (fun h => by first | exact absurd h (by omega) | simp)
      clear hw
      refine ⟨eS, ?_⟩
      refine anyH_take (i := 4) rfl (by kernel_rfl) (by kernel_rfl) (by kernel_rfl) (fun _ _ _ h => h) rfl rfl (fun w' hS => R_assign (v := .int .i64 _) rfl rfl) eS (by simp only [List.set_cons_succ, List.set_cons_zero]; exact rfl) ?_
      refine wpAnyH_done (by kernel_rfl) ?_ _
      clear q4_ q8_ q9_ q11_ q13_ hh eS
      go_wp2
      refine bodyPost_ret (res_cct rfl rfl Try.underlying100 rfl (by kernel_rfl) q8 rfl Try.underlying105 rfl (mat_size_info m) q9 rfl) rfl ⟨rfl, E⟩
    · skip
      go_upto_region 7 with (fail)
      refine region_any (Ext [n8, n9] w9) follows fun w10 hh eS => ?_
      have q4_ := q4
      have q8_ := q8
      have q9_ := q9
      have q11_ := q11
      have q13_ := q13
      replace q4 := keep_same hh q4
      replace q8 := keep_same hh q8
      replace q9 := keep_same hh q9
      replace q11 := keep_same hh q11
      replace q13 := keep_same hh q13
      replace E := ext_same E eS
      replace eS := eS.mono (Y := [n8, n9]) (by simp)
      refine anyH_take (i := 0) rfl (by kernel_rfl) (by kernel_rfl) (by kernel_rfl) (fun _ _ _ h => h) rfl rfl (fun w' hS => R_loadBlk rfl rfl Try.underlying100 rfl (by kernel_rfl) (hS.keep q11_ (by simp; omega))) eS (by simp only [List.set_cons_succ, List.set_cons_zero]; exact rfl) ?_
      refine anyH_take (i := 1) rfl (by kernel_rfl) (by kernel_rfl) (by kernel_rfl) (fun _ _ _ h => h) rfl rfl (fun w' hS => R_loadBlk rfl rfl Try.underlying105 rfl (by rw [matCells_size]; kernel_rfl) (hS.keep q13_ (by simp; omega))) eS (by simp only [List.set_cons_succ, List.set_cons_zero]; exact rfl) ?_
      refine anyH_to (i := 2) rfl (by kernel_rfl) rfl rfl (R_storeRow rfl rfl rfl (by kernel_rfl) (tp_cells_one hone) q8 rfl) fun w11 hw => ?_
      replace eS := ext_cells eS hw (fun _ => by simp)
      replace q4 := keep_cells hw q4 (by omega)
      replace q8 := put_row hw q8 rfl
      replace q9 := keep_cells hw q9 (by omega)
      replace q11 := keep_cells hw q11 (by omega)
      replace q13 := keep_cells hw q13 (by omega)
      replace E := ext_cells E hw (fun h => by first | exact absurd h (by omega) | simp)
      clear hw
      refine ⟨eS, ?_⟩
      refine anyH_to (i := 3) rfl (by kernel_rfl) rfl rfl (R_storeRow rfl rfl rfl (by rw [matCells_size]; kernel_rfl) (by rw [← matList_toArray]; exact all_oneCell_toArray (matList_one _)) q9 (by show Try.zeroCells105.size = _; rw [Try.zeroCells105_size, matCells_size])) fun w12 hw => ?_
      replace eS := ext_cells eS hw (fun _ => by simp)
      replace q4 := keep_cells hw q4 (by omega)
      replace q8 := keep_cells hw q8 (by omega)
      replace q9 := put_row hw q9 (by show Try.zeroCells105.size = _; rw [Try.zeroCells105_size, matCells_size])
      replace q11 := keep_cells hw q11 (by omega)
      replace q13 := keep_cells hw q13 (by omega)
      replace E := ext_cells E hw (fun h => by first | exact absurd h (by omega) | simp)
      clear hw
      refine ⟨eS, ?_⟩
      refine anyH_take (i := 4) rfl (by kernel_rfl) (by kernel_rfl) (by kernel_rfl) (fun _ _ _ h => h) rfl rfl (fun w' hS => R_assign (v := .int .i64 _) rfl rfl) eS (by simp only [List.set_cons_succ, List.set_cons_zero]; exact rfl) ?_
      refine wpAnyH_done (by kernel_rfl) ?_ _
      clear q4_ q8_ q9_ q11_ q13_ hh eS
      go_wp2
      refine bodyPost_ret (res_cct rfl rfl Try.underlying100 rfl (by kernel_rfl) q8 rfl Try.underlying105 rfl (mat_size_info m) q9 rfl) rfl ⟨rfl, E⟩
  · simp only [openV_no h, show solvedM t xs = (fun _ _ => 0) from if_neg h, show solvedE t xs = openE t xs by rw [solvedE, if_pos h]] at HK ⊢
    obtain ⟨ce, hce⟩ : ∃ ce, ce = openE t xs := ⟨_, rfl⟩
    rw [← hce] at h HK ⊢
    clear hce
    have hb : (ce != 0) = true := by simpa using h
    unfold tpV at HK ⊢
    go_enter Try.func90, Try.ntmps90
    go_upto_region 0 with (fail)
    refine wp_region_lit ?_
    refine seq_new rfl rfl (R_box (v := .agg _) rfl rfl) (by simp only [List.set_cons_succ, List.set_cons_zero]; exact rfl) fun w1 hw => ?_
    obtain ⟨n4, hn⟩ : ∃ n, n = w.heap.size := ⟨_, rfl⟩
    rw [← hn]
    have l4 : w.heap.size ≤ n4 := by rw [hn]; exact E.size
    have q4 := new_row hw hn
    replace E := ext_alloc E hw
    clear hw hn
    refine seq_new rfl rfl (R_alloc rfl Try.zeroValue100) (by simp only [List.set_cons_succ, List.set_cons_zero]; exact rfl) fun w2 hw => ?_
    obtain ⟨n8, hn⟩ : ∃ n, n = w1.heap.size := ⟨_, rfl⟩
    rw [← hn]
    have l8 : w.heap.size ≤ n8 := by rw [hn]; exact E.size
    have m8_4 : n4 < n8 := by rw [hn]; exact blk_lt q4
    replace q4 := keep_alloc hw q4
    have q8 := new_row hw hn
    replace E := ext_alloc E hw
    clear hw hn
    refine seq_new rfl rfl (R_alloc rfl Try.zeroValue105) (by simp only [List.set_cons_succ, List.set_cons_zero]; exact rfl) fun w3 hw => ?_
    obtain ⟨n9, hn⟩ : ∃ n, n = w2.heap.size := ⟨_, rfl⟩
    rw [← hn]
    have l9 : w.heap.size ≤ n9 := by rw [hn]; exact E.size
    have m9_4 : n4 < n9 := by rw [hn]; exact blk_lt q4
    have m9_8 : n8 < n9 := by rw [hn]; exact blk_lt q8
    replace q4 := keep_alloc hw q4
    replace q8 := keep_alloc hw q8
    have q9 := new_row hw hn
    replace E := ext_alloc E hw
    clear hw hn
    refine seq_val rfl rfl (R_assign (v := .int .i64 _) rfl rfl) (by simp only [List.set_cons_succ, List.set_cons_zero]; exact rfl) ?_
    refine wpList_nil ?_
    go_upto_region 1 with (fail)
    refine wp_region_lit ?_
    refine seq_val rfl rfl (R_loadBlk rfl rfl Try.underlying28 rfl (by kernel_rfl) q4) (by simp only [List.set_cons_succ, List.set_cons_zero]; exact rfl) ?_
    refine seq_val rfl rfl (R_move (v := .slice _ _ _) rfl rfl) (by simp only [List.set_cons_succ, List.set_cons_zero]; exact rfl) ?_
    refine seq_val rfl rfl (R_move (v := .slice _ _ _) rfl rfl) (by simp only [List.set_cons_succ, List.set_cons_zero]; exact rfl) ?_
    refine seq_val rfl rfl (R_move (v := .slice _ _ _) rfl rfl) (by simp only [List.set_cons_succ, List.set_cons_zero]; exact rfl) ?_
    refine seq_call rfl rfl (by kernel_rfl) (HK.out _ E) fun e w4 hR => ?_
    obtain ⟨rfl, e1⟩ := hR
    refine ⟨_, _, rfl, (by simp only [List.set_cons_succ, List.set_cons_zero]; exact rfl), ?_⟩
    replace q4 := (e1).keep0 q4
    replace q8 := (e1).keep0 q8
    replace q9 := (e1).keep0 q9
    replace E := ext_same E (e1)
    refine seq_val rfl rfl (R_move (v := .tuple _) rfl rfl) (by simp only [List.set_cons_succ, List.set_cons_zero]; exact rfl) ?_
    refine seq_val rfl rfl (R_extract rfl rfl (get0)) (by simp only [List.set_cons_succ, List.set_cons_zero]; exact rfl) ?_
    refine seq_val rfl rfl (R_extract rfl rfl (getS (get0))) (by simp only [List.set_cons_succ, List.set_cons_zero]; exact rfl) ?_
    refine seq_new rfl rfl (R_alloc rfl Try.zeroValue100) (by simp only [List.set_cons_succ, List.set_cons_zero]; exact rfl) fun w5 hw => ?_
    obtain ⟨n11, hn⟩ : ∃ n, n = w4.heap.size := ⟨_, rfl⟩
    rw [← hn]
    have l11 : w.heap.size ≤ n11 := by rw [hn]; exact E.size
    have m11_4 : n4 < n11 := by rw [hn]; exact blk_lt q4
    have m11_8 : n8 < n11 := by rw [hn]; exact blk_lt q8
    have m11_9 : n9 < n11 := by rw [hn]; exact blk_lt q9
    replace q4 := keep_alloc hw q4
    replace q8 := keep_alloc hw q8
    replace q9 := keep_alloc hw q9
    have q11 := new_row hw hn
    replace E := ext_alloc E hw
    clear hw hn
    refine seq_to rfl rfl (R_storeRow rfl rfl rfl (by kernel_rfl) tp_zero_one q11 rfl) fun w6 hw => ?_
    replace q4 := keep_cells hw q4 (by omega)
    replace q8 := keep_cells hw q8 (by omega)
    replace q9 := keep_cells hw q9 (by omega)
    replace q11 := put_row hw q11 rfl
    replace E := ext_cells E hw (fun h => by first | exact absurd h (by omega) | simp)
    clear hw
    refine seq_val rfl rfl (R_assign (v := .int .i64 _) rfl rfl) (by simp only [List.set_cons_succ, List.set_cons_zero]; exact rfl) ?_
    refine wpList_nil ?_
    clear e1
    go_upto_region 3 with (fail)
    refine wp_region_lit ?_
    refine seq_val rfl rfl (R_loadBlk rfl rfl Try.underlying100 rfl (by kernel_rfl) q11) (by simp only [List.set_cons_succ, List.set_cons_zero]; exact rfl) ?_
    refine seq_val rfl rfl (R_build' rfl (cells := matCells fun _ _ => 0) (by kernel_rfl)) (by simp only [List.set_cons_succ, List.set_cons_zero]; exact rfl) ?_
    refine seq_val rfl rfl (R_move (v := .int .i64 _) rfl rfl) (by simp only [List.set_cons_succ, List.set_cons_zero]; exact rfl) ?_
    refine seq_to rfl rfl (R_storeRow rfl rfl rfl (by kernel_rfl) tp_zero_one q8 rfl) fun w7 hw => ?_
    replace q4 := keep_cells hw q4 (by omega)
    replace q8 := put_row hw q8 rfl
    replace q9 := keep_cells hw q9 (by omega)
    replace q11 := keep_cells hw q11 (by omega)
    replace E := ext_cells E hw (fun h => by first | exact absurd h (by omega) | simp)
    clear hw
    refine seq_to rfl rfl (R_storeRow rfl rfl rfl (by rw [matCells_size]; kernel_rfl) (by rw [← matList_toArray]; exact all_oneCell_toArray (matList_one _)) q9 (by show Try.zeroCells105.size = _; rw [Try.zeroCells105_size, matCells_size])) fun w8 hw => ?_
    replace q4 := keep_cells hw q4 (by omega)
    replace q8 := keep_cells hw q8 (by omega)
    replace q9 := put_row hw q9 (by show Try.zeroCells105.size = _; rw [Try.zeroCells105_size, matCells_size])
    replace q11 := keep_cells hw q11 (by omega)
    replace E := ext_cells E hw (fun h => by first | exact absurd h (by omega) | simp)
    clear hw
    refine seq_val rfl rfl (R_assign (v := .int .i64 _) rfl rfl) (by simp only [List.set_cons_succ, List.set_cons_zero]; exact rfl) ?_
    refine wpList_nil ?_
    go_wp2
    refine bodyPost_ret (res_cct rfl rfl Try.underlying100 rfl (by kernel_rfl) q8 rfl Try.underlying105 rfl (mat_size_info _) q9 rfl) rfl ⟨rfl, E⟩
end Go.Proofs.Ytholfdgebdlgjaa
