/- The walk of open: the errors of tapes, singers, autumns and tailors. Conditions: lists of at most 1000. -/
import Derived.Test.YtholfdgebdlgjaaChk
namespace Go.Proofs.Ytholfdgebdlgjaa
open Go.RowKit
set_option linter.unusedVariables false
set_option linter.unusedSimpArgs false
section
variable {P : Program} {fn : Func} {tmps : Array Value} {w : World}
theorem load_block {ty : TypeId} {b : Nat} {cs : Array Value} {T : TypeId} {d : TypeDesc} {fz : Nat × Nat} (hd : P.underlying ty = some d) (ha : d.isRow = true) (hi : (P.info? ty).map (·.size) = some cs.size) (H : w.heap[b]? = some (.cells cs T fz)) : (loadVar ty ⟨b, 0, none⟩).run P w = .ok (.agg cs) w := by
  have hc : w.rangeAt b 0 cs.toList := fun j v hv => by
    rw [Nat.zero_add, cells_of_block H]; simpa using hv
  simpa using run_loadVar_mid (P := P) w b 0 ty cs.toList d hc hd ha (by simpa using hi)
/-- The results: a struct out of its block, and a slot. -/
theorem res_ct {t s : Tmp} {ty : TypeId} {b : Nat} {cs : Array Value} {T : TypeId} {d : TypeDesc} {fz : Nat × Nat} {v : Value} (hr : fn.results = #[.cell t ty, .tmp s]) (ht : tmps.getD t undef = .pointer (some ⟨b, 0, none⟩)) (hd : P.underlying ty = some d) (ha : d.isRow = true) (hi : (P.info? ty).map (·.size) = some cs.size) (H : w.heap[b]? = some (.cells cs T fz)) (hv : tmps.getD s undef = v) :
    (results fn tmps).run P w = .ok (.tuple #[.agg cs, v]) w := by
  have hl := load_block (P := P) hd ha hi H
  have ht' : tmps[t]?.getD undef = .pointer (some ⟨b, 0, none⟩) := by simpa using ht
  have hv' : tmps[s]?.getD undef = v := by simpa using hv
  simp [results, hr, ht', hv', asAddr, hl, Sem.run_bind, Result.andThen]
theorem res_cct {t t2 s : Tmp} {ty ty2 : TypeId} {b b2 : Nat} {cs cs2 : Array Value} {T T2 : TypeId} {d d2 : TypeDesc} {fz fz2 : Nat × Nat} {v : Value} (hr : fn.results = #[.cell t ty, .cell t2 ty2, .tmp s]) (ht : tmps.getD t undef = .pointer (some ⟨b, 0, none⟩)) (hd : P.underlying ty = some d) (ha : d.isRow = true) (hi : (P.info? ty).map (·.size) = some cs.size) (H : w.heap[b]? = some (.cells cs T fz))
    (ht2 : tmps.getD t2 undef = .pointer (some ⟨b2, 0, none⟩)) (hd2 : P.underlying ty2 = some d2) (ha2 : d2.isRow = true) (hi2 : (P.info? ty2).map (·.size) = some cs2.size) (H2 : w.heap[b2]? = some (.cells cs2 T2 fz2)) (hv : tmps.getD s undef = v) :
    (results fn tmps).run P w = .ok (.tuple #[.agg cs, .agg cs2, v]) w := by
  have hl := load_block (P := P) hd ha hi H
  have hl2 := load_block (P := P) hd2 ha2 hi2 H2
  have ht' : tmps[t]?.getD undef = .pointer (some ⟨b, 0, none⟩) := by simpa using ht
  have ht2' : tmps[t2]?.getD undef = .pointer (some ⟨b2, 0, none⟩) := by simpa using ht2
  have hv' : tmps[s]?.getD undef = v := by simpa using hv
  simp [results, hr, ht', ht2', hv', asAddr, hl, hl2, Sem.run_bind, Result.andThen]
end
def intRow (x : Int) : List Value := [.int .i64 x]
def tpCells (t : Tp) (gv rv lv : Value) : Array Value := #[.int .i64 t.S, .int .i64 t.A, .int .i64 t.T, .int .i64 t.bl, .int .i64 t.bm, .int .i64 t.pl, .int .i64 t.pm, .int .i64 t.sl, gv, rv, lv]
def tpZero : Array Value := #[.int .i64 0, .int .i64 0, .int .i64 0, .int .i64 0, .int .i64 0, .int .i64 0, .int .i64 0, .int .i64 0, .slice none 0 0, .slice none 0 0, .slice none 0 0]
def lim (t : Tp) (i : Nat) : Int := if i = 0 then t.S else if i = 1 then t.A else t.T
def askE (t : Tp) (xs : Nat → List Int) (i : Nat) : Int := firstE ((xs i).map fun n => knownE n (lim t i))
/-- The error of tapes, singers, autumns and tailors. -/
def openE (t : Tp) (xs : Nat → List Int) : Int := if checkE t ≠ 0 then checkE t else firstE ((List.range 3).map (askE t xs))
theorem checkE_head {t : Tp} (h : checkE t = 0) : headE t = 0 := by
  unfold checkE at h
  by_cases c : headE t = 0
  · exact c
  · rw [if_pos c] at h; exact h
/-- The tapes that open returns. -/
def openV (t : Tp) (xs : Nat → List Int) (gv rv lv : Value) : Array Value := if openE t xs = 0 then tpCells t gv rv lv else tpZero
theorem openV_ok {t : Tp} {xs : Nat → List Int} (h : openE t xs = 0) (gv rv lv : Value) : openV t xs gv rv lv = tpCells t gv rv lv := if_pos h
theorem openV_no {t : Tp} {xs : Nat → List Int} (h : openE t xs ≠ 0) (gv rv lv : Value) : openV t xs gv rv lv = tpZero := if_neg h
set_option maxRecDepth 100000 in
set_option maxHeartbeats 2000000 in
theorem open_any (t : Tp) (gv rv lv : Value) (xs : Nat → List Int) (va : Nat → Option Addr) (vc : Nat → Nat) (w : World) (ht : IsTp w gv rv lv t) (hl1 : t.gr.length ≤ 1000) (hl2 : t.rd.length ≤ 1000) (hl3 : t.lk.length ≤ 1000)
    (hx : ∀ i, i < 3 → IsRows w (.slice (va i) (xs i).length (vc i)) 1 ((xs i).map intRow)) (hxl : ∀ i, i < 3 → (xs i).length ≤ 1000) :
    Calls Try.prog 79 #[tpV t gv rv lv, .slice (va 0) (xs 0).length (vc 0), .slice (va 1) (xs 1).length (vc 1), .slice (va 2) (xs 2).length (vc 2)] w fun e w' => e = .returned (.tuple #[.agg (openV t xs gv rv lv), .int .i64 (openE t xs)]) ∧ Ext [] w w' := by
  have HK := Lib.hid (check_any t gv rv lv)
  unfold tpV at HK ⊢
  have hone : gv.oneCell' = true ∧ rv.oneCell' = true ∧ lv.oneCell' = true := by
    obtain ⟨_, _, e1⟩ := rows_len ht.gr
    obtain ⟨_, _, e2⟩ := rows_len ht.rd
    obtain ⟨_, _, e3⟩ := rows_len ht.lk
    rw [e1, e2, e3]; exact ⟨rfl, rfl, rfl⟩
  have E : Ext [] w w := Ext.refl _ _
  have Ht := Lib.hid ht; clear ht
  have Hx := Lib.hid hx; clear hx
  have Hxl := Lib.hid hxl; clear hxl
  go_enter Try.func79, Try.ntmps79
  go_upto_region 0 with (fail)
  refine wp_region_lit ?_
  refine seq_new rfl rfl (R_box (v := .agg _) rfl rfl) (by simp only [List.set_cons_succ, List.set_cons_zero]; exact rfl) fun w1 hw => ?_
  obtain ⟨n4, hn⟩ : ∃ n, n = w.heap.size := ⟨_, rfl⟩
  rw [← hn]
  have l4 : w.heap.size ≤ n4 := by rw [hn]; exact E.size
  have q4 := new_row hw hn
  replace E := ext_alloc E hw
  clear hw hn
  refine seq_new rfl rfl (R_alloc rfl Try.zeroValue100) (by simp only [List.set_cons_succ, List.set_cons_zero]; exact rfl) fun w2 hw => ?_
  obtain ⟨n8, hn⟩ : ∃ n, n = w1.heap.size := ⟨_, rfl⟩
  rw [← hn]
  have l8 : w.heap.size ≤ n8 := by rw [hn]; exact E.size
  have m8_4 : n4 < n8 := by rw [hn]; exact blk_lt q4
  replace q4 := keep_alloc hw q4
  have q8 := new_row hw hn
  replace E := ext_alloc E hw
  clear hw hn
  refine seq_val rfl rfl (R_assign (v := .int .i64 _) rfl rfl) (by simp only [List.set_cons_succ, List.set_cons_zero]; exact rfl) ?_
  refine wpList_nil ?_
  go_upto_region 1 with (fail)
  refine wp_region_lit ?_
  refine seq_val rfl rfl (R_loadBlk rfl rfl Try.underlying28 rfl (by kernel_rfl) q4) (by simp only [List.set_cons_succ, List.set_cons_zero]; exact rfl) ?_
  refine seq_call rfl rfl (by kernel_rfl) (HK.out _ (Ht.out.ext E (by simp)) hl1 hl2 hl3) fun e w3 hR => ?_
  obtain ⟨rfl, e1⟩ := hR
  refine ⟨_, _, rfl, (by simp only [List.set_cons_succ, List.set_cons_zero]; exact rfl), ?_⟩
  replace q4 := (e1).keep0 q4
  replace q8 := (e1).keep0 q8
  replace E := ext_same E (e1)
  refine seq_val rfl rfl (R_assign (v := .int .i64 _) rfl rfl) (by simp only [List.set_cons_succ, List.set_cons_zero]; exact rfl) ?_
  refine wpList_nil ?_
  clear e1
  obtain ⟨ce, hce⟩ : ∃ ce, ce = checkE t := ⟨_, rfl⟩
  have Hce := Lib.hid hce
  rw [← hce]
  clear hce HK
  by_cases c1 : ce = 0
  · subst c1
    have hhd := headE_zero (checkE_head Hce.out.symm)
    have HO : Hid (openE t xs = firstE ((List.range 3).map (askE t xs))) := by show _ = _; rw [openE, if_neg (by rw [← Hce.out]; decide)]
    go_upto_region 4 with (fail)
    refine wp_region_lit ?_
    refine seq_val rfl rfl (R_move (v := .slice _ _ _) rfl rfl) (by simp only [List.set_cons_succ, List.set_cons_zero]; exact rfl) ?_
    refine seq_val rfl rfl (R_move (v := .slice _ _ _) rfl rfl) (by simp only [List.set_cons_succ, List.set_cons_zero]; exact rfl) ?_
    refine seq_val rfl rfl (R_move (v := .slice _ _ _) rfl rfl) (by simp only [List.set_cons_succ, List.set_cons_zero]; exact rfl) ?_
    refine seq_new rfl rfl (R_buildSlice rfl Try.underlying50 (size := 1) (by kernel_rfl) (by decide) (by decide) Try.zeroValue29 (cells := #[.slice (va 0) (xs 0).length (vc 0), .slice (va 1) (xs 1).length (vc 1), .slice (va 2) (xs 2).length (vc 2)]) (by kernel_rfl)) (by simp only [List.set_cons_succ, List.set_cons_zero]; exact rfl) fun w4 hw => ?_
    obtain ⟨n25, hn⟩ : ∃ n, n = w3.heap.size := ⟨_, rfl⟩
    rw [← hn]
    have l25 : w.heap.size ≤ n25 := by rw [hn]; exact E.size
    have m25_4 : n4 < n25 := by rw [hn]; exact blk_lt q4
    have m25_8 : n8 < n25 := by rw [hn]; exact blk_lt q8
    replace q4 := keep_alloc hw q4
    replace q8 := keep_alloc hw q8
    have q25 := new_block hw hn
    replace E := ext_alloc E hw
    clear hw hn
    refine seq_val rfl rfl (R_len rfl rfl rfl Try.underlying50) (by simp only [List.set_cons_succ, List.set_cons_zero]; exact rfl) ?_
    refine seq_val rfl rfl (R_move (v := .int .i64 _) rfl rfl) (by simp only [List.set_cons_succ, List.set_cons_zero]; exact rfl) ?_
    refine wpList_nil ?_
    go_wp2_with fail
    go_loopw [27] (fun iv wr => ∃ i : Nat, i ≤ 3 ∧ iv = .int .i64 i ∧ wr.heap[n4]? = some (.cells #[.int .i64 t.S, .int .i64 t.A, .int .i64 t.T, .int .i64 t.bl, .int .i64 t.bm, .int .i64 t.pl, .int .i64 t.pm, .int .i64 t.sl, gv, rv, lv] 28 (0, 0)) ∧ wr.heap[n8]? = some (.cells tpZero 100 (0, 0)) ∧ wr.heap[n25]? = some (.cells #[.slice (va 0) (xs 0).length (vc 0), .slice (va 1) (xs 1).length (vc 1), .slice (va 2) (xs 2).length (vc 2)] 29 (0, 0)) ∧ Ext [] w wr ∧ firstE (((List.range 3).map (askE t xs)).drop i) = firstE ((List.range 3).map (askE t xs))) (fun iv _ => 3 - (intOf iv).toNat)
    case atStart => exact ⟨0, Nat.zero_le _, rfl, q4, q8, q25, E, rfl⟩
    case round =>
      clear q4 q8 q25 E
      obtain ⟨i, hi, rfl, q4, q8, q25, E, hf⟩ := hrel
      have HF := Lib.hid hf; clear hf
      by_cases hlt : i < 3
      · have hS : Hid (wr.cell? ⟨n25, 0 + (i : Int).toNat * 1, none⟩ = some (.slice (va i) (xs i).length (vc i))) := by
          show _ = _
          rw [show 0 + (i : Int).toNat * 1 = i by omega, cells_of_block q25]
          rcases i with _ | _ | _ | i <;> first | rfl | omega
        go_upto_region 6 with (fail)
        refine wp_region_lit ?_
        refine seq_val rfl rfl (R_move (v := .int .i64 _) rfl rfl) (by simp only [List.set_cons_succ, List.set_cons_zero]; exact rfl) ?_
        refine seq_val rfl rfl (R_ixSlice (sz := 1) rfl rfl rfl Try.underlying50 (by kernel_rfl) (by omega) (by omega)) (by simp only [List.set_cons_succ, List.set_cons_zero]; exact rfl) ?_
        refine seq_val rfl rfl (R_load (v := .slice (va i) (xs i).length (vc i)) rfl rfl Try.underlying29 rfl hS.out) (by simp only [List.set_cons_succ, List.set_cons_zero]; exact rfl) ?_
        refine seq_val rfl rfl (R_assign (v := .int .i64 _) rfl rfl) (by simp only [List.set_cons_succ, List.set_cons_zero]; exact rfl) ?_
        refine seq_val rfl rfl (R_assign (v := .slice _ _ _) rfl rfl) (by simp only [List.set_cons_succ, List.set_cons_zero]; exact rfl) ?_
        refine wpList_nil ?_
        clear hS
        go_wp2_with fail
        have H4 := Lib.hid q4
        have H8 := Lib.hid q8
        have H25 := Lib.hid q25
        have EE := Lib.hid E
        obtain ⟨wo, hwo⟩ : ∃ wo : World, wo = wr := ⟨_, rfl⟩
        have hxl := Hxl.out i hlt
        go_loopw [34] (fun kv wr => ∃ k : Nat, k ≤ (xs i).length ∧ kv = .int .i64 k ∧ wr.heap[n4]? = some (.cells #[.int .i64 t.S, .int .i64 t.A, .int .i64 t.T, .int .i64 t.bl, .int .i64 t.bm, .int .i64 t.pl, .int .i64 t.pm, .int .i64 t.sl, gv, rv, lv] 28 (0, 0)) ∧ wr.heap[n8]? = some (.cells tpZero 100 (0, 0)) ∧ wr.heap[n25]? = some (.cells #[.slice (va 0) (xs 0).length (vc 0), .slice (va 1) (xs 1).length (vc 1), .slice (va 2) (xs 2).length (vc 2)] 29 (0, 0)) ∧ Ext [] w wr ∧ firstE (((xs i).map fun n => knownE n (lim t i)).drop k) = askE t xs i) (fun kv _ => (xs i).length - (intOf kv).toNat)
        case atStart => exact ⟨0, Nat.zero_le _, rfl, q4, q8, q25, E, rfl⟩
        case round =>
          clear q4 q8 q25 E hwo
          obtain ⟨k, hk, rfl, q4, q8, q25, E, hf⟩ := hrel
          have HF2 := Lib.hid hf; clear hf
          by_cases hltk : (k : Int) < ((xs i).length : Int)
          · go_upto_region 9 with (fail)
            obtain ⟨rb, roff, hra, hrr⟩ := rows_in 0 (Hx.out i hlt) E (i := k) (by omega)
            have hc : Hid (wr.cell? ⟨rb, roff + (k : Int).toNat * 1, none⟩ = some (.int .i64 ((xs i).getD k 0))) := by
              show _ = _
              have := hrr 0 (.int .i64 ((xs i).getD k 0)) rfl
              simpa using this
            clear hrr
            refine wp_region_lit ?_
            refine seq_val rfl rfl (R_ixSlice (sz := 1) rfl (hra (xs i).length (vc i)) rfl Try.underlying29 (by kernel_rfl) (by omega) (by omega)) (by simp only [List.set_cons_succ, List.set_cons_zero]; exact rfl) ?_
            refine seq_val rfl rfl (R_load (v := .int .i64 ((xs i).getD k 0)) rfl rfl Try.underlying3 rfl hc.out) (by simp only [List.set_cons_succ, List.set_cons_zero]; exact rfl) ?_
            refine seq_val rfl rfl (R_assign (v := .int .i64 _) rfl rfl) (by simp only [List.set_cons_succ, List.set_cons_zero]; exact rfl) ?_
            refine wpList_nil ?_
            clear hc
            have hlm : Hid (#[Value.int .i64 t.S, Value.int .i64 t.A, Value.int .i64 t.T][(i : Int).toNat]? = some (.int .i64 (lim t i))) := by
              show _ = _
              rw [Int.toNat_natCast]
              rcases i with _ | _ | _ | i <;> first | rfl | omega
            have hlb : -1000000 ≤ lim t i ∧ lim t i ≤ 1000000 := by unfold lim; split <;> (try split) <;> omega
            go_upto_region 10 with (fail)
            refine wp_region_lit ?_
            refine seq_val rfl rfl (R_move (v := .int .i64 _) rfl rfl) (by simp only [List.set_cons_succ, List.set_cons_zero]; exact rfl) ?_
            refine seq_val rfl rfl (R_field rfl rfl Try.underlying28 rfl (n := 0) (sz := 1) rfl (by kernel_rfl) (by decide)) (by simp only [List.set_cons_succ, List.set_cons_zero]; exact rfl) ?_
            refine seq_val rfl rfl (R_load rfl rfl Try.underlying3 rfl ((cells_of_block q4 0).trans (get0))) (by simp only [List.set_cons_succ, List.set_cons_zero]; exact rfl) ?_
            refine seq_val rfl rfl (R_field rfl rfl Try.underlying28 rfl (n := 1) (sz := 1) rfl (by kernel_rfl) (by decide)) (by simp only [List.set_cons_succ, List.set_cons_zero]; exact rfl) ?_
            refine seq_val rfl rfl (R_load rfl rfl Try.underlying3 rfl ((cells_of_block q4 1).trans (getS (get0)))) (by simp only [List.set_cons_succ, List.set_cons_zero]; exact rfl) ?_
            refine seq_val rfl rfl (R_field rfl rfl Try.underlying28 rfl (n := 2) (sz := 1) rfl (by kernel_rfl) (by decide)) (by simp only [List.set_cons_succ, List.set_cons_zero]; exact rfl) ?_
            refine seq_val rfl rfl (R_load rfl rfl Try.underlying3 rfl ((cells_of_block q4 2).trans (getS (getS (get0))))) (by simp only [List.set_cons_succ, List.set_cons_zero]; exact rfl) ?_
            refine seq_val rfl rfl (R_build' rfl (cells := #[.int .i64 t.S, .int .i64 t.A, .int .i64 t.T]) (by kernel_rfl)) (by simp only [List.set_cons_succ, List.set_cons_zero]; exact rfl) ?_
            refine seq_val rfl rfl (R_move (v := .int .i64 _) rfl rfl) (by simp only [List.set_cons_succ, List.set_cons_zero]; exact rfl) ?_
            refine seq_val rfl rfl (R_index rfl rfl rfl Try.underlying162 (by kernel_rfl) Try.underlying3 rfl (by omega) (by omega) hlm.out) (by simp only [List.set_cons_succ, List.set_cons_zero]; exact rfl) ?_
            refine seq_call rfl rfl (by kernel_rfl) (known_any ((xs i).getD k 0) (lim t i) _ hlb.1 hlb.2) fun e w' hR => ?_
            obtain ⟨rfl, rfl⟩ := hR
            refine ⟨_, _, rfl, (by simp only [List.set_cons_succ, List.set_cons_zero]; exact rfl), ?_⟩
            refine seq_val rfl rfl (R_assign (v := .int .i64 _) rfl rfl) (by simp only [List.set_cons_succ, List.set_cons_zero]; exact rfl) ?_
            refine wpList_nil ?_
            clear hlm
            obtain ⟨v, hv⟩ : ∃ v, v = knownE ((xs i).getD k 0) (lim t i) := ⟨_, rfl⟩
            rw [← hv]
            by_cases h0 : v = 0
            · subst h0
              have H1 := Lib.hid ((first_step (f := fun n => knownE n (lim t i)) 0 (by omega) hv.symm).trans HF2.out)
              clear hv
              go_wp2
              go_roundw
              case rel => exact ⟨k + 1, by omega, by go_num, q4, q8, q25, E, H1.out⟩
              case measure => simp [intOf]; omega
            · have hh := first_hit (f := fun n => knownE n (lim t i)) (xs := xs i) 0 (i := k) (by omega) (by rw [← hv]; exact h0)
              have ha : askE t xs i = v := by rw [← HF2.out, hh, ← hv]
              have H1 : Hid (openE t xs = v) := by
                show _ = _
                rw [HO.out, ← HF.out, first_hit (f := askE t xs) (xs := List.range 3) 0 (i := i) (by simpa using hlt) (by simp [List.getD_eq_getElem?_getD, hlt, ha, h0])]
                simp [List.getD_eq_getElem?_getD, hlt, ha]
              clear hv hh
              have hb : (v != 0) = true := by simpa using h0
              go_upto_region 12 with (fail)
              refine wp_region_lit ?_
              refine seq_val rfl rfl (R_build' rfl (cells := tpZero) (by kernel_rfl)) (by simp only [List.set_cons_succ, List.set_cons_zero]; exact rfl) ?_
              refine seq_val rfl rfl (R_move (v := .int .i64 _) rfl rfl) (by simp only [List.set_cons_succ, List.set_cons_zero]; exact rfl) ?_
              refine seq_to rfl rfl (R_storeRow rfl rfl rfl (by kernel_rfl) (by simp [tpZero, Value.oneCell']) q8 rfl) fun w5 hw => ?_
              replace q4 := keep_cells hw q4 (by omega)
              replace q8 := put_row hw q8 rfl
              replace q25 := keep_cells hw q25 (by omega)
              replace E := ext_cells E hw (fun h => by first | exact absurd h (by omega) | simp)
              clear hw
              refine seq_val rfl rfl (R_assign (v := .int .i64 _) rfl rfl) (by simp only [List.set_cons_succ, List.set_cons_zero]; exact rfl) ?_
              refine wpList_nil ?_
              go_wp2
              refine bodyPost_ret (res_ct rfl rfl Try.underlying100 rfl (by kernel_rfl) q8 rfl) rfl ⟨?_, E⟩
              rw [openV_no (by rw [H1.out]; exact h0), H1.out]
              rfl
          · have ha : askE t xs i = 0 := first_end (f := fun n => knownE n (lim t i)) (by omega) HF2.out
            have H1 : Hid (firstE (((List.range 3).map (askE t xs)).drop (i + 1)) = firstE ((List.range 3).map (askE t xs))) := by
              refine (first_step (f := askE t xs) (xs := List.range 3) 0 (by simpa using hlt) ?_).trans HF.out
              simpa [List.getD_eq_getElem?_getD, hlt] using ha
            go_wp2
            go_roundw
            case rel => exact ⟨i + 1, by omega, by go_num, q4, q8, q25, E, H1.out⟩
            case measure => simp [intOf]; omega
      · skip
        have H1 : Hid (openE t xs = 0) := by show _ = _; rw [HO.out]; exact first_end (f := askE t xs) (by simp; omega) HF.out
        go_upto_region 15 with (fail)
        refine wp_region_lit ?_
        refine seq_val rfl rfl (R_loadBlk rfl rfl Try.underlying28 rfl (by kernel_rfl) q4) (by simp only [List.set_cons_succ, List.set_cons_zero]; exact rfl) ?_
        refine seq_val rfl rfl (R_build' rfl (cells := #[.int .i64 t.S, .int .i64 t.A, .int .i64 t.T, .int .i64 t.bl, .int .i64 t.bm, .int .i64 t.pl, .int .i64 t.pm, .int .i64 t.sl, gv, rv, lv]) (by kernel_rfl)) (by simp only [List.set_cons_succ, List.set_cons_zero]; exact rfl) ?_
        refine seq_to rfl rfl (R_storeRow rfl rfl rfl (by kernel_rfl) (by simp [hone.1, hone.2.1, hone.2.2, show ∀ k n, (Value.int k n).oneCell' = true from fun _ _ => rfl]) q8 rfl) fun w5 hw => ?_
        replace q4 := keep_cells hw q4 (by omega)
        replace q8 := put_row hw q8 rfl
        replace q25 := keep_cells hw q25 (by omega)
        replace E := ext_cells E hw (fun h => by first | exact absurd h (by omega) | simp)
        clear hw
        refine seq_val rfl rfl (R_assign (v := .int .i64 _) rfl rfl) (by simp only [List.set_cons_succ, List.set_cons_zero]; exact rfl) ?_
        refine wpList_nil ?_
        go_wp2
        refine bodyPost_ret (res_ct rfl rfl Try.underlying100 rfl (by kernel_rfl) q8 rfl) rfl ⟨?_, E⟩
        rw [openV_ok H1.out, H1.out]
        rfl
  · have HO : Hid (openE t xs = ce) := by show _ = _; rw [openE, if_pos (by rw [← Hce.out]; exact c1), ← Hce.out]
    have hb : (ce != 0) = true := by simpa using c1
    go_upto_region 3 with (fail)
    refine wp_region_lit ?_
    refine seq_val rfl rfl (R_build' rfl (cells := tpZero) (by kernel_rfl)) (by simp only [List.set_cons_succ, List.set_cons_zero]; exact rfl) ?_
    refine seq_val rfl rfl (R_move (v := .int .i64 _) rfl rfl) (by simp only [List.set_cons_succ, List.set_cons_zero]; exact rfl) ?_
    refine seq_to rfl rfl (R_storeRow rfl rfl rfl (by kernel_rfl) (by simp [tpZero, Value.oneCell']) q8 rfl) fun w4 hw => ?_
    replace q4 := keep_cells hw q4 (by omega)
    replace q8 := put_row hw q8 rfl
    replace E := ext_cells E hw (fun h => by first | exact absurd h (by omega) | simp)
    clear hw
    refine seq_val rfl rfl (R_assign (v := .int .i64 _) rfl rfl) (by simp only [List.set_cons_succ, List.set_cons_zero]; exact rfl) ?_
    refine wpList_nil ?_
    go_wp2
    refine bodyPost_ret (res_ct rfl rfl Try.underlying100 rfl (by kernel_rfl) q8 rfl) rfl ⟨?_, E⟩
    rw [openV_no (by rw [HO.out]; exact c1), HO.out]
    rfl
end Go.Proofs.Ytholfdgebdlgjaa
