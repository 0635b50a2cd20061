/- The law DyeCorrect: with what Correct adds the bath matches; nothing less does. No conditions. -/
import Derived.Test.YtdjeecgddbjbeaaDcl
namespace Go.Proofs.Ytdjeecgddbjbeaa
open Go.RowKit
set_option linter.unusedVariables false
set_option linter.unusedSimpArgs false
def addK (t m : List Int) (k n : Nat) : List Int := (List.range n).map fun j => if j < k then val t j + val m j else val t j
theorem addK_len (t m : List Int) (k n : Nat) : (addK t m k n).length = n := by simp [addK]
theorem addK_zero {t m : List Int} {n : Nat} (h : t.length = n) : addK t m 0 n = t := by
  refine List.ext_getElem (by simp [addK, h]) fun j h1 h2 => ?_
  simp [addK, val, h2]
theorem addK_end (t m : List Int) (n : Nat) : addK t m n n = addL t m n := by
  refine List.map_congr_left fun j hj => ?_
  rw [if_pos (List.mem_range.1 hj)]
theorem addK_get {t m : List Int} {k n : Nat} (h : k < n) : (addK t m k n).getD k 0 = val t k := by simp [addK, h]
theorem addK_set {t m : List Int} {k n : Nat} (h : k < n) : (addK t m k n).set k (val t k + val m k) = addK t m (k + 1) n := by
  refine List.ext_getElem (by simp [addK]) fun j h1 h2 => ?_
  rw [List.getElem_set]
  by_cases e : k = j
  · subst e; simp [addK]
  · simp only [addK, List.getElem_map, List.getElem_range, if_neg e]
    by_cases h3 : j < k
    · rw [if_pos h3, if_pos (by omega)]
    · rw [if_neg h3, if_neg (by omega)]
theorem addL_bd {t m : List Int} {n : Nat} (ht : ∀ q ∈ t, 0 ≤ q) (hm : ∀ q ∈ m, 0 ≤ q) (hs : t.sum + m.sum ≤ 6) : ∀ q ∈ addL t m n, 0 ≤ q ∧ q ≤ 6 := by
  have key : ∀ (l : List Int), (∀ q ∈ l, 0 ≤ q) → ∀ k, 0 ≤ val l k ∧ val l k ≤ l.sum := fun l hl k => by
    by_cases hk : k < l.length
    · exact ⟨hl _ (getD_mem 0 hk), le_sum hl _ (getD_mem 0 hk)⟩
    · rw [val_zero (by omega)]; exact ⟨Int.le_refl _, nonneg_sum hl⟩
  intro q hq
  obtain ⟨j, -, rfl⟩ := List.mem_map.1 hq
  have h1 := key t ht j
  have h2 := key m hm j
  omega
theorem mix_mem {nd P : Nat} {m : List Int} (h : m ∈ mixL nd P) : m.length = nd ∧ (∀ q ∈ m, 0 ≤ q ∧ q ≤ P) ∧ m.sum ≤ P := by
  obtain ⟨h1, h2⟩ := List.mem_filter.1 h
  obtain ⟨h3, h4⟩ := (mem_tupL _ _ _).1 h1
  exact ⟨h3, fun q hq => by have := h4 q hq; omega, of_decide_eq_true h2⟩
set_option maxRecDepth 100000 in
set_option maxHeartbeats 4000000 in
theorem dyeCorrect_walk (a0 : Option Addr) (len0 cap0 : Nat) (z0 : List Int) (w : World) (h : IsRow .i64 w a0 len0 cap0 z0) : Calls Try.prog 5 #[.slice a0 len0 cap0] w fun e w' => e = .returned (.bool true) ∧ Ext [] w w' := by
  have E : Ext [] w w := Ext.refl _ _
  refine calls_has 132 Try.func5 rfl Try.ntmps5 (Nat.le_of_ble_eq_true rfl) ?_
  intro fa F
  refine wp_seq_k fun K1 hK1 => ?_
  refine wp_region_lit ?_
  refine F.vl (R_assign rfl (ev_c fa _)) ?_; clear F fa; intro fa F
  refine wpList_nil ?_
  refine hK1 _ _ ?_
  clear hK1
  refine wp_seq_k fun K2 hK2 => ?_
  refine wp_region_lit ?_
  refine F.mv ?_; clear F fa; intro fa F
  refine sq_call F rfl (by decide) rfl (R_callV rfl rfl Try.call13 (mpS (F.at rfl) mp0)) (newLots_any w a0 len0 cap0 z0 h) fun e w1 hR => ?_
  obtain ⟨b, rfl, hbw0, hbw1, HL, e9⟩ := hR
  refine ⟨_, rfl, ?_⟩; clear F fa; intro fa F
  replace E := ext_same E (e9)
  clear e9
  refine F.as ?_; clear F fa; intro fa F
  refine wpList_nil ?_
  refine hK2 _ _ ?_
  clear hK2
  refine wp_seq_k fun K3 hK3 => ?_
  refine wp_region_lit ?_
  refine F.mv ?_; clear F fa; intro fa F
  refine sq_call F rfl (by decide) rfl (R_callV rfl rfl Try.call33 (mpS (F.at rfl) (mpS (ev_c fa _) mp0))) (vatOf_any 3 (by decide) (by decide) w _ b _ _ HL (by omega)) fun e w2 hR => ?_
  obtain ⟨x, rfl, hv, hd3, hxb, HL, e9⟩ := hR
  refine ⟨_, rfl, ?_⟩; clear F fa; intro fa F
  replace E := E.trans' e9 (fun i hi hl => by simp only [List.mem_cons, List.not_mem_nil, or_false] at hi ⊢; omega)
  have HV := Lib.hid hv
  have HXB := Lib.hid hxb
  obtain ⟨wV, hwV⟩ : ∃ wV, wV = w2 := ⟨_, rfl⟩
  have EV : Ext [b] wV w2 := by rw [hwV]; exact Ext.refl _ _
  rw [← hwV] at HXB
  clear hv hxb
  refine sq_new F rfl (by decide) rfl (R_alloc rfl Try.zeroValue24) ?_; clear F fa; intro fa w3 F hw
  obtain ⟨n4, hn⟩ : ∃ n, n = w2.heap.size := ⟨_, rfl⟩
  rw [← hn] at F
  have s4 : w2.heap.size ≤ n4 := Nat.le_of_eq hn.symm
  have l4_E : w.heap.size ≤ n4 := by rw [hn]; exact E.size
  have l4_EV : wV.heap.size ≤ n4 := by rw [hn]; exact EV.size
  have b4_HL := Nat.lt_of_lt_of_eq (lots_lt HL) hn.symm
  replace E := ext_alloc E hw
  replace EV := ext_alloc EV hw
  replace HL := lots_alloc hw HL
  have q4 := new_row hw hn
  clear hw hn
  refine sq_to rfl rfl (R_storeRow rfl (F.at rfl) (F.at rfl) (by kernel_rfl) (by first | (simp [Value.oneCell']; done) | (simp [Value.oneCell', id]; done)) q4 rfl) ?_; intro w4 hw
  replace q4 := put_row hw q4 rfl
  replace E := ext_cells E hw (fun h => by first | exact absurd h (by omega) | simp)
  replace EV := ext_cells EV hw (fun h => by first | exact absurd h (by omega) | simp)
  replace HL := lots_cells hw HL (by omega) (by omega)
  clear hw
  refine wpList_nil ?_
  refine hK3 _ _ ?_
  clear hK3
  refine wp_seq_k fun K4 hK4 => ?_
  refine region_x (Ext [b] w4) none follows fun w5 hh eh => ?_
  have q4_ := q4
  replace q4 := keep_same hh q4
  have E_ := E
  have zEw5 := E.size
  replace E := ext_same E eh
  have EV_ := EV
  have zEVw5 := EV.size
  replace EV := ext_same EV eh
  have zbw5 := lots_lt HL
  replace HL := lots_ext eh HL
  have eT := eh.mono (Y := [b]) (by simp)
  clear hh eh
  refine F.x (i := 0) rfl (fun w' => R_move rfl (F.at rfl)) (fun _ => eT) ?_; clear F fa; intro fa F
  refine F.xr (i := 1) rfl (fun w' hS => R_loadBlk rfl (F.at rfl) Try.underlying24 rfl (by kernel_rfl) (hS.keep q4_ (by simp; omega))) (fun _ => eT) ?_; clear F fa; intro fa F
  refine F.x (i := 3) rfl (fun w' => R_move rfl (F.at rfl)) (fun _ => eT) ?_; clear F fa; intro fa F
  refine F.xr (i := 4) rfl (fun w' hS => R_loadBlk rfl (F.at rfl) Try.underlying24 rfl (by kernel_rfl) (hS.keep q4_ (by simp; omega))) (fun _ => eT) ?_; clear F fa; intro fa F
  refine F.x (i := 6) rfl (fun w' => R_move rfl (F.at rfl)) (fun _ => eT) ?_; clear F fa; intro fa F
  refine F.xr (i := 7) rfl (fun w' hS => R_loadBlk rfl (F.at rfl) Try.underlying24 rfl (by kernel_rfl) (hS.keep q4_ (by simp; omega))) (fun _ => eT) ?_; clear F fa; intro fa F
  obtain ⟨B1, hB1⟩ : ∃ B1, B1 = w5.heap.size := ⟨_, rfl⟩
  have hb1 : b < B1 := by rw [hB1]; exact lots_lt HL
  refine ax_only (i := 2) (by kernel_rfl) (op_call F rfl rfl (by decide) rfl (R_callV rfl rfl Try.call15 (mpS (F.at rfl) (mpS (F.at rfl) mp0))) (recipeOf_any x HV.out w _ b _ _ HL (by omega)) fun e w6 hR => ?_)
  obtain ⟨ra, r, rfl, hr, ro, HL, e9⟩ := hR
  refine ⟨_, rfl, ?_⟩; clear F fa; intro fa F
  replace q4 := (e9).keep q4 (by simp; omega)
  replace E := E.trans' e9 (fun i hi hl => by simp only [List.mem_cons, List.not_mem_nil, or_false] at hi ⊢; omega)
  replace EV := EV.trans' e9 (fun i hi hl => by simp only [List.mem_cons, List.not_mem_nil, or_false] at hi ⊢; omega)
  replace eT := eT.trans' e9 (fun i hi hl => by simp only [List.mem_cons, List.not_mem_nil, or_false] at hi ⊢; omega)
  refine ⟨fun _ => eT, ?_⟩
  rw [← hB1] at ro
  obtain ⟨B2, hB2⟩ : ∃ B2, B2 = w6.heap.size := ⟨_, rfl⟩
  have hb2 : b < B2 := by rw [hB2]; exact lots_lt HL
  refine ax_only (i := 5) (by kernel_rfl) (op_call F rfl rfl (by decide) rfl (R_callV rfl rfl Try.call16 (mpS (F.at rfl) (mpS (F.at rfl) mp0))) (sampleOf_any x HV.out w _ b _ _ HL (by omega) (HXB.out.ext EV)) fun e w7 hR => ?_)
  obtain ⟨sa, sc, s, rfl, hs, so, HL, e9⟩ := hR
  refine ⟨_, rfl, ?_⟩; clear F fa; intro fa F
  replace ro := owns_ext ro (e9) (by simp; omega)
  replace q4 := (e9).keep q4 (by simp; omega)
  replace E := E.trans' e9 (fun i hi hl => by simp only [List.mem_cons, List.not_mem_nil, or_false] at hi ⊢; omega)
  replace EV := EV.trans' e9 (fun i hi hl => by simp only [List.mem_cons, List.not_mem_nil, or_false] at hi ⊢; omega)
  replace eT := eT.trans' e9 (fun i hi hl => by simp only [List.mem_cons, List.not_mem_nil, or_false] at hi ⊢; omega)
  refine ⟨fun _ => eT, ?_⟩
  rw [← hB2] at so
  obtain ⟨B3, hB3⟩ : ∃ B3, B3 = w7.heap.size := ⟨_, rfl⟩
  have hb3 : b < B3 := by rw [hB3]; exact lots_lt HL
  refine ax_only (i := 8) (by kernel_rfl) (op_call F rfl rfl (by decide) rfl (R_callV rfl rfl Try.call17 (mpS (F.at rfl) (mpS (F.at rfl) mp0))) (lampsOf_any x HV.out w _ b _ _ HL (by omega)) fun e w8 hR => ?_)
  obtain ⟨la, lc, ls, rfl, hl, hl3, lo, HL, e9⟩ := hR
  refine ⟨_, rfl, ?_⟩; clear F fa; intro fa F
  replace ro := owns_ext ro (e9) (by simp; omega)
  replace so := owns_ext so (e9) (by simp; omega)
  replace q4 := (e9).keep q4 (by simp; omega)
  replace E := E.trans' e9 (fun i hi hl => by simp only [List.mem_cons, List.not_mem_nil, or_false] at hi ⊢; omega)
  replace EV := EV.trans' e9 (fun i hi hl => by simp only [List.mem_cons, List.not_mem_nil, or_false] at hi ⊢; omega)
  replace eT := eT.trans' e9 (fun i hi hl => by simp only [List.mem_cons, List.not_mem_nil, or_false] at hi ⊢; omega)
  refine ⟨fun _ => eT, ?_⟩
  rw [← hB3] at lo
  refine F.x (i := 9) rfl (fun w' => R_assign rfl (F.at rfl)) (fun _ => eT) ?_; clear F fa; intro fa F
  refine F.x (i := 10) rfl (fun w' => R_assign rfl (F.at rfl)) (fun _ => eT) ?_; clear F fa; intro fa F
  refine F.x (i := 11) rfl (fun w' => R_assign rfl (F.at rfl)) (fun _ => eT) ?_; clear F fa; intro fa F
  refine ax_done (by kernel_rfl) ?_ _
  clear eT q4_ E_ EV_
  have hxd := HXB.out _ EV
  have HR := Lib.hid (rows_of_ivs ro hr.len.symm)
  have HSR := Lib.hid (rows_of_ivs so rfl)
  have HLR := Lib.hid (rows_of_ivs lo rfl)
  have HXD := Lib.hid hxd
  obtain ⟨wD, hwD⟩ : ∃ wD, wD = w8 := ⟨_, rfl⟩
  have ED : Ext [] wD w8 := by rw [hwD]; exact Ext.refl _ _
  rw [← hwD] at HXD HR HSR HLR
  clear hxd ro so lo HL EV
  have HRO := Lib.hid hr
  have HSO := Lib.hid hs
  have HLO := Lib.hid hl
  have hrl := hr.len
  have hr1 := hr.s1
  have hr6 := hr.s6
  clear hr hs hl
  refine hK4 _ _ ?_
  clear hK4
  refine wp_seq_k fun K5 hK5 => ?_
  refine wp_region_lit ?_
  refine F.vl (R_loadBlk rfl (F.at rfl) Try.underlying24 rfl (by kernel_rfl) q4) ?_; clear F fa; intro fa F
  refine F.mv ?_; clear F fa; intro fa F
  refine F.mv ?_; clear F fa; intro fa F
  refine F.mv ?_; clear F fa; intro fa F
  obtain ⟨g, hg⟩ : ∃ g, g = corR x r (val s) ls := ⟨_, rfl⟩
  have hco := xCorrect_ok x HV.out r HRO.out s HSO.out ls HLO.out (by omega) ra sa la x.D.length sc lc w8 (HXD.out.ext ED) (by rw [hrl]; exact HR.out.ext ED (by simp)) (HSR.out.ext ED (by simp)) (HLR.out.ext ED (by simp))
  rw [← hg, hrl] at hco
  refine sq_call F rfl (by decide) rfl (R_callV rfl rfl Try.call20 (mpS (F.at rfl) (mpS (F.at rfl) (mpS (F.at rfl) (mpS (F.at rfl) mp0))))) (hco) fun e w9 hR => ?_
  obtain ⟨ga, gc, rfl, og, e9⟩ := hR
  refine ⟨_, rfl, ?_⟩; clear F fa; intro fa F
  replace q4 := (e9).keep0 q4
  replace E := ext_same E (e9)
  replace ED := ext_same ED (e9)
  clear e9
  have HG := Lib.hid (rows_of_ivs og rfl)
  obtain ⟨wG, hwG⟩ : ∃ wG, wG = w9 := ⟨_, rfl⟩
  have EG : Ext [] wG w9 := by rw [hwG]; exact Ext.refl _ _
  rw [← hwG] at HG
  clear og hco
  refine F.mv ?_; clear F fa; intro fa F
  refine F.vl (R_extract rfl (F.at rfl) (get0)) ?_; clear F fa; intro fa F
  refine F.vl (R_extract rfl (F.at rfl) (getS (get0))) ?_; clear F fa; intro fa F
  refine F.as ?_; clear F fa; intro fa F
  refine F.as ?_; clear F fa; intro fa F
  refine wpList_nil ?_
  refine hK5 _ _ ?_
  clear hK5
  refine wp_seq_k fun K6 hK6 => ?_
  refine wp_region_lit ?_
  refine F.mv ?_; clear F fa; intro fa F
  have hu := used_any r HRO.out.bd (by have := HV.out.d4; omega) ra x.D.length w9 (by rw [hrl]; exact HR.out.ext ED (by simp))
  rw [hrl] at hu
  refine sq_call F rfl (by decide) rfl (R_callV rfl rfl Try.call34 (mpS (F.at rfl) mp0)) (hu) fun e w10 hR => ?_
  obtain ⟨rfl, e9⟩ := hR
  refine ⟨_, rfl, ?_⟩; clear F fa; intro fa F
  replace q4 := (e9).keep0 q4
  replace E := ext_same E (e9)
  replace ED := ext_same ED (e9)
  replace EG := ext_same EG (e9)
  clear e9
  clear hu
  refine F.mv ?_; clear F fa; intro fa F
  refine F.vl (R_extract rfl (F.at rfl) (get0)) ?_; clear F fa; intro fa F
  refine F.vl (R_extract rfl (F.at rfl) (getS (get0))) ?_; clear F fa; intro fa F
  refine F.as ?_; clear F fa; intro fa F
  refine F.as ?_; clear F fa; intro fa F
  refine wpList_nil ?_
  refine hK6 _ _ ?_
  clear hK6
  refine wp_seq_k fun K7 hK7 => ?_
  refine wp_region_lit ?_
  refine F.vl (R_field rfl (F.at rfl) Try.underlying24 rfl (n := 1) (sz := 1) rfl (by kernel_rfl) (by decide)) ?_; clear F fa; intro fa F
  refine F.vl (R_load rfl (F.at rfl) Try.underlying22 rfl ((cells_of_block q4 1).trans (getS (get0)))) ?_; clear F fa; intro fa F
  refine F.vl (R_len rfl rfl (F.at rfl) Try.underlying22) ?_; clear F fa; intro fa F
  refine F.mv ?_; clear F fa; intro fa F
  refine F.vl (R_sub rfl (ev_c fa _) (F.at rfl) (by omega) (by omega)) ?_; clear F fa; intro fa F
  rw [show (6 : Int) - r.sum = ((6 - r.sum.toNat : Nat) : Int) by omega] at F
  refine sq_call F rfl (by decide) rfl (R_callV rfl rfl Try.call35 (mpS (F.at rfl) (mpS (F.at rfl) mp0))) (mixtures_any x.D.length (6 - r.sum.toNat) (by omega) (by omega) _) fun e w11 hR => ?_
  obtain ⟨M, mb, mc, rfl, hM, hml, e9⟩ := hR
  refine ⟨_, rfl, ?_⟩; clear F fa; intro fa F
  replace q4 := (e9).keep0 q4
  replace E := ext_same E (e9)
  replace ED := ext_same ED (e9)
  replace EG := ext_same EG (e9)
  clear e9
  have HML := Lib.hid hml
  have HMS := Lib.hid hml.1
  obtain ⟨wM, hwM⟩ : ∃ wM, wM = w11 := ⟨_, rfl⟩
  have EM : Ext [] wM w11 := by rw [hwM]; exact Ext.refl _ _
  rw [← hwM] at HML HMS
  clear hml
  have hMB : RowKit.Hid (∀ p ∈ M, p.2.length = x.D.length ∧ (∀ q ∈ p.2, 0 ≤ q ∧ q ≤ ((6 - r.sum.toNat : Nat) : Int)) ∧ p.2.sum ≤ ((6 - r.sum.toNat : Nat) : Int)) := Lib.hid (fun p hp => mix_mem (by rw [← hM]; exact List.mem_map.2 ⟨p, hp, rfl⟩))
  have hMl : M.length ≤ 10000 := by rw [← List.length_map (f := fun p : Value × List Int => p.2), hM]; exact Nat.le_trans (List.length_filter_le _ _) (by rw [tupL_len]; exact Nat.le_trans (Nat.pow_le_pow_left (show 6 - r.sum.toNat + 1 ≤ 10 by omega) _) (Nat.le_trans (Nat.pow_le_pow_right (by decide) (show x.D.length ≤ 4 by omega)) (by decide)))
  refine F.as ?_; clear F fa; intro fa F
  refine wpList_nil ?_
  refine hK7 _ _ ?_
  clear hK7
  refine wp_seq_k fun K8 hK8 => ?_
  refine wp_region_lit ?_
  refine F.vl (R_assign rfl (ev_c fa _)) ?_; clear F fa; intro fa F
  refine F.vl (R_assign rfl (ev_c fa _)) ?_; clear F fa; intro fa F
  refine wpList_nil ?_
  refine hK8 _ _ ?_
  clear hK8
  refine wp_seq_k fun K9 hK9 => ?_
  refine wp_seq_k fun K10 hK10 => ?_
  refine wp_region_lit ?_
  refine F.vl (R_assign rfl (ev_c fa _)) ?_; clear F fa; intro fa F
  refine wpList_nil ?_
  refine hK10 _ _ ?_
  clear hK10
  refine wp_block ?_
  have F0 := F.sub (.c 4 rfl (.c 5 rfl (.c 6 rfl (.c 7 rfl (.c 8 rfl (.c 9 rfl (.c 12 rfl .n)))))))
  refine lp_for F0 (M.length) (fun i Lv W => ∃ best least : Int, Lv = [(13, .int .i64 best), (14, .int .i64 least), (15, .int .i64 ((i : Nat) : Int))] ∧ Ext [] w W ∧ Ext [] wD W ∧ Ext [] wG W ∧ Ext [] wM W ∧ W.heap[n4]? = some (.cells #[.int .i64 x.B, .slice x.da x.D.length x.dc, .slice x.la x.L.length x.lc, .int .i64 x.tol] 24 (0, 0)) ∧ BestAt (M.map (·.2)) (phiB x r (val s) ls) i best least) ⟨_, ⟨_, _, rfl, E, ED, EG, EM, q4, (best_zero _ _)⟩, F.sub (.c 13 rfl (.c 14 rfl (.c 15 rfl (.c 4 rfl (.c 5 rfl (.c 6 rfl (.c 7 rfl (.c 8 rfl (.c 9 rfl (.c 12 rfl .n))))))))))⟩ ?_
  clear F F0
  clear E ED EG EM q4
  rintro i _ fa w12 hi1 ⟨best, least, rfl, E, ED, EG, EM, q4, hba⟩ F
  refine wp_seq_k fun K11 hK11 => ?_
  refine wp_seq_k fun K12 hK12 => ?_
  refine wp_region_lit ?_
  refine F.mv ?_; clear F fa; intro fa F
  refine F.mv ?_; clear F fa; intro fa F
  refine F.vl (R_len rfl rfl (F.at rfl) Try.underlying22) ?_; clear F fa; intro fa F
  refine F.vl (R_lss rfl (F.at rfl) (F.at rfl)) ?_; clear F fa; intro fa F
  refine wpList_nil ?_
  refine hK12 _ _ ?_
  clear hK12
  refine cd_if F rfl (fun hc55 => ?_) (fun hc55 => ?_)
  · skip
    refine wp_skip ?_
    refine hK11 _ _ ?_
    clear hK11
    refine wp_seq_k fun K13 hK13 => ?_
    refine wp_block ?_
    refine wp_seq_k fun K14 hK14 => ?_
    obtain ⟨ma, mca, hma, hmr⟩ := HML.out.2 _ (getD_mem (.bool true, []) (show i < M.length by omega))
    obtain ⟨hm1, hm2, hm3⟩ := hMB.out _ (getD_mem (.bool true, []) (show i < M.length by omega))
    have hmk := key_getD M (show i < M.length by omega)
    obtain ⟨m, hm⟩ : ∃ m, m = (M.getD i (.bool true, [])).2 := ⟨_, rfl⟩
    rw [← hm] at hma hmr hm1 hm2 hm3 hmk
    have HMR := Lib.hid hmr
    have HMRS := Lib.hid (slAt_of_rows hmr 0)
    refine wp_region_lit ?_
    refine F.mv ?_; clear F fa; intro fa F
    obtain ⟨B4, hB4⟩ : ∃ B4, B4 = w12.heap.size := ⟨_, rfl⟩
    have hB4M : wM.heap.size ≤ B4 := by rw [hB4]; exact EM.size
    have hB4D : wD.heap.size ≤ B4 := by rw [hB4]; exact ED.size
    have hB4G : wG.heap.size ≤ B4 := by rw [hB4]; exact EG.size
    have hB4E : w.heap.size ≤ B4 := by rw [hB4]; exact E.size
    have hcp := copyInts_any (xs := r) (v := .slice ra x.D.length x.D.length) (w := w12) ⟨ra, x.D.length, by rw [hrl], by rw [hrl]; exact HR.out.ext ED (by simp)⟩ (by omega)
    rw [hrl] at hcp
    refine sq_call F rfl (by decide) rfl (R_callV rfl rfl Try.call19 (mpS (F.at rfl) mp0)) (hcp) fun e w13 hR => ?_
    obtain ⟨ba, bc, rfl, bo, e9⟩ := hR
    refine ⟨_, rfl, ?_⟩; clear F fa; intro fa F
    replace q4 := (e9).keep0 q4
    replace E := ext_same E (e9)
    replace ED := ext_same ED (e9)
    replace EG := ext_same EG (e9)
    replace EM := ext_same EM (e9)
    clear e9
    rw [← hB4, ← addK_zero (t := r) (m := m) hrl] at bo
    clear hcp
    refine F.as ?_; clear F fa; intro fa F
    refine wpList_nil ?_
    refine hK14 _ _ ?_
    clear hK14
    refine wp_seq_k fun K15 hK15 => ?_
    refine wp_seq_k fun K16 hK16 => ?_
    refine wp_region_lit ?_
    refine F.vl (R_assign rfl (ev_c fa _)) ?_; clear F fa; intro fa F
    refine wpList_nil ?_
    refine hK16 _ _ ?_
    clear hK16
    refine wp_block ?_
    have F0 := F.sub (.c 4 rfl (.c 5 rfl (.c 6 rfl (.c 7 rfl (.c 8 rfl (.c 9 rfl (.c 12 rfl (.c 13 rfl (.c 14 rfl (.c 15 rfl (.c 16 rfl .n)))))))))))
    refine lp_for F0 (x.D.length) (fun k Lv W => Lv = [(17, .int .i64 ((k : Nat) : Int))] ∧ Ext [] w W ∧ Ext [] wD W ∧ Ext [] wG W ∧ Ext [] wM W ∧ W.heap[n4]? = some (.cells #[.int .i64 x.B, .slice x.da x.D.length x.dc, .slice x.la x.L.length x.lc, .int .i64 x.tol] 24 (0, 0)) ∧ W.ownsRow B4 3 1 (.slice ba x.D.length bc) x.D.length (ivs (addK r m k x.D.length))) ⟨_, ⟨rfl, E, ED, EG, EM, q4, bo⟩, F.sub (.c 17 rfl (.c 4 rfl (.c 5 rfl (.c 6 rfl (.c 7 rfl (.c 8 rfl (.c 9 rfl (.c 12 rfl (.c 13 rfl (.c 14 rfl (.c 15 rfl (.c 16 rfl .n))))))))))))⟩ ?_
    clear F F0
    clear E ED EG EM q4
    clear bo
    rintro k _ fa w14 hi2 ⟨rfl, E, ED, EG, EM, q4, bo⟩ F
    refine wp_seq_k fun K17 hK17 => ?_
    refine wp_seq_k fun K18 hK18 => ?_
    refine wp_region_lit ?_
    refine F.mv ?_; clear F fa; intro fa F
    refine F.mv ?_; clear F fa; intro fa F
    refine F.vl (R_len rfl rfl (F.at rfl) Try.underlying25) ?_; clear F fa; intro fa F
    refine F.vl (R_lss rfl (F.at rfl) (F.at rfl)) ?_; clear F fa; intro fa F
    refine wpList_nil ?_
    refine hK18 _ _ ?_
    clear hK18
    refine cd_if F rfl (fun hc63 => ?_) (fun hc63 => ?_)
    · skip
      refine wp_skip ?_
      refine hK17 _ _ ?_
      clear hK17
      refine wp_seq_k fun K19 hK19 => ?_
      refine wp_block ?_
      have hal := addK_len r m k x.D.length
      have hag := addK_get (t := r) (m := m) (show k < x.D.length by omega)
      have has := addK_set (t := r) (m := m) (show k < x.D.length by omega)
      have EX : Ext [] w14 w14 := Ext.refl _ _
      have HS := Lib.hid (slAt_of_ivs bo hal.symm [] (by simp))
      have hil := ivs_lenZ (addK r m k x.D.length)
      have hrb := HRO.out.bd _ (getD_mem 0 (show k < r.length by omega))
      have hmb := hm2 _ (getD_mem 0 (show k < m.length by omega))
      refine region_x (Ext [] w14) (some 15) follows fun w15 hh eh => ?_
      have q4_ := q4
      replace q4 := keep_same hh q4
      have E_ := E
      have zEw15 := E.size
      replace E := ext_same E eh
      have ED_ := ED
      have zEDw15 := ED.size
      replace ED := ext_same ED eh
      have EG_ := EG
      have zEGw15 := EG.size
      replace EG := ext_same EG eh
      have EM_ := EM
      have zEMw15 := EM.size
      replace EM := ext_same EM eh
      have EX_ := EX
      have zEXw15 := EX.size
      replace EX := ext_same EX eh
      replace bo := owns_same hh bo
      have eT := eh
      clear hh eh
      refine F.x (i := 0) rfl (fun w' => R_move rfl (F.at rfl)) (fun _ => eT) ?_; clear F fa; intro fa F
      refine F.x (i := 1) rfl (fun w' => R_move rfl (F.at rfl)) (fun _ => eT) ?_; clear F fa; intro fa F
      refine F.x (i := 2) rfl (fun w' => R_move rfl (F.at rfl)) (fun _ => eT) ?_; clear F fa; intro fa F
      refine F.x (i := 3) rfl (fun w' => R_move rfl (F.at rfl)) (fun _ => eT) ?_; clear F fa; intro fa F
      obtain ⟨xb20, xo20, xa20, xr20⟩ := HS.out k (by omega)
      refine F.x (i := 4) rfl (fun w' => R_ixSlice (sz := 1) rfl ((F.at rfl).trans (xa20 _ _)) (F.at rfl) Try.underlying25 (by kernel_rfl) (by omega) (by omega)) (fun _ => eT) ?_; clear F fa; intro fa F
      refine F.xr (i := 5) rfl (fun w' hS => R_load rfl (F.at rfl) Try.underlying3 rfl (xr20 _ (EX_.nil hS) 0 _ rfl)) (fun _ => eT) ?_; clear F fa; intro fa F
      rw [hag, show val r k = r.getD k 0 from rfl] at F
      refine F.x (i := 6) rfl (fun w' => R_move rfl (F.at rfl)) (fun _ => eT) ?_; clear F fa; intro fa F
      refine F.x (i := 7) rfl (fun w' => R_move rfl (F.at rfl)) (fun _ => eT) ?_; clear F fa; intro fa F
      obtain ⟨xb21, xo21, xa21, xr21⟩ := HMS.out i (by omega)
      refine F.x (i := 8) rfl (fun w' => R_ixSlice (sz := 1) rfl ((F.at rfl).trans (xa21 _ _)) (F.at rfl) Try.underlying22 (by kernel_rfl) (by omega) (by omega)) (fun _ => eT) ?_; clear F fa; intro fa F
      refine F.xr (i := 9) rfl (fun w' hS => R_load rfl (F.at rfl) Try.underlying25 rfl (xr21 _ (EM_.nil hS) 0 _ rfl)) (fun _ => eT) ?_; clear F fa; intro fa F
      rw [hma] at F
      refine F.x (i := 10) rfl (fun w' => R_move rfl (F.at rfl)) (fun _ => eT) ?_; clear F fa; intro fa F
      obtain ⟨xb22, xo22, xa22, xr22⟩ := HMRS.out k (by omega)
      refine F.x (i := 11) rfl (fun w' => R_ixSlice (sz := 1) rfl ((F.at rfl).trans (xa22 _ _)) (F.at rfl) Try.underlying25 (by kernel_rfl) (by omega) (by omega)) (fun _ => eT) ?_; clear F fa; intro fa F
      refine F.xr (i := 12) rfl (fun w' hS => R_load rfl (F.at rfl) Try.underlying3 rfl (xr22 _ (EM_.nil hS) 0 _ rfl)) (fun _ => eT) ?_; clear F fa; intro fa F
      refine F.x (i := 13) rfl (fun w' => R_add rfl (F.at rfl) (F.at rfl) (by omega) (by omega)) (fun _ => eT) ?_; clear F fa; intro fa F
      obtain ⟨xb23, xo23, xa23, xr23⟩ := HS.out k (by omega)
      refine F.x (i := 14) rfl (fun w' => R_ixSlice (sz := 1) rfl ((F.at rfl).trans (xa23 _ _)) (F.at rfl) Try.underlying25 (by kernel_rfl) (by omega) (by omega)) (fun _ => eT) ?_; clear F fa; intro fa F
      obtain ⟨⟨u0, hcu⟩, hfu, hst⟩ := owns_at bo xa23 (j := k) (p := xo23 + ((k : Nat) : Int).toNat * 1) (by first | omega | (simp; omega)) (by omega)
      refine ax_only (i := 15) (by kernel_rfl) (op_to rfl rfl rfl (R_store rfl (F.at rfl) (F.at rfl) rfl (by kernel_rfl) hcu hfu) ?_); intro w16 hw
      obtain ⟨hown', hg⟩ := hst _ _ hw
      clear hst hcu hfu hw
      replace q4 := keep_type bo hg q4 (by decide)
      replace E := ext_appendX E bo hg (by omega)
      replace ED := ext_appendX ED bo hg (by omega)
      replace EG := ext_appendX EG bo hg (by omega)
      replace EM := ext_appendX EM bo hg (by omega)
      replace bo := hown'
      clear hg
      refine ⟨gone (by kernel_rfl), ?_⟩
      rw [ivs_setZ, show r.getD k 0 + m.getD k 0 = val r k + val m k from rfl, has] at bo
      refine ax_done (by kernel_rfl) ?_ _
      clear eT q4_ E_ ED_ EG_ EM_ EX_
      refine hK19 _ _ ?_
      clear hK19
      refine wp_region_lit ?_
      refine F.mv ?_; clear F fa; intro fa F
      refine F.vl (R_add rfl (F.at rfl) (ev_c fa _) (by omega) (by omega)) ?_; clear F fa; intro fa F
      refine F.as ?_; clear F fa; intro fa F
      refine wpList_nil ?_
      show _ ∧ _
      exact ⟨by omega, _, ⟨rfl, E, ED, EG, EM, q4, bo⟩, F.sub (.c 17 rfl (.c 4 rfl (.c 5 rfl (.c 6 rfl (.c 7 rfl (.c 8 rfl (.c 9 rfl (.c 12 rfl (.c 13 rfl (.c 14 rfl (.c 15 rfl (.c 16 rfl .n))))))))))))⟩
    · skip
      refine wp_exit ?_
      rw [show k = x.D.length by omega, addK_end] at bo
      have HBO := Lib.hid (rows_of_ivs bo (show x.D.length = (addL r m x.D.length).length by simp [addL]))
      obtain ⟨wB, hwB⟩ : ∃ wB, wB = w14 := ⟨_, rfl⟩
      have EB : Ext [] wB w14 := by rw [hwB]; exact Ext.refl _ _
      rw [← hwB] at HBO
      clear bo
      refine hK15 _ _ ?_
      clear hK15
      refine wp_seq_k fun K24 hK24 => ?_
      refine wp_region_lit ?_
      refine F.mv ?_; clear F fa; intro fa F
      refine F.mv ?_; clear F fa; intro fa F
      obtain ⟨xb25, xo25, xa25, xr25⟩ := HMS.out i (by omega)
      refine F.vl (R_ixSlice (sz := 1) rfl ((F.at rfl).trans (xa25 _ _)) (F.at rfl) Try.underlying22 (by kernel_rfl) (by omega) (by omega)) ?_; clear F fa; intro fa F
      refine F.vl (R_load rfl (F.at rfl) Try.underlying25 rfl (xr25 _ EM 0 _ rfl)) ?_; clear F fa; intro fa F
      rw [hma] at F
      refine sq_call F rfl (by decide) rfl (R_callV rfl rfl Try.call34 (mpS (F.at rfl) mp0)) (used_any m (fun q hq => by have := hm2 q hq; omega) (by have := HV.out.d4; omega) ma mca _ (HMR.out.ext EM (by simp))) fun e w17 hR => ?_
      obtain ⟨rfl, e9⟩ := hR
      refine ⟨_, rfl, ?_⟩; clear F fa; intro fa F
      replace q4 := (e9).keep0 q4
      replace E := ext_same E (e9)
      replace ED := ext_same ED (e9)
      replace EG := ext_same EG (e9)
      replace EM := ext_same EM (e9)
      replace EB := ext_same EB (e9)
      clear e9
      refine F.mv ?_; clear F fa; intro fa F
      refine F.vl (R_extract rfl (F.at rfl) (get0)) ?_; clear F fa; intro fa F
      refine F.vl (R_extract rfl (F.at rfl) (getS (get0))) ?_; clear F fa; intro fa F
      refine F.as ?_; clear F fa; intro fa F
      refine F.as ?_; clear F fa; intro fa F
      refine wpList_nil ?_
      refine hK24 _ _ ?_
      clear hK24
      refine wp_seq_k fun K26 hK26 => ?_
      refine wp_region_lit ?_
      refine F.vl (R_loadBlk rfl (F.at rfl) Try.underlying24 rfl (by kernel_rfl) q4) ?_; clear F fa; intro fa F
      refine F.mv ?_; clear F fa; intro fa F
      refine F.mv ?_; clear F fa; intro fa F
      refine F.mv ?_; clear F fa; intro fa F
      refine F.vl (R_field rfl (F.at rfl) Try.underlying24 rfl (n := 3) (sz := 1) rfl (by kernel_rfl) (by decide)) ?_; clear F fa; intro fa F
      refine F.vl (R_load rfl (F.at rfl) Try.underlying3 rfl ((cells_of_block q4 3).trans (getS (getS (getS (get0)))))) ?_; clear F fa; intro fa F
      have hms : 0 ≤ m.sum := nonneg_sum fun q hq => (hm2 q hq).1
      have hrt := right_ok x HV.out (addL r m x.D.length) (by simp [addL]) (addL_bd (fun q hq => (HRO.out.bd q hq).1) (fun q hq => (hm2 q hq).1) (by omega)) s HSO.out ls HLO.out.2.1 (by omega) ba sa la bc sc lc w17 (HXD.out.ext ED) (by rw [show (addL r m x.D.length).length = x.D.length by simp [addL]]; exact HBO.out.ext EB (by simp)) (HSR.out.ext ED (by simp)) (HLR.out.ext ED (by simp))
      rw [show (addL r m x.D.length).length = x.D.length by simp [addL], show matE x (val (addL r m x.D.length)) (val s) ls = phiB x r (val s) ls m from rfl] at hrt
      refine sq_call F rfl (by decide) rfl (R_callV rfl rfl Try.call36 (mpS (F.at rfl) (mpS (F.at rfl) (mpS (F.at rfl) (mpS (F.at rfl) (mpS (F.at rfl) mp0)))))) (hrt) fun e w18 hR => ?_
      obtain ⟨rfl, e9⟩ := hR
      refine ⟨_, rfl, ?_⟩; clear F fa; intro fa F
      replace q4 := (e9).keep0 q4
      replace E := ext_same E (e9)
      replace ED := ext_same ED (e9)
      replace EG := ext_same EG (e9)
      replace EM := ext_same EM (e9)
      replace EB := ext_same EB (e9)
      clear e9
      clear hrt
      refine F.mv ?_; clear F fa; intro fa F
      cases hg1 : (phiB x r (val s) ls m)
      · skip
        replace F := F.re (k := 96) rfl (congrArg Value.bool hg1)
        refine sq_no F rfl (by decide) (wantF F rfl rfl (by decide) rfl (by decide)) ?_; clear F fa; intro fa F
        refine sq_no F rfl (by decide) (wantF F rfl rfl (by decide) rfl (by decide)) ?_; clear F fa; intro fa F
        refine sq_no F rfl (by decide) (wantF F rfl rfl (by decide) rfl (by decide)) ?_; clear F fa; intro fa F
        refine sq_no F rfl (by decide) (wantU F rfl rfl (by decide) rfl) ?_; clear F fa; intro fa F
        refine sq_no F rfl (by decide) (wantU F rfl rfl (by decide) rfl) ?_; clear F fa; intro fa F
        refine sq_no F rfl (by decide) (wantU F rfl rfl (by decide) rfl) ?_; clear F fa; intro fa F
        refine sq_no F rfl (by decide) (wantF F rfl rfl (by decide) rfl (by decide)) ?_; clear F fa; intro fa F
        refine F.vl (R_pickF rfl (F.at rfl) (ev_c fa _)) ?_; clear F fa; intro fa F
        refine wpList_nil ?_
        refine hK26 _ _ ?_
        clear hK26
        have hil2 : i < (M.map (·.2)).length := by rw [List.length_map]; omega
        try replace hba := best_skip hil2 hba (.inl (by rw [hmk]; exact hg1))
        refine cd_F F rfl ?_
        refine wp_skip ?_
        refine hK13 _ _ ?_
        clear hK13
        refine wp_region_lit ?_
        refine F.mv ?_; clear F fa; intro fa F
        refine F.vl (R_add rfl (F.at rfl) (ev_c fa _) (by omega) (by omega)) ?_; clear F fa; intro fa F
        refine F.as ?_; clear F fa; intro fa F
        refine wpList_nil ?_
        show _ ∧ _
        exact ⟨by omega, _, ⟨_, _, rfl, E, ED, EG, EM, q4, hba⟩, F.sub (.c 13 rfl (.c 14 rfl (.c 15 rfl (.c 4 rfl (.c 5 rfl (.c 6 rfl (.c 7 rfl (.c 8 rfl (.c 9 rfl (.c 12 rfl .n))))))))))⟩
      · skip
        replace F := F.re (k := 96) rfl (congrArg Value.bool hg1)
        refine F.mv ?_ (hw := (wantT F rfl rfl (by decide) rfl)); clear F fa; intro fa F
        refine F.vl (R_lss rfl (F.at rfl) (ev_c fa _)) ?_ (hw := (wantT F rfl rfl (by decide) rfl)); clear F fa; intro fa F
        refine F.mv ?_ (hw := (wantT F rfl rfl (by decide) rfl)); clear F fa; intro fa F
        by_cases hg2 : (best < 0)
        · skip
          replace F := F.re (k := 99) rfl (congrArg Value.bool (decide_eq_true hg2))
          refine sq_no F rfl (by decide) (wantF F rfl rfl (by decide) rfl (by decide)) ?_; clear F fa; intro fa F
          refine sq_no F rfl (by decide) (wantF F rfl rfl (by decide) rfl (by decide)) ?_; clear F fa; intro fa F
          refine sq_no F rfl (by decide) (wantF F rfl rfl (by decide) rfl (by decide)) ?_; clear F fa; intro fa F
          refine F.vl (R_pickT rfl (F.at rfl) (ev_c fa _)) ?_ (hw := (wantT F rfl rfl (by decide) rfl)); clear F fa; intro fa F
          refine F.vl (R_pickT rfl (F.at rfl) (F.at rfl)) ?_; clear F fa; intro fa F
          refine wpList_nil ?_
          refine hK26 _ _ ?_
          clear hK26
          have hil2 : i < (M.map (·.2)).length := by rw [List.length_map]; omega
          try replace hba := best_skip hil2 hba (.inl (by rw [hmk]; exact hg1))
          refine cd_T F rfl ?_
          replace hba := best_take hil2 hba (by rw [hmk]; exact hg1) (by first | exact .inl hg2 | exact .inr (by rw [hmk]; exact hc104))
          rw [hmk] at hba
          refine wp_region_lit ?_
          refine F.mv ?_; clear F fa; intro fa F
          refine F.mv ?_; clear F fa; intro fa F
          refine F.as ?_; clear F fa; intro fa F
          refine F.as ?_; clear F fa; intro fa F
          refine wpList_nil ?_
          refine hK13 _ _ ?_
          clear hK13
          refine wp_region_lit ?_
          refine F.mv ?_; clear F fa; intro fa F
          refine F.vl (R_add rfl (F.at rfl) (ev_c fa _) (by omega) (by omega)) ?_; clear F fa; intro fa F
          refine F.as ?_; clear F fa; intro fa F
          refine wpList_nil ?_
          show _ ∧ _
          exact ⟨by omega, _, ⟨_, _, rfl, E, ED, EG, EM, q4, hba⟩, F.sub (.c 13 rfl (.c 14 rfl (.c 15 rfl (.c 4 rfl (.c 5 rfl (.c 6 rfl (.c 7 rfl (.c 8 rfl (.c 9 rfl (.c 12 rfl .n))))))))))⟩
        · skip
          replace F := F.re (k := 99) rfl (congrArg Value.bool (decide_eq_false hg2))
          refine F.mv ?_ (hw := (wantT F rfl rfl (by decide) rfl)); clear F fa; intro fa F
          refine F.mv ?_ (hw := (wantT F rfl rfl (by decide) rfl)); clear F fa; intro fa F
          refine F.vl (R_lss rfl (F.at rfl) (F.at rfl)) ?_ (hw := (wantT F rfl rfl (by decide) rfl)); clear F fa; intro fa F
          refine F.vl (R_pickF rfl (F.at rfl) (F.at rfl)) ?_ (hw := (wantT F rfl rfl (by decide) rfl)); clear F fa; intro fa F
          refine F.vl (R_pickT rfl (F.at rfl) (F.at rfl)) ?_; clear F fa; intro fa F
          refine wpList_nil ?_
          refine hK26 _ _ ?_
          clear hK26
          have hil2 : i < (M.map (·.2)).length := by rw [List.length_map]; omega
          try replace hba := best_skip hil2 hba (.inl (by rw [hmk]; exact hg1))
          refine cd_if F rfl (fun hc104 => ?_) (fun hc104 => ?_)
          · skip
            replace hba := best_take hil2 hba (by rw [hmk]; exact hg1) (by first | exact .inl hg2 | exact .inr (by rw [hmk]; exact hc104))
            rw [hmk] at hba
            refine wp_region_lit ?_
            refine F.mv ?_; clear F fa; intro fa F
            refine F.mv ?_; clear F fa; intro fa F
            refine F.as ?_; clear F fa; intro fa F
            refine F.as ?_; clear F fa; intro fa F
            refine wpList_nil ?_
            refine hK13 _ _ ?_
            clear hK13
            refine wp_region_lit ?_
            refine F.mv ?_; clear F fa; intro fa F
            refine F.vl (R_add rfl (F.at rfl) (ev_c fa _) (by omega) (by omega)) ?_; clear F fa; intro fa F
            refine F.as ?_; clear F fa; intro fa F
            refine wpList_nil ?_
            show _ ∧ _
            exact ⟨by omega, _, ⟨_, _, rfl, E, ED, EG, EM, q4, hba⟩, F.sub (.c 13 rfl (.c 14 rfl (.c 15 rfl (.c 4 rfl (.c 5 rfl (.c 6 rfl (.c 7 rfl (.c 8 rfl (.c 9 rfl (.c 12 rfl .n))))))))))⟩
          · skip
            replace hba := best_skip hil2 hba (.inr ⟨by omega, by rw [hmk]; exact hc104⟩)
            refine wp_skip ?_
            refine hK13 _ _ ?_
            clear hK13
            refine wp_region_lit ?_
            refine F.mv ?_; clear F fa; intro fa F
            refine F.vl (R_add rfl (F.at rfl) (ev_c fa _) (by omega) (by omega)) ?_; clear F fa; intro fa F
            refine F.as ?_; clear F fa; intro fa F
            refine wpList_nil ?_
            show _ ∧ _
            exact ⟨by omega, _, ⟨_, _, rfl, E, ED, EG, EM, q4, hba⟩, F.sub (.c 13 rfl (.c 14 rfl (.c 15 rfl (.c 4 rfl (.c 5 rfl (.c 6 rfl (.c 7 rfl (.c 8 rfl (.c 9 rfl (.c 12 rfl .n))))))))))⟩
  · skip
    refine wp_exit ?_
    have hbe := best_end (by rw [List.length_map]; omega) hba
    rw [hM, cor_law hd3 HRO.out] at hbe
    refine hK9 _ _ ?_
    clear hK9
    refine wp_seq_k fun K27 hK27 => ?_
    refine wp_seq_k fun K28 hK28 => ?_
    refine wp_region_lit ?_
    refine F.mv ?_; clear F fa; intro fa F
    refine F.vl (R_lss rfl (F.at rfl) (ev_c fa _)) ?_; clear F fa; intro fa F
    refine wpList_nil ?_
    refine hK28 _ _ ?_
    clear hK28
    refine cd_if F rfl (fun hc108 => ?_) (fun hc108 => ?_)
    · skip
      have hge : g = ([], 11) := by rw [hg, corR]; rcases hbe with ⟨h1, -⟩ | ⟨j, -, h2, -⟩; (· rw [Option.map_eq_none_iff.1 h1]); (· omega)
      refine wp_seq_k fun K29 hK29 => ?_
      refine wp_region_lit ?_
      refine F.mv ?_; clear F fa; intro fa F
      refine F.vl (R_eqlB (b := true) rfl (F.at rfl) (ev_c fa _) (decide_eq_true (by rw [hge]))) ?_; clear F fa; intro fa F
      refine F.mv ?_; clear F fa; intro fa F
      refine F.mv ?_ (hw := (wantT F rfl rfl (by decide) rfl)); clear F fa; intro fa F
      refine F.vl (R_len rfl rfl (F.at rfl) Try.underlying25) ?_ (hw := (wantT F rfl rfl (by decide) rfl)); clear F fa; intro fa F
      refine F.vl (R_eqlB (b := true) rfl (F.at rfl) (ev_c fa _) (decide_eq_true (by rw [hge]; rfl))) ?_ (hw := (wantT F rfl rfl (by decide) rfl)); clear F fa; intro fa F
      refine F.vl (R_pickT rfl (F.at rfl) (F.at rfl)) ?_; clear F fa; intro fa F
      refine F.mv ?_; clear F fa; intro fa F
      refine sq_call F rfl (by decide) (wantT F rfl rfl (by decide) rfl) (R_callV rfl rfl Try.call12 mp0) (dyed_any _) fun e w19 hR => ?_
      obtain ⟨rfl, e9⟩ := hR
      refine ⟨_, rfl, ?_⟩; clear F fa; intro fa F
      replace q4 := (e9).keep0 q4
      replace E := ext_same E (e9)
      replace ED := ext_same ED (e9)
      replace EG := ext_same EG (e9)
      replace EM := ext_same EM (e9)
      clear e9
      refine F.vl (R_pickT rfl (F.at rfl) (F.at rfl)) ?_; clear F fa; intro fa F
      refine F.as ?_; clear F fa; intro fa F
      refine wpList_nil ?_
      refine hK29 _ _ ?_
      clear hK29
      refine wp_ret ?_
      (try simp only [Exit.inBlock, Exit.then, reduceIte])
      refine rt_v F (rs_1 F rfl rfl) ?_
      exact ⟨rfl, E⟩
    · skip
      obtain ⟨j, hj, hbj, hge⟩ : ∃ j : Nat, j < M.length ∧ best = j ∧ g = ((mixL x.D.length (6 - r.sum.toNat)).getD j [], 0) := by rcases hbe with ⟨-, h2⟩ | ⟨j, h1, h2, h3⟩; (· omega); (· obtain ⟨q, hq1, hq2⟩ := Option.map_eq_some_iff.1 h3; exact ⟨j, by omega, h2, by rw [hg, corR, hq1]; exact congrArg (fun z => (z, (0 : Int))) hq2⟩)
      rw [← hM, key_getD M hj] at hge
      subst hbj
      refine wp_skip ?_
      refine hK27 _ _ ?_
      clear hK27
      refine wp_seq_k fun K30 hK30 => ?_
      obtain ⟨ma, mca, hma, hmr⟩ := HML.out.2 _ (getD_mem (.bool true, []) hj)
      refine wp_region_lit ?_
      refine F.mv ?_; clear F fa; intro fa F
      refine F.vl (R_eqlB (b := true) rfl (F.at rfl) (ev_c fa _) (decide_eq_true (by rw [hge]))) ?_; clear F fa; intro fa F
      refine F.mv ?_; clear F fa; intro fa F
      refine F.mv ?_ (hw := (wantT F rfl rfl (by decide) rfl)); clear F fa; intro fa F
      refine F.mv ?_ (hw := (wantT F rfl rfl (by decide) rfl)); clear F fa; intro fa F
      refine F.mv ?_ (hw := (wantT F rfl rfl (by decide) rfl)); clear F fa; intro fa F
      obtain ⟨xb31, xo31, xa31, xr31⟩ := HMS.out j (by omega)
      refine F.vl (R_ixSlice (sz := 1) rfl ((F.at rfl).trans (xa31 _ _)) (F.at rfl) Try.underlying22 (by kernel_rfl) (by omega) (by omega)) ?_ (hw := (wantT F rfl rfl (by decide) rfl)); clear F fa; intro fa F
      refine F.vl (R_load rfl (F.at rfl) Try.underlying25 rfl (xr31 _ EM 0 _ rfl)) ?_ (hw := (wantT F rfl rfl (by decide) rfl)); clear F fa; intro fa F
      rw [hma] at F
      have hjl := (hMB.out _ (getD_mem (.bool true, []) hj)).1
      refine sq_call F rfl (by decide) (wantT F rfl rfl (by decide) rfl) (R_callV rfl rfl Try.call22 (mpS (F.at rfl) (mpS (F.at rfl) mp0))) (sameInts_any g.1 (M.getD j (.bool true, [])).2 ga ma gc mca _ (HG.out.ext EG (by simp)) (hmr.ext EM (by simp)) (by rw [hge]; simp only; omega) (by omega)) fun e w20 hR => ?_
      obtain ⟨rfl, e9⟩ := hR
      refine ⟨_, rfl, ?_⟩; clear F fa; intro fa F
      replace q4 := (e9).keep0 q4
      replace E := ext_same E (e9)
      replace ED := ext_same ED (e9)
      replace EG := ext_same EG (e9)
      replace EM := ext_same EM (e9)
      clear e9
      rw [decide_eq_true (show g.1 = (M.getD j (.bool true, [])).2 by rw [hge])] at F
      refine F.vl (R_pickT rfl (F.at rfl) (F.at rfl)) ?_; clear F fa; intro fa F
      refine F.mv ?_; clear F fa; intro fa F
      refine sq_call F rfl (by decide) (wantT F rfl rfl (by decide) rfl) (R_callV rfl rfl Try.call12 mp0) (dyed_any _) fun e w21 hR => ?_
      obtain ⟨rfl, e9⟩ := hR
      refine ⟨_, rfl, ?_⟩; clear F fa; intro fa F
      replace q4 := (e9).keep0 q4
      replace E := ext_same E (e9)
      replace ED := ext_same ED (e9)
      replace EG := ext_same EG (e9)
      replace EM := ext_same EM (e9)
      clear e9
      refine F.vl (R_pickT rfl (F.at rfl) (F.at rfl)) ?_; clear F fa; intro fa F
      refine F.as ?_; clear F fa; intro fa F
      refine wpList_nil ?_
      refine hK30 _ _ ?_
      clear hK30
      refine wp_ret ?_
      (try simp only [Exit.inBlock, Exit.then, reduceIte])
      refine rt_v F (rs_1 F rfl rfl) ?_
      exact ⟨rfl, E⟩
end Go.Proofs.Ytdjeecgddbjbeaa
