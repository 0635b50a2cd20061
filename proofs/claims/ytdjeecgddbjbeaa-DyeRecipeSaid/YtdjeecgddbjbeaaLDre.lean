/- The law DyeRecipe: Recipes is just all recipes in lowest terms that match. No conditions. -/
import Derived.Test.YtdjeecgddbjbeaaDcm
namespace Go.Proofs.Ytdjeecgddbjbeaa
open Go.RowKit
set_option linter.unusedVariables false
set_option linter.unusedSimpArgs false
theorem take_filterP {p : List Int → Bool} {L : List (List Int)} {i : Nat} (h : i < L.length) : (L.take (i + 1)).filter p = (L.take i).filter p ++ if p (L.getD i []) = true then [L.getD i []] else [] := by rw [take_getD L [] h, List.filter_append, List.filter_cons, List.filter_nil]
set_option maxRecDepth 100000 in
set_option maxHeartbeats 4000000 in
theorem dyeRecipe_walk (a0 : Option Addr) (len0 cap0 : Nat) (z0 : List Int) (w : World) (h : IsRow .i64 w a0 len0 cap0 z0) : Calls Try.prog 6 #[.slice a0 len0 cap0] w fun e w' => e = .returned (.bool true) ∧ Ext [] w w' := by
  have E : Ext [] w w := Ext.refl _ _
  refine calls_has 85 Try.func6 rfl Try.ntmps6 (Nat.le_of_ble_eq_true rfl) ?_
  intro fa F
  refine wp_seq_k fun K1 hK1 => ?_
  refine wp_region_lit ?_
  refine F.vl (R_assign rfl (ev_c fa _)) ?_; clear F fa; intro fa F
  refine wpList_nil ?_
  refine hK1 _ _ ?_
  clear hK1
  refine wp_seq_k fun K2 hK2 => ?_
  refine wp_region_lit ?_
  refine F.mv ?_; clear F fa; intro fa F
  refine sq_call F rfl (by decide) rfl (R_callV rfl rfl Try.call13 (mpS (F.at rfl) mp0)) (newLots_any w a0 len0 cap0 z0 h) fun e w1 hR => ?_
  obtain ⟨b, rfl, hbw0, hbw1, HL, e9⟩ := hR
  refine ⟨_, rfl, ?_⟩; clear F fa; intro fa F
  replace E := ext_same E (e9)
  clear e9
  refine F.as ?_; clear F fa; intro fa F
  refine wpList_nil ?_
  refine hK2 _ _ ?_
  clear hK2
  refine wp_seq_k fun K3 hK3 => ?_
  refine wp_region_lit ?_
  refine F.mv ?_; clear F fa; intro fa F
  refine sq_call F rfl (by decide) rfl (R_callV rfl rfl Try.call33 (mpS (F.at rfl) (mpS (ev_c fa _) mp0))) (vatOf_any 3 (by decide) (by decide) w _ b _ _ HL (by omega)) fun e w2 hR => ?_
  obtain ⟨x, rfl, hv, hd3, hxb, HL, e9⟩ := hR
  refine ⟨_, rfl, ?_⟩; clear F fa; intro fa F
  replace E := E.trans' e9 (fun i hi hl => by simp only [List.mem_cons, List.not_mem_nil, or_false] at hi ⊢; omega)
  have HV := Lib.hid hv
  have HXB := Lib.hid hxb
  obtain ⟨wV, hwV⟩ : ∃ wV, wV = w2 := ⟨_, rfl⟩
  have EV : Ext [b] wV w2 := by rw [hwV]; exact Ext.refl _ _
  rw [← hwV] at HXB
  clear hv hxb
  refine sq_new F rfl (by decide) rfl (R_alloc rfl Try.zeroValue24) ?_; clear F fa; intro fa w3 F hw
  obtain ⟨n4, hn⟩ : ∃ n, n = w2.heap.size := ⟨_, rfl⟩
  rw [← hn] at F
  have s4 : w2.heap.size ≤ n4 := Nat.le_of_eq hn.symm
  have l4_E : w.heap.size ≤ n4 := by rw [hn]; exact E.size
  have l4_EV : wV.heap.size ≤ n4 := by rw [hn]; exact EV.size
  have b4_HL := Nat.lt_of_lt_of_eq (lots_lt HL) hn.symm
  replace E := ext_alloc E hw
  replace EV := ext_alloc EV hw
  replace HL := lots_alloc hw HL
  have q4 := new_row hw hn
  clear hw hn
  refine sq_to rfl rfl (R_storeRow rfl (F.at rfl) (F.at rfl) (by kernel_rfl) (by first | (simp [Value.oneCell']; done) | (simp [Value.oneCell', id]; done)) q4 rfl) ?_; intro w4 hw
  replace q4 := put_row hw q4 rfl
  replace E := ext_cells E hw (fun h => by first | exact absurd h (by omega) | simp)
  replace EV := ext_cells EV hw (fun h => by first | exact absurd h (by omega) | simp)
  replace HL := lots_cells hw HL (by omega) (by omega)
  clear hw
  refine wpList_nil ?_
  refine hK3 _ _ ?_
  clear hK3
  refine wp_seq_k fun K4 hK4 => ?_
  refine region_x (Ext [b] w4) none follows fun w5 hh eh => ?_
  have q4_ := q4
  replace q4 := keep_same hh q4
  have E_ := E
  have zEw5 := E.size
  replace E := ext_same E eh
  have EV_ := EV
  have zEVw5 := EV.size
  replace EV := ext_same EV eh
  have zbw5 := lots_lt HL
  replace HL := lots_ext eh HL
  have eT := eh.mono (Y := [b]) (by simp)
  clear hh eh
  refine F.x (i := 0) rfl (fun w' => R_move rfl (F.at rfl)) (fun _ => eT) ?_; clear F fa; intro fa F
  refine F.xr (i := 1) rfl (fun w' hS => R_loadBlk rfl (F.at rfl) Try.underlying24 rfl (by kernel_rfl) (hS.keep q4_ (by simp; omega))) (fun _ => eT) ?_; clear F fa; intro fa F
  refine F.x (i := 3) rfl (fun w' => R_move rfl (F.at rfl)) (fun _ => eT) ?_; clear F fa; intro fa F
  refine F.xr (i := 4) rfl (fun w' hS => R_loadBlk rfl (F.at rfl) Try.underlying24 rfl (by kernel_rfl) (hS.keep q4_ (by simp; omega))) (fun _ => eT) ?_; clear F fa; intro fa F
  obtain ⟨B2, hB2⟩ : ∃ B2, B2 = w5.heap.size := ⟨_, rfl⟩
  have hb2 : b < B2 := by rw [hB2]; exact lots_lt HL
  refine ax_only (i := 2) (by kernel_rfl) (op_call F rfl rfl (by decide) rfl (R_callV rfl rfl Try.call16 (mpS (F.at rfl) (mpS (F.at rfl) mp0))) (sampleOf_any x HV.out w _ b _ _ HL (by omega) (HXB.out.ext EV)) fun e w6 hR => ?_)
  obtain ⟨sa, sc, s, rfl, hs, so, HL, e9⟩ := hR
  refine ⟨_, rfl, ?_⟩; clear F fa; intro fa F
  replace q4 := (e9).keep q4 (by simp; omega)
  replace E := E.trans' e9 (fun i hi hl => by simp only [List.mem_cons, List.not_mem_nil, or_false] at hi ⊢; omega)
  replace EV := EV.trans' e9 (fun i hi hl => by simp only [List.mem_cons, List.not_mem_nil, or_false] at hi ⊢; omega)
  replace eT := eT.trans' e9 (fun i hi hl => by simp only [List.mem_cons, List.not_mem_nil, or_false] at hi ⊢; omega)
  refine ⟨fun _ => eT, ?_⟩
  rw [← hB2] at so
  obtain ⟨B3, hB3⟩ : ∃ B3, B3 = w6.heap.size := ⟨_, rfl⟩
  have hb3 : b < B3 := by rw [hB3]; exact lots_lt HL
  refine ax_only (i := 5) (by kernel_rfl) (op_call F rfl rfl (by decide) rfl (R_callV rfl rfl Try.call17 (mpS (F.at rfl) (mpS (F.at rfl) mp0))) (lampsOf_any x HV.out w _ b _ _ HL (by omega)) fun e w7 hR => ?_)
  obtain ⟨la, lc, ls, rfl, hl, hl3, lo, HL, e9⟩ := hR
  refine ⟨_, rfl, ?_⟩; clear F fa; intro fa F
  replace so := owns_ext so (e9) (by simp; omega)
  replace q4 := (e9).keep q4 (by simp; omega)
  replace E := E.trans' e9 (fun i hi hl => by simp only [List.mem_cons, List.not_mem_nil, or_false] at hi ⊢; omega)
  replace EV := EV.trans' e9 (fun i hi hl => by simp only [List.mem_cons, List.not_mem_nil, or_false] at hi ⊢; omega)
  replace eT := eT.trans' e9 (fun i hi hl => by simp only [List.mem_cons, List.not_mem_nil, or_false] at hi ⊢; omega)
  refine ⟨fun _ => eT, ?_⟩
  rw [← hB3] at lo
  refine F.x (i := 6) rfl (fun w' => R_assign rfl (F.at rfl)) (fun _ => eT) ?_; clear F fa; intro fa F
  refine F.x (i := 7) rfl (fun w' => R_assign rfl (F.at rfl)) (fun _ => eT) ?_; clear F fa; intro fa F
  refine ax_done (by kernel_rfl) ?_ _
  clear eT q4_ E_ EV_
  have hxd := HXB.out _ EV
  have HSR := Lib.hid (rows_of_ivs so rfl)
  have HLR := Lib.hid (rows_of_ivs lo rfl)
  have HXD := Lib.hid hxd
  obtain ⟨wD, hwD⟩ : ∃ wD, wD = w7 := ⟨_, rfl⟩
  have ED : Ext [] wD w7 := by rw [hwD]; exact Ext.refl _ _
  rw [← hwD] at HXD HSR HLR
  clear hxd so lo HL EV
  have HSO := Lib.hid hs
  have HLO := Lib.hid hl
  clear hs hl
  refine hK4 _ _ ?_
  clear hK4
  refine wp_seq_k fun K5 hK5 => ?_
  refine wp_region_lit ?_
  refine F.vl (R_loadBlk rfl (F.at rfl) Try.underlying24 rfl (by kernel_rfl) q4) ?_; clear F fa; intro fa F
  refine F.mv ?_; clear F fa; intro fa F
  refine F.mv ?_; clear F fa; intro fa F
  refine sq_call F rfl (by decide) rfl (R_callV rfl rfl Try.call37 (mpS (F.at rfl) (mpS (F.at rfl) (mpS (F.at rfl) mp0)))) (xRecipes_ok x HV.out s HSO.out ls HLO.out (by omega) sa la sc lc _ (HXD.out.ext ED) (HSR.out.ext ED (by simp)) (HLR.out.ext ED (by simp))) fun e w8 hR => ?_
  obtain ⟨M, mb, mc, rfl, hM, om, fam, e9⟩ := hR
  refine ⟨_, rfl, ?_⟩; clear F fa; intro fa F
  replace q4 := (e9).keep0 q4
  replace E := ext_same E (e9)
  replace ED := ext_same ED (e9)
  clear e9
  have HM := Lib.hid (lol_of_own om fam)
  have HMS := Lib.hid (lol_of_own om fam).1
  obtain ⟨wM, hwM⟩ : ∃ wM, wM = w8 := ⟨_, rfl⟩
  have EM : Ext [] wM w8 := by rw [hwM]; exact Ext.refl _ _
  rw [← hwM] at HM HMS
  clear om fam
  have hMl : M.length ≤ 500 := by rw [← List.length_map (f := fun p : Value × List Int => p.2), hM]; exact mat_len HV.out
  refine F.mv ?_; clear F fa; intro fa F
  refine F.vl (R_extract rfl (F.at rfl) (get0)) ?_; clear F fa; intro fa F
  refine F.vl (R_extract rfl (F.at rfl) (getS (get0))) ?_; clear F fa; intro fa F
  refine F.as ?_; clear F fa; intro fa F
  refine F.as ?_; clear F fa; intro fa F
  refine wpList_nil ?_
  refine hK5 _ _ ?_
  clear hK5
  refine wp_seq_k fun K6 hK6 => ?_
  refine wp_seq_k fun K7 hK7 => ?_
  refine wp_region_lit ?_
  refine F.mv ?_; clear F fa; intro fa F
  refine F.vl (R_neqB (b := false) rfl (F.at rfl) (ev_c fa _) (by decide)) ?_; clear F fa; intro fa F
  refine wpList_nil ?_
  refine hK7 _ _ ?_
  clear hK7
  refine cd_F F rfl ?_
  refine wp_skip ?_
  refine hK6 _ _ ?_
  clear hK6
  refine wp_seq_k fun K8 hK8 => ?_
  refine wp_region_lit ?_
  refine F.vl (R_field rfl (F.at rfl) Try.underlying24 rfl (n := 1) (sz := 1) rfl (by kernel_rfl) (by decide)) ?_; clear F fa; intro fa F
  refine F.vl (R_load rfl (F.at rfl) Try.underlying22 rfl ((cells_of_block q4 1).trans (getS (get0)))) ?_; clear F fa; intro fa F
  refine F.vl (R_len rfl rfl (F.at rfl) Try.underlying22) ?_; clear F fa; intro fa F
  refine sq_call F rfl (by decide) rfl (R_callV rfl rfl Try.call35 (mpS (F.at rfl) (mpS (ev_c fa _) mp0))) (mixtures_any x.D.length 6 (by have := HV.out.d4; omega) (by decide) _) fun e w9 hR => ?_
  obtain ⟨Q, qb, qc, rfl, hQ, hql, e9⟩ := hR
  refine ⟨_, rfl, ?_⟩; clear F fa; intro fa F
  replace q4 := (e9).keep0 q4
  replace E := ext_same E (e9)
  replace ED := ext_same ED (e9)
  replace EM := ext_same EM (e9)
  clear e9
  have HQL := Lib.hid hql
  have HQS := Lib.hid hql.1
  obtain ⟨wQ, hwQ⟩ : ∃ wQ, wQ = w9 := ⟨_, rfl⟩
  have EQ : Ext [] wQ w9 := by rw [hwQ]; exact Ext.refl _ _
  rw [← hwQ] at HQL HQS
  clear hql
  have hQB : RowKit.Hid (∀ p ∈ Q, p.2.length = x.D.length ∧ ∀ n ∈ p.2, 0 ≤ n ∧ n ≤ 6) := Lib.hid (fun p hp => by obtain ⟨h1, h2⟩ := (mem_tupL 7 x.D.length p.2).1 (List.mem_filter.1 (show p.2 ∈ mixL x.D.length 6 by rw [← hQ]; exact List.mem_map.2 ⟨p, hp, rfl⟩)).1; exact ⟨h1, fun n hn => by have := h2 n hn; omega⟩)
  have hQl : Q.length ≤ 10000 := by rw [← List.length_map (f := fun p : Value × List Int => p.2), hQ]; exact Nat.le_trans (List.length_filter_le _ _) (by rw [tupL_len]; exact Nat.le_trans (Nat.pow_le_pow_right (by decide) (show x.D.length ≤ 4 by omega)) (by decide))
  have hMQ : M.map (·.2) = (Q.map (·.2)).filter (cndE x (val s) ls) := by rw [hM, hQ]; exact mat_mix (by omega) _ _
  refine F.as ?_; clear F fa; intro fa F
  refine wpList_nil ?_
  refine hK8 _ _ ?_
  clear hK8
  refine wp_seq_k fun K9 hK9 => ?_
  refine wp_region_lit ?_
  refine F.vl (R_assign rfl (ev_c fa _)) ?_; clear F fa; intro fa F
  refine wpList_nil ?_
  rw [show (0 : Int) = (((((Q.map (·.2)).take 0).filter (cndE x (val s) ls)).length : Nat) : Int) from rfl] at F
  refine hK9 _ _ ?_
  clear hK9
  refine wp_seq_k fun K10 hK10 => ?_
  refine wp_seq_k fun K11 hK11 => ?_
  refine wp_region_lit ?_
  refine F.vl (R_assign rfl (ev_c fa _)) ?_; clear F fa; intro fa F
  refine wpList_nil ?_
  rw [show (((((Q.map (·.2)).take 0).filter (cndE x (val s) ls)).length : Nat) : Int) = 0 from rfl] at F
  replace F := F.re (k := 10) rfl (show Value.int .i64 0 = .int .i64 (((((Q.map (·.2)).take 0).filter (cndE x (val s) ls)).length : Nat) : Int) from rfl)
  replace F := F.re (k := 11) rfl (show Value.int .i64 0 = .int .i64 ((0 : Nat) : Int) from rfl)
  refine hK11 _ _ ?_
  clear hK11
  refine wp_block ?_
  have F0 := F.sub (.c 4 rfl (.c 5 rfl (.c 6 rfl (.c 7 rfl (.c 9 rfl .n)))))
  refine lp_for F0 (Q.length) (fun i Lv W => Lv = [(10, .int .i64 (((((Q.map (·.2)).take i).filter (cndE x (val s) ls)).length : Nat) : Int)), (11, .int .i64 ((i : Nat) : Int))] ∧ Ext [] w W ∧ Ext [] wD W ∧ Ext [] wM W ∧ Ext [] wQ W ∧ W.heap[n4]? = some (.cells #[.int .i64 x.B, .slice x.da x.D.length x.dc, .slice x.la x.L.length x.lc, .int .i64 x.tol] 24 (0, 0))) ⟨_, ⟨rfl, E, ED, EM, EQ, q4⟩, F.sub (.c 10 rfl (.c 11 rfl (.c 4 rfl (.c 5 rfl (.c 6 rfl (.c 7 rfl (.c 9 rfl .n)))))))⟩ ?_
  clear F F0
  clear E ED EM EQ q4
  rintro i _ fa w10 hi1 ⟨rfl, E, ED, EM, EQ, q4⟩ F
  refine wp_seq_k fun K12 hK12 => ?_
  refine wp_seq_k fun K13 hK13 => ?_
  refine wp_region_lit ?_
  refine F.mv ?_; clear F fa; intro fa F
  refine F.mv ?_; clear F fa; intro fa F
  refine F.vl (R_len rfl rfl (F.at rfl) Try.underlying22) ?_; clear F fa; intro fa F
  refine F.vl (R_lss rfl (F.at rfl) (F.at rfl)) ?_; clear F fa; intro fa F
  refine wpList_nil ?_
  refine hK13 _ _ ?_
  clear hK13
  refine cd_if F rfl (fun hc38 => ?_) (fun hc38 => ?_)
  · skip
    obtain ⟨ma2, mca, hma, hmr⟩ := HQL.out.2 _ (getD_mem (.bool true, []) (show i < Q.length by omega))
    obtain ⟨hm1, hm2⟩ := hQB.out _ (getD_mem (.bool true, []) (show i < Q.length by omega))
    have hmk := key_getD Q (show i < Q.length by omega)
    have hil : i < (Q.map (·.2)).length := by rw [List.length_map]; omega
    obtain ⟨m, hm⟩ : ∃ m, m = (Q.getD i (.bool true, [])).2 := ⟨_, rfl⟩
    rw [← hm] at hma hmr hm1 hm2 hmk
    have HMR := Lib.hid hmr
    have htl := take_filterP (p := cndE x (val s) ls) hil
    rw [hmk] at htl
    refine wp_skip ?_
    refine hK12 _ _ ?_
    clear hK12
    refine wp_seq_k fun K14 hK14 => ?_
    refine wp_block ?_
    refine wp_seq_k fun K15 hK15 => ?_
    refine wp_seq_k fun K16 hK16 => ?_
    by_cases hcm : gcE (val m) = 1
    · skip
      refine region_x (Ext [] w10) none follows fun w11 hh eh => ?_
      have q4_ := q4
      replace q4 := keep_same hh q4
      have E_ := E
      have zEw11 := E.size
      replace E := ext_same E eh
      have ED_ := ED
      have zEDw11 := ED.size
      replace ED := ext_same ED eh
      have EM_ := EM
      have zEMw11 := EM.size
      replace EM := ext_same EM eh
      have EQ_ := EQ
      have zEQw11 := EQ.size
      replace EQ := ext_same EQ eh
      have eT := eh
      clear hh eh
      refine F.x (i := 0) rfl (fun w' => R_move rfl (F.at rfl)) (fun _ => eT) ?_; clear F fa; intro fa F
      refine F.x (i := 1) rfl (fun w' => R_move rfl (F.at rfl)) (fun _ => eT) ?_; clear F fa; intro fa F
      obtain ⟨xb17, xo17, xa17, xr17⟩ := HQS.out i (by omega)
      refine F.x (i := 2) rfl (fun w' => R_ixSlice (sz := 1) rfl ((F.at rfl).trans (xa17 _ _)) (F.at rfl) Try.underlying22 (by kernel_rfl) (by omega) (by omega)) (fun _ => eT) ?_; clear F fa; intro fa F
      refine F.xr (i := 3) rfl (fun w' hS => R_load rfl (F.at rfl) Try.underlying25 rfl (xr17 _ (EQ_.nil hS) 0 _ rfl)) (fun _ => eT) ?_; clear F fa; intro fa F
      rw [hma] at F
      refine ax_only (i := 4) (by kernel_rfl) (op_call F rfl rfl (by decide) rfl (R_callV rfl rfl Try.call38 (mpS (F.at rfl) mp0)) (common_any m hm2 (by omega) ma2 mca _ (HMR.out.ext EQ (by simp))) fun e w12 hR => ?_)
      obtain ⟨rfl, e9⟩ := hR
      refine ⟨_, rfl, ?_⟩; clear F fa; intro fa F
      replace q4 := (e9).keep0 q4
      replace E := ext_same E (e9)
      replace ED := ext_same ED (e9)
      replace EM := ext_same EM (e9)
      replace EQ := ext_same EQ (e9)
      replace eT := ext_same eT (e9)
      clear e9
      refine ⟨fun _ => eT, ?_⟩
      refine F.x (i := 5) rfl (fun w' => R_neqB (b := false) rfl (F.at rfl) (ev_c fa _) (decide_eq_true (by omega))) (fun _ => eT) ?_; clear F fa; intro fa F
      refine F.x (i := 6) rfl (fun w' => R_move rfl (F.at rfl)) (fun _ => eT) ?_; clear F fa; intro fa F
      refine F.xr (i := 7) rfl (fun w' hS => R_loadBlk rfl (F.at rfl) Try.underlying24 rfl (by kernel_rfl) (hS.keep q4_ (by simp))) (fun _ => eT) ?_ (hw := (wantT F rfl rfl (by decide) rfl)); clear F fa; intro fa F
      refine F.x (i := 8) rfl (fun w' => R_move rfl (F.at rfl)) (fun _ => eT) ?_ (hw := (wantT F rfl rfl (by decide) rfl)); clear F fa; intro fa F
      refine F.x (i := 9) rfl (fun w' => R_move rfl (F.at rfl)) (fun _ => eT) ?_ (hw := (wantT F rfl rfl (by decide) rfl)); clear F fa; intro fa F
      obtain ⟨xb18, xo18, xa18, xr18⟩ := HQS.out i (by omega)
      refine F.x (i := 10) rfl (fun w' => R_ixSlice (sz := 1) rfl ((F.at rfl).trans (xa18 _ _)) (F.at rfl) Try.underlying22 (by kernel_rfl) (by omega) (by omega)) (fun _ => eT) ?_ (hw := (wantT F rfl rfl (by decide) rfl)); clear F fa; intro fa F
      refine F.xr (i := 11) rfl (fun w' hS => R_load rfl (F.at rfl) Try.underlying25 rfl (xr18 _ (EQ_.nil hS) 0 _ rfl)) (fun _ => eT) ?_ (hw := (wantT F rfl rfl (by decide) rfl)); clear F fa; intro fa F
      rw [hma] at F
      refine F.x (i := 12) rfl (fun w' => R_move rfl (F.at rfl)) (fun _ => eT) ?_ (hw := (wantT F rfl rfl (by decide) rfl)); clear F fa; intro fa F
      refine F.x (i := 13) rfl (fun w' => R_move rfl (F.at rfl)) (fun _ => eT) ?_ (hw := (wantT F rfl rfl (by decide) rfl)); clear F fa; intro fa F
      refine F.x (i := 14) rfl (fun w' => R_field rfl (F.at rfl) Try.underlying24 rfl (n := 3) (sz := 1) rfl (by kernel_rfl) (by decide)) (fun _ => eT) ?_ (hw := (wantT F rfl rfl (by decide) rfl)); clear F fa; intro fa F
      refine F.xr (i := 15) rfl (fun w' hS => R_load rfl (F.at rfl) Try.underlying3 rfl ((cells_of_block (hS.keep q4_ (by simp)) 3).trans (getS (getS (getS (get0)))))) (fun _ => eT) ?_ (hw := (wantT F rfl rfl (by decide) rfl)); clear F fa; intro fa F
      refine ax_only (i := 16) (by kernel_rfl) (op_call F rfl rfl (by decide) (wantT F rfl rfl (by decide) rfl) (R_callV rfl rfl Try.call36 (mpS (F.at rfl) (mpS (F.at rfl) (mpS (F.at rfl) (mpS (F.at rfl) (mpS (F.at rfl) mp0)))))) (right_ok x HV.out m hm1 hm2 s HSO.out ls HLO.out.2.1 (by omega) ma2 sa la mca sc lc _ (HXD.out.ext ED) (HMR.out.ext EQ (by simp)) (HSR.out.ext ED (by simp)) (HLR.out.ext ED (by simp))) fun e w13 hR => ?_)
      obtain ⟨rfl, e9⟩ := hR
      refine ⟨_, rfl, ?_⟩; clear F fa; intro fa F
      replace q4 := (e9).keep0 q4
      replace E := ext_same E (e9)
      replace ED := ext_same ED (e9)
      replace EM := ext_same EM (e9)
      replace EQ := ext_same EQ (e9)
      replace eT := ext_same eT (e9)
      clear e9
      refine ⟨fun _ => eT, ?_⟩
      refine F.x (i := 17) rfl (fun w' => R_not rfl (F.at rfl)) (fun _ => eT) ?_ (hw := (wantT F rfl rfl (by decide) rfl)); clear F fa; intro fa F
      refine F.x (i := 18) rfl (fun w' => R_pickF rfl (F.at rfl) (F.at rfl)) (fun _ => eT) ?_; clear F fa; intro fa F
      refine ax_done (by kernel_rfl) ?_ _
      clear eT q4_ E_ ED_ EM_ EQ_
      refine hK16 _ _ ?_
      clear hK16
      try (rw [if_neg (by rw [cnd_gc hcm]; decide), List.append_nil] at htl; rw [← htl] at F)
      refine cd_b F rfl (fun hc59 => ?_) (fun hc59 => ?_)
      · skip
        rw [if_neg (by rw [cnd_mat (bnot_t hc59)]; decide), List.append_nil] at htl
        rw [← htl] at F
        refine wp_exit ?_
        refine hK14 _ _ ?_
        clear hK14
        refine wp_region_lit ?_
        refine F.mv ?_; clear F fa; intro fa F
        refine F.vl (R_add rfl (F.at rfl) (ev_c fa _) (by omega) (by omega)) ?_; clear F fa; intro fa F
        refine F.as ?_; clear F fa; intro fa F
        refine wpList_nil ?_
        show _ ∧ _
        exact ⟨by omega, _, ⟨rfl, E, ED, EM, EQ, q4⟩, F.sub (.c 10 rfl (.c 11 rfl (.c 4 rfl (.c 5 rfl (.c 6 rfl (.c 7 rfl (.c 9 rfl .n)))))))⟩
      · skip
        have hcy := cnd_yes hcm (bnot_f hc59)
        obtain ⟨hat1, hat2⟩ := filt_at (p := cndE x (val s) ls) hil (by rw [hmk]; exact hcy)
        rw [← hMQ] at hat1 hat2
        rw [hmk] at hat2
        rw [if_pos hcy] at htl
        obtain ⟨at', hat⟩ : ∃ k, k = (((Q.map (·.2)).take i).filter (cndE x (val s) ls)).length := ⟨_, rfl⟩
        rw [← hat] at F hat1 hat2
        rw [List.length_map] at hat1
        rw [key_getD M hat1] at hat2
        have hln : (((Q.map (·.2)).take (i + 1)).filter (cndE x (val s) ls)).length = at' + 1 := by rw [htl, List.length_append, ← hat]; rfl
        refine wp_skip ?_
        refine hK15 _ _ ?_
        clear hK15
        refine wp_seq_k fun K19 hK19 => ?_
        refine wp_seq_k fun K20 hK20 => ?_
        obtain ⟨ga, gca, hga, hgr⟩ := HM.out.2 _ (getD_mem (.bool true, []) hat1)
        have HGR := Lib.hid hgr
        rw [hat2] at hga HGR
        refine region_x (Ext [] w13) none follows fun w14 hh eh => ?_
        have q4_ := q4
        replace q4 := keep_same hh q4
        have E_ := E
        have zEw14 := E.size
        replace E := ext_same E eh
        have ED_ := ED
        have zEDw14 := ED.size
        replace ED := ext_same ED eh
        have EM_ := EM
        have zEMw14 := EM.size
        replace EM := ext_same EM eh
        have EQ_ := EQ
        have zEQw14 := EQ.size
        replace EQ := ext_same EQ eh
        have eT := eh
        clear hh eh
        refine F.x (i := 0) rfl (fun w' => R_move rfl (F.at rfl)) (fun _ => eT) ?_; clear F fa; intro fa F
        refine F.x (i := 1) rfl (fun w' => R_move rfl (F.at rfl)) (fun _ => eT) ?_; clear F fa; intro fa F
        refine F.x (i := 2) rfl (fun w' => R_len rfl rfl (F.at rfl) Try.underlying22) (fun _ => eT) ?_; clear F fa; intro fa F
        refine F.x (i := 3) rfl (fun w' => R_geqB (b := false) rfl (F.at rfl) (F.at rfl) (decide_eq_false (by omega))) (fun _ => eT) ?_; clear F fa; intro fa F
        refine F.x (i := 4) rfl (fun w' => R_move rfl (F.at rfl)) (fun _ => eT) ?_; clear F fa; intro fa F
        refine F.x (i := 5) rfl (fun w' => R_move rfl (F.at rfl)) (fun _ => eT) ?_ (hw := (wantT F rfl rfl (by decide) rfl)); clear F fa; intro fa F
        refine F.x (i := 6) rfl (fun w' => R_move rfl (F.at rfl)) (fun _ => eT) ?_ (hw := (wantT F rfl rfl (by decide) rfl)); clear F fa; intro fa F
        obtain ⟨xb21, xo21, xa21, xr21⟩ := HMS.out at' (by omega)
        refine F.x (i := 7) rfl (fun w' => R_ixSlice (sz := 1) rfl ((F.at rfl).trans (xa21 _ _)) (F.at rfl) Try.underlying22 (by kernel_rfl) (by omega) (by omega)) (fun _ => eT) ?_ (hw := (wantT F rfl rfl (by decide) rfl)); clear F fa; intro fa F
        refine F.xr (i := 8) rfl (fun w' hS => R_load rfl (F.at rfl) Try.underlying25 rfl (xr21 _ (EM_.nil hS) 0 _ rfl)) (fun _ => eT) ?_ (hw := (wantT F rfl rfl (by decide) rfl)); clear F fa; intro fa F
        rw [hga] at F
        refine F.x (i := 9) rfl (fun w' => R_move rfl (F.at rfl)) (fun _ => eT) ?_ (hw := (wantT F rfl rfl (by decide) rfl)); clear F fa; intro fa F
        refine F.x (i := 10) rfl (fun w' => R_move rfl (F.at rfl)) (fun _ => eT) ?_ (hw := (wantT F rfl rfl (by decide) rfl)); clear F fa; intro fa F
        obtain ⟨xb22, xo22, xa22, xr22⟩ := HQS.out i (by omega)
        refine F.x (i := 11) rfl (fun w' => R_ixSlice (sz := 1) rfl ((F.at rfl).trans (xa22 _ _)) (F.at rfl) Try.underlying22 (by kernel_rfl) (by omega) (by omega)) (fun _ => eT) ?_ (hw := (wantT F rfl rfl (by decide) rfl)); clear F fa; intro fa F
        refine F.xr (i := 12) rfl (fun w' hS => R_load rfl (F.at rfl) Try.underlying25 rfl (xr22 _ (EQ_.nil hS) 0 _ rfl)) (fun _ => eT) ?_ (hw := (wantT F rfl rfl (by decide) rfl)); clear F fa; intro fa F
        rw [hma] at F
        refine ax_only (i := 13) (by kernel_rfl) (op_call F rfl rfl (by decide) (wantT F rfl rfl (by decide) rfl) (R_callV rfl rfl Try.call22 (mpS (F.at rfl) (mpS (F.at rfl) mp0))) (sameInts_any m m ga ma2 gca mca _ (HGR.out.ext EM (by simp)) (HMR.out.ext EQ (by simp)) (by omega) (by omega)) fun e w15 hR => ?_)
        obtain ⟨rfl, e9⟩ := hR
        refine ⟨_, rfl, ?_⟩; clear F fa; intro fa F
        replace q4 := (e9).keep0 q4
        replace E := ext_same E (e9)
        replace ED := ext_same ED (e9)
        replace EM := ext_same EM (e9)
        replace EQ := ext_same EQ (e9)
        replace eT := ext_same eT (e9)
        clear e9
        refine ⟨fun _ => eT, ?_⟩
        rw [decide_eq_true (rfl : m = m)] at F
        refine F.x (i := 14) rfl (fun w' => R_not rfl (F.at rfl)) (fun _ => eT) ?_ (hw := (wantT F rfl rfl (by decide) rfl)); clear F fa; intro fa F
        refine F.x (i := 15) rfl (fun w' => R_pickF rfl (F.at rfl) (F.at rfl)) (fun _ => eT) ?_; clear F fa; intro fa F
        refine ax_done (by kernel_rfl) ?_ _
        clear eT q4_ E_ ED_ EM_ EQ_
        refine hK20 _ _ ?_
        clear hK20
        refine cd_F F rfl ?_
        refine wp_skip ?_
        refine hK19 _ _ ?_
        clear hK19
        refine wp_region_lit ?_
        refine F.mv ?_; clear F fa; intro fa F
        refine F.vl (R_add rfl (F.at rfl) (ev_c fa _) (by omega) (by omega)) ?_; clear F fa; intro fa F
        rw [show ((at' : Nat) : Int) + 1 = (((((Q.map (·.2)).take (i + 1)).filter (cndE x (val s) ls)).length : Nat) : Int) by rw [hln]; rfl] at F
        refine F.as ?_; clear F fa; intro fa F
        refine wpList_nil ?_
        refine hK14 _ _ ?_
        clear hK14
        refine wp_region_lit ?_
        refine F.mv ?_; clear F fa; intro fa F
        refine F.vl (R_add rfl (F.at rfl) (ev_c fa _) (by omega) (by omega)) ?_; clear F fa; intro fa F
        refine F.as ?_; clear F fa; intro fa F
        refine wpList_nil ?_
        show _ ∧ _
        exact ⟨by omega, _, ⟨rfl, E, ED, EM, EQ, q4⟩, F.sub (.c 10 rfl (.c 11 rfl (.c 4 rfl (.c 5 rfl (.c 6 rfl (.c 7 rfl (.c 9 rfl .n)))))))⟩
    · skip
      refine region_x (Ext [] w10) none follows fun w16 hh eh => ?_
      have q4_ := q4
      replace q4 := keep_same hh q4
      have E_ := E
      have zEw16 := E.size
      replace E := ext_same E eh
      have ED_ := ED
      have zEDw16 := ED.size
      replace ED := ext_same ED eh
      have EM_ := EM
      have zEMw16 := EM.size
      replace EM := ext_same EM eh
      have EQ_ := EQ
      have zEQw16 := EQ.size
      replace EQ := ext_same EQ eh
      have eT := eh
      clear hh eh
      refine F.x (i := 0) rfl (fun w' => R_move rfl (F.at rfl)) (fun _ => eT) ?_; clear F fa; intro fa F
      refine F.x (i := 1) rfl (fun w' => R_move rfl (F.at rfl)) (fun _ => eT) ?_; clear F fa; intro fa F
      obtain ⟨xb23, xo23, xa23, xr23⟩ := HQS.out i (by omega)
      refine F.x (i := 2) rfl (fun w' => R_ixSlice (sz := 1) rfl ((F.at rfl).trans (xa23 _ _)) (F.at rfl) Try.underlying22 (by kernel_rfl) (by omega) (by omega)) (fun _ => eT) ?_; clear F fa; intro fa F
      refine F.xr (i := 3) rfl (fun w' hS => R_load rfl (F.at rfl) Try.underlying25 rfl (xr23 _ (EQ_.nil hS) 0 _ rfl)) (fun _ => eT) ?_; clear F fa; intro fa F
      rw [hma] at F
      refine ax_only (i := 4) (by kernel_rfl) (op_call F rfl rfl (by decide) rfl (R_callV rfl rfl Try.call38 (mpS (F.at rfl) mp0)) (common_any m hm2 (by omega) ma2 mca _ (HMR.out.ext EQ (by simp))) fun e w17 hR => ?_)
      obtain ⟨rfl, e9⟩ := hR
      refine ⟨_, rfl, ?_⟩; clear F fa; intro fa F
      replace q4 := (e9).keep0 q4
      replace E := ext_same E (e9)
      replace ED := ext_same ED (e9)
      replace EM := ext_same EM (e9)
      replace EQ := ext_same EQ (e9)
      replace eT := ext_same eT (e9)
      clear e9
      refine ⟨fun _ => eT, ?_⟩
      refine F.x (i := 5) rfl (fun w' => R_neqB (b := true) rfl (F.at rfl) (ev_c fa _) (decide_eq_false (by omega))) (fun _ => eT) ?_; clear F fa; intro fa F
      refine F.x (i := 6) rfl (fun w' => R_move rfl (F.at rfl)) (fun _ => eT) ?_; clear F fa; intro fa F
      refine ax_no (i := 7) F rfl rfl (by decide) (by kernel_rfl) (fun _ _ _ h => h) (wantF F rfl rfl (by decide) rfl (by decide)) (fun _ => eT) ?_; clear F fa; intro fa F
      refine ax_no (i := 8) F rfl rfl (by decide) (by kernel_rfl) (fun _ _ _ h => h) (wantF F rfl rfl (by decide) rfl (by decide)) (fun _ => eT) ?_; clear F fa; intro fa F
      refine ax_no (i := 9) F rfl rfl (by decide) (by kernel_rfl) (fun _ _ _ h => h) (wantF F rfl rfl (by decide) rfl (by decide)) (fun _ => eT) ?_; clear F fa; intro fa F
      refine ax_no (i := 10) F rfl rfl (by decide) (by kernel_rfl) (fun _ _ _ h => h) (wantF F rfl rfl (by decide) rfl (by decide)) (fun _ => eT) ?_; clear F fa; intro fa F
      refine ax_no (i := 11) F rfl rfl (by decide) (by kernel_rfl) (fun _ _ _ h => h) (wantF F rfl rfl (by decide) rfl (by decide)) (fun _ => eT) ?_; clear F fa; intro fa F
      refine ax_no (i := 12) F rfl rfl (by decide) (by kernel_rfl) (fun _ _ _ h => h) (wantF F rfl rfl (by decide) rfl (by decide)) (fun _ => eT) ?_; clear F fa; intro fa F
      refine ax_no (i := 13) F rfl rfl (by decide) (by kernel_rfl) (fun _ _ _ h => h) (wantF F rfl rfl (by decide) rfl (by decide)) (fun _ => eT) ?_; clear F fa; intro fa F
      refine ax_no (i := 14) F rfl rfl (by decide) (by kernel_rfl) (fun _ _ _ h => h) (wantF F rfl rfl (by decide) rfl (by decide)) (fun _ => eT) ?_; clear F fa; intro fa F
      refine ax_no (i := 15) F rfl rfl (by decide) (by kernel_rfl) (fun _ _ _ h => h) (wantF F rfl rfl (by decide) rfl (by decide)) (fun _ => eT) ?_; clear F fa; intro fa F
      refine ax_no (i := 16) F rfl rfl (by decide) (by kernel_rfl) (fun _ _ _ h => h) (wantF F rfl rfl (by decide) rfl (by decide)) (fun _ => eT) ?_; clear F fa; intro fa F
      refine ax_no (i := 17) F rfl rfl (by decide) (by kernel_rfl) (fun _ _ _ h => h) (wantF F rfl rfl (by decide) rfl (by decide)) (fun _ => eT) ?_; clear F fa; intro fa F
      refine F.x (i := 18) rfl (fun w' => R_pickT rfl (F.at rfl) (ev_c fa _)) (fun _ => eT) ?_; clear F fa; intro fa F
      refine ax_done (by kernel_rfl) ?_ _
      clear eT q4_ E_ ED_ EM_ EQ_
      refine hK16 _ _ ?_
      clear hK16
      try (rw [if_neg (by rw [cnd_gc hcm]; decide), List.append_nil] at htl; rw [← htl] at F)
      refine cd_T F rfl ?_
      refine wp_exit ?_
      refine hK14 _ _ ?_
      clear hK14
      refine wp_region_lit ?_
      refine F.mv ?_; clear F fa; intro fa F
      refine F.vl (R_add rfl (F.at rfl) (ev_c fa _) (by omega) (by omega)) ?_; clear F fa; intro fa F
      refine F.as ?_; clear F fa; intro fa F
      refine wpList_nil ?_
      show _ ∧ _
      exact ⟨by omega, _, ⟨rfl, E, ED, EM, EQ, q4⟩, F.sub (.c 10 rfl (.c 11 rfl (.c 4 rfl (.c 5 rfl (.c 6 rfl (.c 7 rfl (.c 9 rfl .n)))))))⟩
  · skip
    refine wp_exit ?_
    rw [List.take_of_length_le (show (Q.map (·.2)).length ≤ i by rw [List.length_map]; omega), ← hMQ, List.length_map] at F
    refine hK10 _ _ ?_
    clear hK10
    refine wp_seq_k fun K24 hK24 => ?_
    refine wp_region_lit ?_
    refine F.mv ?_; clear F fa; intro fa F
    refine F.mv ?_; clear F fa; intro fa F
    refine F.vl (R_len rfl rfl (F.at rfl) Try.underlying22) ?_; clear F fa; intro fa F
    refine F.vl (R_eqlB (b := true) rfl (F.at rfl) (F.at rfl) (decide_eq_true rfl)) ?_; clear F fa; intro fa F
    refine F.mv ?_; clear F fa; intro fa F
    refine sq_call F rfl (by decide) (wantT F rfl rfl (by decide) rfl) (R_callV rfl rfl Try.call12 mp0) (dyed_any _) fun e w18 hR => ?_
    obtain ⟨rfl, e9⟩ := hR
    refine ⟨_, rfl, ?_⟩; clear F fa; intro fa F
    replace q4 := (e9).keep0 q4
    replace E := ext_same E (e9)
    replace ED := ext_same ED (e9)
    replace EM := ext_same EM (e9)
    replace EQ := ext_same EQ (e9)
    clear e9
    refine F.vl (R_pickT rfl (F.at rfl) (F.at rfl)) ?_; clear F fa; intro fa F
    refine F.as ?_; clear F fa; intro fa F
    refine wpList_nil ?_
    refine hK24 _ _ ?_
    clear hK24
    refine wp_ret ?_
    (try simp only [Exit.inBlock, Exit.then, reduceIte])
    refine rt_v F (rs_1 F rfl rfl) ?_
    exact ⟨rfl, E⟩
end Go.Proofs.Ytdjeecgddbjbeaa
