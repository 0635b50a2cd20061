/- The law DyeFewest: Fewest is one of Recipes, and none of these is better. No conditions. -/
import Derived.Test.YtdjeecgddbjbeaaDle
import Derived.Test.YtdjeecgddbjbeaaDdw
import Derived.Test.YtdjeecgddbjbeaaDkv
namespace Go.Proofs.Ytdjeecgddbjbeaa
open Go.RowKit
set_option linter.unusedVariables false
set_option linter.unusedSimpArgs false
set_option maxRecDepth 100000 in
set_option maxHeartbeats 4000000 in
theorem dyeFewest_walk (a0 : Option Addr) (len0 cap0 : Nat) (z0 : List Int) (w : World) (h : IsRow .i64 w a0 len0 cap0 z0) : Calls Try.prog 7 #[.slice a0 len0 cap0] w fun e w' => e = .returned (.bool true) ∧ Ext [] w w' := by
  have E : Ext [] w w := Ext.refl _ _
  refine calls_has 126 Try.func7 rfl Try.ntmps7 (Nat.le_of_ble_eq_true rfl) ?_
  intro fa F
  refine wp_seq_k fun K1 hK1 => ?_
  refine wp_region_lit ?_
  refine F.vl (R_assign rfl (ev_c fa _)) ?_; clear F fa; intro fa F
  refine wpList_nil ?_
  refine hK1 _ _ ?_
  clear hK1
  refine wp_seq_k fun K2 hK2 => ?_
  refine wp_region_lit ?_
  refine F.mv ?_; clear F fa; intro fa F
  refine sq_call F rfl (by decide) rfl (R_callV rfl rfl Try.call13 (mpS (F.at rfl) mp0)) (newLots_any w a0 len0 cap0 z0 h) fun e w1 hR => ?_
  obtain ⟨b, rfl, hbw0, hbw1, HL, e9⟩ := hR
  refine ⟨_, rfl, ?_⟩; clear F fa; intro fa F
  replace E := ext_same E (e9)
  clear e9
  refine F.as ?_; clear F fa; intro fa F
  refine wpList_nil ?_
  refine hK2 _ _ ?_
  clear hK2
  refine wp_seq_k fun K3 hK3 => ?_
  refine wp_region_lit ?_
  refine F.mv ?_; clear F fa; intro fa F
  refine sq_call F rfl (by decide) rfl (R_callV rfl rfl Try.call33 (mpS (F.at rfl) (mpS (ev_c fa _) mp0))) (vatOf_any 4 (by decide) (by decide) w _ b _ _ HL (by omega)) fun e w2 hR => ?_
  obtain ⟨x, rfl, hv, hd3, hxb, HL, e9⟩ := hR
  refine ⟨_, rfl, ?_⟩; clear F fa; intro fa F
  replace E := E.trans' e9 (fun i hi hl => by simp only [List.mem_cons, List.not_mem_nil, or_false] at hi ⊢; omega)
  have HV := Lib.hid hv
  have HXB := Lib.hid hxb
  obtain ⟨wV, hwV⟩ : ∃ wV, wV = w2 := ⟨_, rfl⟩
  have EV : Ext [b] wV w2 := by rw [hwV]; exact Ext.refl _ _
  rw [← hwV] at HXB
  clear hv hxb
  refine sq_new F rfl (by decide) rfl (R_alloc rfl Try.zeroValue24) ?_; clear F fa; intro fa w3 F hw
  obtain ⟨n4, hn⟩ : ∃ n, n = w2.heap.size := ⟨_, rfl⟩
  rw [← hn] at F
  have s4 : w2.heap.size ≤ n4 := Nat.le_of_eq hn.symm
  have l4_E : w.heap.size ≤ n4 := by rw [hn]; exact E.size
  have l4_EV : wV.heap.size ≤ n4 := by rw [hn]; exact EV.size
  have b4_HL := Nat.lt_of_lt_of_eq (lots_lt HL) hn.symm
  replace E := ext_alloc E hw
  replace EV := ext_alloc EV hw
  replace HL := lots_alloc hw HL
  have q4 := new_row hw hn
  clear hw hn
  refine sq_to rfl rfl (R_storeRow rfl (F.at rfl) (F.at rfl) (by kernel_rfl) (by first | (simp [Value.oneCell']; done) | (simp [Value.oneCell', id]; done)) q4 rfl) ?_; intro w4 hw
  replace q4 := put_row hw q4 rfl
  replace E := ext_cells E hw (fun h => by first | exact absurd h (by omega) | simp)
  replace EV := ext_cells EV hw (fun h => by first | exact absurd h (by omega) | simp)
  replace HL := lots_cells hw HL (by omega) (by omega)
  clear hw
  refine wpList_nil ?_
  refine hK3 _ _ ?_
  clear hK3
  refine wp_seq_k fun K4 hK4 => ?_
  refine region_x (Ext [b] w4) none follows fun w5 hh eh => ?_
  have q4_ := q4
  replace q4 := keep_same hh q4
  have E_ := E
  have zEw5 := E.size
  replace E := ext_same E eh
  have EV_ := EV
  have zEVw5 := EV.size
  replace EV := ext_same EV eh
  have zbw5 := lots_lt HL
  replace HL := lots_ext eh HL
  have eT := eh.mono (Y := [b]) (by simp)
  clear hh eh
  refine F.x (i := 0) rfl (fun w' => R_move rfl (F.at rfl)) (fun _ => eT) ?_; clear F fa; intro fa F
  refine F.xr (i := 1) rfl (fun w' hS => R_loadBlk rfl (F.at rfl) Try.underlying24 rfl (by kernel_rfl) (hS.keep q4_ (by simp; omega))) (fun _ => eT) ?_; clear F fa; intro fa F
  refine F.x (i := 3) rfl (fun w' => R_move rfl (F.at rfl)) (fun _ => eT) ?_; clear F fa; intro fa F
  refine F.xr (i := 4) rfl (fun w' hS => R_loadBlk rfl (F.at rfl) Try.underlying24 rfl (by kernel_rfl) (hS.keep q4_ (by simp; omega))) (fun _ => eT) ?_; clear F fa; intro fa F
  obtain ⟨B2, hB2⟩ : ∃ B2, B2 = w5.heap.size := ⟨_, rfl⟩
  have hb2 : b < B2 := by rw [hB2]; exact lots_lt HL
  refine ax_only (i := 2) (by kernel_rfl) (op_call F rfl rfl (by decide) rfl (R_callV rfl rfl Try.call16 (mpS (F.at rfl) (mpS (F.at rfl) mp0))) (sampleOf_any x HV.out w _ b _ _ HL (by omega) (HXB.out.ext EV)) fun e w6 hR => ?_)
  obtain ⟨sa, sc, s, rfl, hs, so, HL, e9⟩ := hR
  refine ⟨_, rfl, ?_⟩; clear F fa; intro fa F
  replace q4 := (e9).keep q4 (by simp; omega)
  replace E := E.trans' e9 (fun i hi hl => by simp only [List.mem_cons, List.not_mem_nil, or_false] at hi ⊢; omega)
  replace EV := EV.trans' e9 (fun i hi hl => by simp only [List.mem_cons, List.not_mem_nil, or_false] at hi ⊢; omega)
  replace eT := eT.trans' e9 (fun i hi hl => by simp only [List.mem_cons, List.not_mem_nil, or_false] at hi ⊢; omega)
  refine ⟨fun _ => eT, ?_⟩
  rw [← hB2] at so
  obtain ⟨B3, hB3⟩ : ∃ B3, B3 = w6.heap.size := ⟨_, rfl⟩
  have hb3 : b < B3 := by rw [hB3]; exact lots_lt HL
  refine ax_only (i := 5) (by kernel_rfl) (op_call F rfl rfl (by decide) rfl (R_callV rfl rfl Try.call17 (mpS (F.at rfl) (mpS (F.at rfl) mp0))) (lampsOf_any x HV.out w _ b _ _ HL (by omega)) fun e w7 hR => ?_)
  obtain ⟨la, lc, ls, rfl, hl, hl3, lo, HL, e9⟩ := hR
  refine ⟨_, rfl, ?_⟩; clear F fa; intro fa F
  replace so := owns_ext so (e9) (by simp; omega)
  replace q4 := (e9).keep q4 (by simp; omega)
  replace E := E.trans' e9 (fun i hi hl => by simp only [List.mem_cons, List.not_mem_nil, or_false] at hi ⊢; omega)
  replace EV := EV.trans' e9 (fun i hi hl => by simp only [List.mem_cons, List.not_mem_nil, or_false] at hi ⊢; omega)
  replace eT := eT.trans' e9 (fun i hi hl => by simp only [List.mem_cons, List.not_mem_nil, or_false] at hi ⊢; omega)
  refine ⟨fun _ => eT, ?_⟩
  rw [← hB3] at lo
  refine F.x (i := 6) rfl (fun w' => R_assign rfl (F.at rfl)) (fun _ => eT) ?_; clear F fa; intro fa F
  refine F.x (i := 7) rfl (fun w' => R_assign rfl (F.at rfl)) (fun _ => eT) ?_; clear F fa; intro fa F
  refine ax_done (by kernel_rfl) ?_ _
  clear eT q4_ E_ EV_
  have hxd := HXB.out _ EV
  have HSR := Lib.hid (rows_of_ivs so rfl)
  have HLR := Lib.hid (rows_of_ivs lo rfl)
  have HXD := Lib.hid hxd
  obtain ⟨wD, hwD⟩ : ∃ wD, wD = w7 := ⟨_, rfl⟩
  have ED : Ext [] wD w7 := by rw [hwD]; exact Ext.refl _ _
  rw [← hwD] at HXD HSR HLR
  clear hxd so lo HL EV
  have HSO := Lib.hid hs
  have HLO := Lib.hid hl
  clear hs hl
  refine hK4 _ _ ?_
  clear hK4
  refine wp_seq_k fun K5 hK5 => ?_
  refine wp_region_lit ?_
  refine F.vl (R_loadBlk rfl (F.at rfl) Try.underlying24 rfl (by kernel_rfl) q4) ?_; clear F fa; intro fa F
  refine F.mv ?_; clear F fa; intro fa F
  refine F.mv ?_; clear F fa; intro fa F
  refine sq_call F rfl (by decide) rfl (R_callV rfl rfl Try.call37 (mpS (F.at rfl) (mpS (F.at rfl) (mpS (F.at rfl) mp0)))) (xRecipes_ok x HV.out s HSO.out ls HLO.out (by omega) sa la sc lc _ (HXD.out.ext ED) (HSR.out.ext ED (by simp)) (HLR.out.ext ED (by simp))) fun e w8 hR => ?_
  obtain ⟨M, mb, mc, rfl, hM, om, fam, e9⟩ := hR
  refine ⟨_, rfl, ?_⟩; clear F fa; intro fa F
  replace q4 := (e9).keep0 q4
  replace E := ext_same E (e9)
  replace ED := ext_same ED (e9)
  clear e9
  have HM := Lib.hid (lol_of_own om fam)
  have HMS := Lib.hid (lol_of_own om fam).1
  obtain ⟨wM, hwM⟩ : ∃ wM, wM = w8 := ⟨_, rfl⟩
  have EM : Ext [] wM w8 := by rw [hwM]; exact Ext.refl _ _
  rw [← hwM] at HM HMS
  clear om fam
  have hMl : M.length ≤ 500 := by rw [← List.length_map (f := fun p : Value × List Int => p.2), hM]; exact mat_len HV.out
  obtain ⟨L, hLd⟩ : ∃ L, L = matL x (val s) ls := ⟨_, rfl⟩
  rw [← hLd] at hM
  have hML : M.length = L.length := by rw [← hM, List.length_map]
  have hLB : RowKit.Hid (∀ t ∈ L, t.length = x.D.length ∧ ∀ n ∈ t, 0 ≤ n ∧ n ≤ 6) := Lib.hid (fun t ht => by rw [hLd] at ht; have h1 := (recL_all x.D.length (by have := HV.out.d4; omega)).2 t (List.mem_filter.1 ht).1; exact ⟨h1.1, h1.2.2.2.2.2⟩)
  have hLS := Lib.hid (mat_sorted (x := x) (by have := HV.out.d4; omega) (val s) ls)
  rw [← hLd] at hLS
  refine F.mv ?_; clear F fa; intro fa F
  refine F.vl (R_extract rfl (F.at rfl) (get0)) ?_; clear F fa; intro fa F
  refine F.vl (R_extract rfl (F.at rfl) (getS (get0))) ?_; clear F fa; intro fa F
  refine F.as ?_; clear F fa; intro fa F
  refine F.as ?_; clear F fa; intro fa F
  refine wpList_nil ?_
  refine hK5 _ _ ?_
  clear hK5
  refine wp_seq_k fun K6 hK6 => ?_
  refine wp_region_lit ?_
  refine F.vl (R_loadBlk rfl (F.at rfl) Try.underlying24 rfl (by kernel_rfl) q4) ?_; clear F fa; intro fa F
  refine F.mv ?_; clear F fa; intro fa F
  refine F.mv ?_; clear F fa; intro fa F
  obtain ⟨g, hg⟩ : ∃ g, g = fewR x (val s) ls := ⟨_, rfl⟩
  have hfw := xFewest_ok x HV.out s HSO.out ls HLO.out (by omega) sa la sc lc w8 (HXD.out.ext ED) (HSR.out.ext ED (by simp)) (HLR.out.ext ED (by simp))
  rw [← hg] at hfw
  refine sq_call F rfl (by decide) rfl (R_callV rfl rfl Try.call39 (mpS (F.at rfl) (mpS (F.at rfl) (mpS (F.at rfl) mp0)))) (hfw) fun e w9 hR => ?_
  obtain ⟨ga, gc, rfl, og, e9⟩ := hR
  refine ⟨_, rfl, ?_⟩; clear F fa; intro fa F
  replace q4 := (e9).keep0 q4
  replace E := ext_same E (e9)
  replace ED := ext_same ED (e9)
  replace EM := ext_same EM (e9)
  clear e9
  have HG := Lib.hid (rows_of_ivs og rfl)
  obtain ⟨wG, hwG⟩ : ∃ wG, wG = w9 := ⟨_, rfl⟩
  have EG : Ext [] wG w9 := by rw [hwG]; exact Ext.refl _ _
  rw [← hwG] at HG
  clear og hfw
  refine F.mv ?_; clear F fa; intro fa F
  refine F.vl (R_extract rfl (F.at rfl) (get0)) ?_; clear F fa; intro fa F
  refine F.vl (R_extract rfl (F.at rfl) (getS (get0))) ?_; clear F fa; intro fa F
  refine F.as ?_; clear F fa; intro fa F
  refine F.as ?_; clear F fa; intro fa F
  refine wpList_nil ?_
  refine hK6 _ _ ?_
  clear hK6
  refine wp_seq_k fun K7 hK7 => ?_
  refine wp_seq_k fun K8 hK8 => ?_
  refine wp_region_lit ?_
  refine F.mv ?_; clear F fa; intro fa F
  refine F.vl (R_neqB (b := false) rfl (F.at rfl) (ev_c fa _) (by decide)) ?_; clear F fa; intro fa F
  refine wpList_nil ?_
  refine hK8 _ _ ?_
  clear hK8
  refine cd_F F rfl ?_
  refine wp_skip ?_
  refine hK7 _ _ ?_
  clear hK7
  refine wp_seq_k fun K9 hK9 => ?_
  refine wp_seq_k fun K10 hK10 => ?_
  refine wp_region_lit ?_
  refine F.mv ?_; clear F fa; intro fa F
  refine F.vl (R_len rfl rfl (F.at rfl) Try.underlying22) ?_; clear F fa; intro fa F
  refine F.vl (R_eqlD rfl (F.at rfl) (ev_c fa _)) ?_; clear F fa; intro fa F
  refine wpList_nil ?_
  refine hK10 _ _ ?_
  clear hK10
  refine cd_if F rfl (fun hc45 => ?_) (fun hc45 => ?_)
  · skip
    have hge : g = ([], 11) := by rw [hg, fewR, ← hLd, show L = [] from List.length_eq_zero_iff.1 (by omega)]; rfl
    refine wp_seq_k fun K11 hK11 => ?_
    refine wp_region_lit ?_
    refine F.mv ?_; clear F fa; intro fa F
    refine F.vl (R_eqlB (b := true) rfl (F.at rfl) (ev_c fa _) (decide_eq_true (by rw [hge]))) ?_; clear F fa; intro fa F
    refine F.mv ?_; clear F fa; intro fa F
    refine F.mv ?_ (hw := (wantT F rfl rfl (by decide) rfl)); clear F fa; intro fa F
    refine F.vl (R_len rfl rfl (F.at rfl) Try.underlying25) ?_ (hw := (wantT F rfl rfl (by decide) rfl)); clear F fa; intro fa F
    refine F.vl (R_eqlB (b := true) rfl (F.at rfl) (ev_c fa _) (decide_eq_true (by rw [hge]; rfl))) ?_ (hw := (wantT F rfl rfl (by decide) rfl)); clear F fa; intro fa F
    refine F.vl (R_pickT rfl (F.at rfl) (F.at rfl)) ?_; clear F fa; intro fa F
    refine F.mv ?_; clear F fa; intro fa F
    refine sq_call F rfl (by decide) (wantT F rfl rfl (by decide) rfl) (R_callV rfl rfl Try.call12 mp0) (dyed_any _) fun e w10 hR => ?_
    obtain ⟨rfl, e9⟩ := hR
    refine ⟨_, rfl, ?_⟩; clear F fa; intro fa F
    replace q4 := (e9).keep0 q4
    replace E := ext_same E (e9)
    replace ED := ext_same ED (e9)
    replace EM := ext_same EM (e9)
    replace EG := ext_same EG (e9)
    clear e9
    refine F.vl (R_pickT rfl (F.at rfl) (F.at rfl)) ?_; clear F fa; intro fa F
    refine F.as ?_; clear F fa; intro fa F
    refine wpList_nil ?_
    refine hK11 _ _ ?_
    clear hK11
    refine wp_ret ?_
    (try simp only [Exit.inBlock, Exit.then, reduceIte])
    refine rt_v F (rs_1 F rfl rfl) ?_
    exact ⟨rfl, E⟩
  · skip
    refine wp_skip ?_
    refine hK9 _ _ ?_
    clear hK9
    refine wp_seq_k fun K12 hK12 => ?_
    refine wp_region_lit ?_
    refine F.vl (R_assign rfl (ev_c fa _)) ?_; clear F fa; intro fa F
    rw [show (0 : Int) = ((0 : Nat) : Int) from rfl] at F
    refine wpList_nil ?_
    refine hK12 _ _ ?_
    clear hK12
    refine wp_seq_k fun K13 hK13 => ?_
    refine wp_seq_k fun K14 hK14 => ?_
    refine wp_region_lit ?_
    refine F.vl (R_assign rfl (ev_c fa _)) ?_; clear F fa; intro fa F
    refine wpList_nil ?_
    replace F := F.re (k := 12) rfl (show Value.int .i64 0 = .int .i64 ((0 : Nat) : Int) from rfl)
    refine hK14 _ _ ?_
    clear hK14
    refine wp_block ?_
    have F0 := F.sub (.c 7 rfl (.c 9 rfl (.c 10 rfl .n)))
    refine lp_for F0 (M.length) (fun i Lv W => ∃ bk : Nat, Lv = [(11, .int .i64 ((bk : Nat) : Int)), (12, .int .i64 ((i : Nat) : Int))] ∧ Ext [] w W ∧ Ext [] wD W ∧ Ext [] wM W ∧ Ext [] wG W ∧ W.heap[n4]? = some (.cells #[.int .i64 x.B, .slice x.da x.D.length x.dc, .slice x.la x.L.length x.lc, .int .i64 x.tol] 24 (0, 0)) ∧ FewAt L i bk) ⟨_, ⟨0, rfl, E, ED, EM, EG, q4, (⟨by omega, .inl ⟨rfl, rfl⟩⟩)⟩, F.sub (.c 11 rfl (.c 12 rfl (.c 7 rfl (.c 9 rfl (.c 10 rfl .n)))))⟩ ?_
    clear F F0
    clear E ED EM EG q4
    rintro i _ fa w11 hi1 ⟨bk, rfl, E, ED, EM, EG, q4, hfa⟩ F
    refine wp_seq_k fun K15 hK15 => ?_
    refine wp_seq_k fun K16 hK16 => ?_
    refine wp_region_lit ?_
    refine F.mv ?_; clear F fa; intro fa F
    refine F.mv ?_; clear F fa; intro fa F
    refine F.vl (R_len rfl rfl (F.at rfl) Try.underlying22) ?_; clear F fa; intro fa F
    refine F.vl (R_lss rfl (F.at rfl) (F.at rfl)) ?_; clear F fa; intro fa F
    refine wpList_nil ?_
    refine hK16 _ _ ?_
    clear hK16
    refine cd_if F rfl (fun hc59 => ?_) (fun hc59 => ?_)
    · skip
      have hbk := hfa.1
      have hil : i < L.length := by omega
      obtain ⟨ma2, mca, hma, hmr⟩ := HM.out.2 _ (getD_mem (.bool true, []) (show i < M.length by omega))
      have hmk := key_getD M (show i < M.length by omega)
      rw [hM] at hmk
      rw [← hmk] at hma hmr
      have HMR := Lib.hid hmr
      obtain ⟨mb2, mcb, hmb, hbr⟩ := HM.out.2 _ (getD_mem (.bool true, []) (show bk < M.length by omega))
      have hbm := key_getD M (show bk < M.length by omega)
      rw [hM] at hbm
      rw [← hbm] at hmb hbr
      have HBR := Lib.hid hbr
      obtain ⟨hi1, hi2⟩ := hLB.out _ (getD_memL [] hil)
      obtain ⟨hb1, hb2⟩ := hLB.out _ (getD_memL [] hbk)
      have hd4 := HV.out.d4
      obtain ⟨hu1, hu2⟩ := used_cF (l := L.getD i []) (by omega) (fun n hn => (hi2 n hn).1)
      obtain ⟨hv1, hv2⟩ := used_cF (l := L.getD bk []) (by omega) (fun n hn => (hb2 n hn).1)
      refine wp_skip ?_
      refine hK15 _ _ ?_
      clear hK15
      refine wp_seq_k fun K17 hK17 => ?_
      refine wp_block ?_
      refine wp_seq_k fun K18 hK18 => ?_
      refine wp_region_lit ?_
      refine F.mv ?_; clear F fa; intro fa F
      refine F.mv ?_; clear F fa; intro fa F
      obtain ⟨xb19, xo19, xa19, xr19⟩ := HMS.out i (by omega)
      refine F.vl (R_ixSlice (sz := 1) rfl ((F.at rfl).trans (xa19 _ _)) (F.at rfl) Try.underlying22 (by kernel_rfl) (by omega) (by omega)) ?_; clear F fa; intro fa F
      refine F.vl (R_load rfl (F.at rfl) Try.underlying25 rfl (xr19 _ EM 0 _ rfl)) ?_; clear F fa; intro fa F
      rw [hma] at F
      refine sq_call F rfl (by decide) rfl (R_callV rfl rfl Try.call34 (mpS (F.at rfl) mp0)) (used_any (L.getD i []) hi2 (by omega) ma2 mca _ (HMR.out.ext EM (by simp))) fun e w12 hR => ?_
      obtain ⟨rfl, e9⟩ := hR
      refine ⟨_, rfl, ?_⟩; clear F fa; intro fa F
      replace q4 := (e9).keep0 q4
      replace E := ext_same E (e9)
      replace ED := ext_same ED (e9)
      replace EM := ext_same EM (e9)
      replace EG := ext_same EG (e9)
      clear e9
      rw [hu1, hu2] at F
      refine F.mv ?_; clear F fa; intro fa F
      refine F.vl (R_extract rfl (F.at rfl) (get0)) ?_; clear F fa; intro fa F
      refine F.vl (R_extract rfl (F.at rfl) (getS (get0))) ?_; clear F fa; intro fa F
      refine F.as ?_; clear F fa; intro fa F
      refine F.as ?_; clear F fa; intro fa F
      refine wpList_nil ?_
      refine hK18 _ _ ?_
      clear hK18
      refine wp_seq_k fun K20 hK20 => ?_
      refine wp_region_lit ?_
      refine F.mv ?_; clear F fa; intro fa F
      refine F.mv ?_; clear F fa; intro fa F
      obtain ⟨xb21, xo21, xa21, xr21⟩ := HMS.out bk (by omega)
      refine F.vl (R_ixSlice (sz := 1) rfl ((F.at rfl).trans (xa21 _ _)) (F.at rfl) Try.underlying22 (by kernel_rfl) (by omega) (by omega)) ?_; clear F fa; intro fa F
      refine F.vl (R_load rfl (F.at rfl) Try.underlying25 rfl (xr21 _ EM 0 _ rfl)) ?_; clear F fa; intro fa F
      rw [hmb] at F
      refine sq_call F rfl (by decide) rfl (R_callV rfl rfl Try.call34 (mpS (F.at rfl) mp0)) (used_any (L.getD bk []) hb2 (by omega) mb2 mcb _ (HBR.out.ext EM (by simp))) fun e w13 hR => ?_
      obtain ⟨rfl, e9⟩ := hR
      refine ⟨_, rfl, ?_⟩; clear F fa; intro fa F
      replace q4 := (e9).keep0 q4
      replace E := ext_same E (e9)
      replace ED := ext_same ED (e9)
      replace EM := ext_same EM (e9)
      replace EG := ext_same EG (e9)
      clear e9
      rw [hv1, hv2] at F
      refine F.mv ?_; clear F fa; intro fa F
      refine F.vl (R_extract rfl (F.at rfl) (get0)) ?_; clear F fa; intro fa F
      refine F.vl (R_extract rfl (F.at rfl) (getS (get0))) ?_; clear F fa; intro fa F
      refine F.as ?_; clear F fa; intro fa F
      refine F.as ?_; clear F fa; intro fa F
      refine wpList_nil ?_
      refine hK20 _ _ ?_
      clear hK20
      refine wp_seq_k fun K22 hK22 => ?_
      by_cases h1 : (cF (L.getD i [])).1 < (cF (L.getD bk [])).1
      · skip
        refine region_x (Ext [] w13) none follows fun w14 hh eh => ?_
        have q4_ := q4
        replace q4 := keep_same hh q4
        have E_ := E
        have zEw14 := E.size
        replace E := ext_same E eh
        have ED_ := ED
        have zEDw14 := ED.size
        replace ED := ext_same ED eh
        have EM_ := EM
        have zEMw14 := EM.size
        replace EM := ext_same EM eh
        have EG_ := EG
        have zEGw14 := EG.size
        replace EG := ext_same EG eh
        have eT := eh
        clear hh eh
        refine F.x (i := 0) rfl (fun w' => R_move rfl (F.at rfl)) (fun _ => eT) ?_; clear F fa; intro fa F
        refine F.x (i := 1) rfl (fun w' => R_move rfl (F.at rfl)) (fun _ => eT) ?_; clear F fa; intro fa F
        refine F.x (i := 2) rfl (fun w' => R_lssB (b := true) rfl (F.at rfl) (F.at rfl) (decide_eq_true (by omega))) (fun _ => eT) ?_; clear F fa; intro fa F
        refine F.x (i := 3) rfl (fun w' => R_move rfl (F.at rfl)) (fun _ => eT) ?_; clear F fa; intro fa F
        refine ax_no (i := 4) F rfl rfl (by decide) (by kernel_rfl) (fun _ _ _ h => h) (wantF F rfl rfl (by decide) rfl (by decide)) (fun _ => eT) ?_; clear F fa; intro fa F
        refine ax_no (i := 5) F rfl rfl (by decide) (by kernel_rfl) (fun _ _ _ h => h) (wantF F rfl rfl (by decide) rfl (by decide)) (fun _ => eT) ?_; clear F fa; intro fa F
        refine ax_no (i := 6) F rfl rfl (by decide) (by kernel_rfl) (fun _ _ _ h => h) (wantF F rfl rfl (by decide) rfl (by decide)) (fun _ => eT) ?_; clear F fa; intro fa F
        refine ax_no (i := 7) F rfl rfl (by decide) (by kernel_rfl) (fun _ _ _ h => h) (wantF F rfl rfl (by decide) rfl (by decide)) (fun _ => eT) ?_; clear F fa; intro fa F
        refine ax_no (i := 8) F rfl rfl (by decide) (by kernel_rfl) (fun _ _ _ h => h) (wantU F rfl rfl (by decide) rfl) (fun _ => eT) ?_; clear F fa; intro fa F
        refine ax_no (i := 9) F rfl rfl (by decide) (by kernel_rfl) (fun _ _ _ h => h) (wantU F rfl rfl (by decide) rfl) (fun _ => eT) ?_; clear F fa; intro fa F
        refine ax_no (i := 10) F rfl rfl (by decide) (by kernel_rfl) (fun _ _ _ h => h) (wantU F rfl rfl (by decide) rfl) (fun _ => eT) ?_; clear F fa; intro fa F
        refine ax_no (i := 11) F rfl rfl (by decide) (by kernel_rfl) (fun _ _ _ h => h) (wantF F rfl rfl (by decide) rfl (by decide)) (fun _ => eT) ?_; clear F fa; intro fa F
        refine F.x (i := 12) rfl (fun w' => R_pickT rfl (F.at rfl) (ev_c fa _)) (fun _ => eT) ?_; clear F fa; intro fa F
        refine F.x (i := 13) rfl (fun w' => R_move rfl (F.at rfl)) (fun _ => eT) ?_; clear F fa; intro fa F
        refine ax_no (i := 14) F rfl rfl (by decide) (by kernel_rfl) (fun _ _ _ h => h) (wantF F rfl rfl (by decide) rfl (by decide)) (fun _ => eT) ?_; clear F fa; intro fa F
        refine ax_no (i := 15) F rfl rfl (by decide) (by kernel_rfl) (fun _ _ _ h => h) (wantF F rfl rfl (by decide) rfl (by decide)) (fun _ => eT) ?_; clear F fa; intro fa F
        refine ax_no (i := 16) F rfl rfl (by decide) (by kernel_rfl) (fun _ _ _ h => h) (wantF F rfl rfl (by decide) rfl (by decide)) (fun _ => eT) ?_; clear F fa; intro fa F
        refine ax_no (i := 17) F rfl rfl (by decide) (by kernel_rfl) (fun _ _ _ h => h) (wantF F rfl rfl (by decide) rfl (by decide)) (fun _ => eT) ?_; clear F fa; intro fa F
        refine ax_no (i := 18) F rfl rfl (by decide) (by kernel_rfl) (fun _ _ _ h => h) (wantU F rfl rfl (by decide) rfl) (fun _ => eT) ?_; clear F fa; intro fa F
        refine ax_no (i := 19) F rfl rfl (by decide) (by kernel_rfl) (fun _ _ _ h => h) (wantU F rfl rfl (by decide) rfl) (fun _ => eT) ?_; clear F fa; intro fa F
        refine ax_no (i := 20) F rfl rfl (by decide) (by kernel_rfl) (fun _ _ _ h => h) (wantU F rfl rfl (by decide) rfl) (fun _ => eT) ?_; clear F fa; intro fa F
        refine ax_no (i := 21) F rfl rfl (by decide) (by kernel_rfl) (fun _ _ _ h => h) (wantF F rfl rfl (by decide) rfl (by decide)) (fun _ => eT) ?_; clear F fa; intro fa F
        refine ax_no (i := 22) F rfl rfl (by decide) (by kernel_rfl) (fun _ _ _ h => h) (wantF F rfl rfl (by decide) rfl (by decide)) (fun _ => eT) ?_; clear F fa; intro fa F
        refine ax_no (i := 23) F rfl rfl (by decide) (by kernel_rfl) (fun _ _ _ h => h) (wantU F rfl rfl (by decide) rfl) (fun _ => eT) ?_; clear F fa; intro fa F
        refine ax_no (i := 24) F rfl rfl (by decide) (by kernel_rfl) (fun _ _ _ h => h) (wantU F rfl rfl (by decide) rfl) (fun _ => eT) ?_; clear F fa; intro fa F
        refine ax_no (i := 25) F rfl rfl (by decide) (by kernel_rfl) (fun _ _ _ h => h) (wantU F rfl rfl (by decide) rfl) (fun _ => eT) ?_; clear F fa; intro fa F
        refine ax_no (i := 26) F rfl rfl (by decide) (by kernel_rfl) (fun _ _ _ h => h) (wantU F rfl rfl (by decide) rfl) (fun _ => eT) ?_; clear F fa; intro fa F
        refine ax_no (i := 27) F rfl rfl (by decide) (by kernel_rfl) (fun _ _ _ h => h) (wantU F rfl rfl (by decide) rfl) (fun _ => eT) ?_; clear F fa; intro fa F
        refine ax_no (i := 28) F rfl rfl (by decide) (by kernel_rfl) (fun _ _ _ h => h) (wantU F rfl rfl (by decide) rfl) (fun _ => eT) ?_; clear F fa; intro fa F
        refine ax_no (i := 29) F rfl rfl (by decide) (by kernel_rfl) (fun _ _ _ h => h) (wantU F rfl rfl (by decide) rfl) (fun _ => eT) ?_; clear F fa; intro fa F
        refine ax_no (i := 30) F rfl rfl (by decide) (by kernel_rfl) (fun _ _ _ h => h) (wantU F rfl rfl (by decide) rfl) (fun _ => eT) ?_; clear F fa; intro fa F
        refine ax_no (i := 31) F rfl rfl (by decide) (by kernel_rfl) (fun _ _ _ h => h) (wantU F rfl rfl (by decide) rfl) (fun _ => eT) ?_; clear F fa; intro fa F
        refine ax_no (i := 32) F rfl rfl (by decide) (by kernel_rfl) (fun _ _ _ h => h) (wantF F rfl rfl (by decide) rfl (by decide)) (fun _ => eT) ?_; clear F fa; intro fa F
        refine F.x (i := 33) rfl (fun w' => R_pickT rfl (F.at rfl) (ev_c fa _)) (fun _ => eT) ?_; clear F fa; intro fa F
        refine ax_done (by kernel_rfl) ?_ _
        clear eT q4_ E_ ED_ EM_ EG_
        replace hfa := few_take hil hfa (.inl h1)
        refine hK22 _ _ ?_
        clear hK22
        refine cd_T F rfl ?_
        replace F := F.sub (.c 7 rfl (.c 9 rfl (.c 10 rfl (.c 12 rfl .n))))
        refine wp_region_lit ?_
        refine F.mv ?_; clear F fa; intro fa F
        refine F.as ?_; clear F fa; intro fa F
        refine wpList_nil ?_
        refine hK17 _ _ ?_
        clear hK17
        refine wp_region_lit ?_
        refine F.mv ?_; clear F fa; intro fa F
        refine F.vl (R_add rfl (F.at rfl) (ev_c fa _) (by omega) (by omega)) ?_; clear F fa; intro fa F
        refine F.as ?_; clear F fa; intro fa F
        refine wpList_nil ?_
        show _ ∧ _
        exact ⟨by omega, _, ⟨_, rfl, E, ED, EM, EG, q4, hfa⟩, F.sub (.c 11 rfl (.c 12 rfl (.c 7 rfl (.c 9 rfl (.c 10 rfl .n)))))⟩
      · skip
        by_cases h2 : (cF (L.getD i [])).1 = (cF (L.getD bk [])).1
        · skip
          by_cases h3 : (cF (L.getD i [])).2 < (cF (L.getD bk [])).2
          · skip
            refine region_x (Ext [] w13) none follows fun w15 hh eh => ?_
            have q4_ := q4
            replace q4 := keep_same hh q4
            have E_ := E
            have zEw15 := E.size
            replace E := ext_same E eh
            have ED_ := ED
            have zEDw15 := ED.size
            replace ED := ext_same ED eh
            have EM_ := EM
            have zEMw15 := EM.size
            replace EM := ext_same EM eh
            have EG_ := EG
            have zEGw15 := EG.size
            replace EG := ext_same EG eh
            have eT := eh
            clear hh eh
            refine F.x (i := 0) rfl (fun w' => R_move rfl (F.at rfl)) (fun _ => eT) ?_; clear F fa; intro fa F
            refine F.x (i := 1) rfl (fun w' => R_move rfl (F.at rfl)) (fun _ => eT) ?_; clear F fa; intro fa F
            refine F.x (i := 2) rfl (fun w' => R_lssB (b := false) rfl (F.at rfl) (F.at rfl) (decide_eq_false (by omega))) (fun _ => eT) ?_; clear F fa; intro fa F
            refine F.x (i := 3) rfl (fun w' => R_move rfl (F.at rfl)) (fun _ => eT) ?_; clear F fa; intro fa F
            refine F.x (i := 4) rfl (fun w' => R_move rfl (F.at rfl)) (fun _ => eT) ?_ (hw := (wantT F rfl rfl (by decide) rfl)); clear F fa; intro fa F
            refine F.x (i := 5) rfl (fun w' => R_move rfl (F.at rfl)) (fun _ => eT) ?_ (hw := (wantT F rfl rfl (by decide) rfl)); clear F fa; intro fa F
            refine F.x (i := 6) rfl (fun w' => R_eqlB (b := true) rfl (F.at rfl) (F.at rfl) (decide_eq_true (by omega))) (fun _ => eT) ?_ (hw := (wantT F rfl rfl (by decide) rfl)); clear F fa; intro fa F
            refine F.x (i := 7) rfl (fun w' => R_move rfl (F.at rfl)) (fun _ => eT) ?_ (hw := (wantT F rfl rfl (by decide) rfl)); clear F fa; intro fa F
            refine F.x (i := 8) rfl (fun w' => R_move rfl (F.at rfl)) (fun _ => eT) ?_ (hw := (wantT F rfl rfl (by decide) rfl)); clear F fa; intro fa F
            refine F.x (i := 9) rfl (fun w' => R_move rfl (F.at rfl)) (fun _ => eT) ?_ (hw := (wantT F rfl rfl (by decide) rfl)); clear F fa; intro fa F
            refine F.x (i := 10) rfl (fun w' => R_lssB (b := true) rfl (F.at rfl) (F.at rfl) (decide_eq_true (by omega))) (fun _ => eT) ?_ (hw := (wantT F rfl rfl (by decide) rfl)); clear F fa; intro fa F
            refine F.x (i := 11) rfl (fun w' => R_pickT rfl (F.at rfl) (F.at rfl)) (fun _ => eT) ?_ (hw := (wantT F rfl rfl (by decide) rfl)); clear F fa; intro fa F
            refine F.x (i := 12) rfl (fun w' => R_pickF rfl (F.at rfl) (F.at rfl)) (fun _ => eT) ?_; clear F fa; intro fa F
            refine F.x (i := 13) rfl (fun w' => R_move rfl (F.at rfl)) (fun _ => eT) ?_; clear F fa; intro fa F
            refine ax_no (i := 14) F rfl rfl (by decide) (by kernel_rfl) (fun _ _ _ h => h) (wantF F rfl rfl (by decide) rfl (by decide)) (fun _ => eT) ?_; clear F fa; intro fa F
            refine ax_no (i := 15) F rfl rfl (by decide) (by kernel_rfl) (fun _ _ _ h => h) (wantF F rfl rfl (by decide) rfl (by decide)) (fun _ => eT) ?_; clear F fa; intro fa F
            refine ax_no (i := 16) F rfl rfl (by decide) (by kernel_rfl) (fun _ _ _ h => h) (wantF F rfl rfl (by decide) rfl (by decide)) (fun _ => eT) ?_; clear F fa; intro fa F
            refine ax_no (i := 17) F rfl rfl (by decide) (by kernel_rfl) (fun _ _ _ h => h) (wantF F rfl rfl (by decide) rfl (by decide)) (fun _ => eT) ?_; clear F fa; intro fa F
            refine ax_no (i := 18) F rfl rfl (by decide) (by kernel_rfl) (fun _ _ _ h => h) (wantU F rfl rfl (by decide) rfl) (fun _ => eT) ?_; clear F fa; intro fa F
            refine ax_no (i := 19) F rfl rfl (by decide) (by kernel_rfl) (fun _ _ _ h => h) (wantU F rfl rfl (by decide) rfl) (fun _ => eT) ?_; clear F fa; intro fa F
            refine ax_no (i := 20) F rfl rfl (by decide) (by kernel_rfl) (fun _ _ _ h => h) (wantU F rfl rfl (by decide) rfl) (fun _ => eT) ?_; clear F fa; intro fa F
            refine ax_no (i := 21) F rfl rfl (by decide) (by kernel_rfl) (fun _ _ _ h => h) (wantF F rfl rfl (by decide) rfl (by decide)) (fun _ => eT) ?_; clear F fa; intro fa F
            refine ax_no (i := 22) F rfl rfl (by decide) (by kernel_rfl) (fun _ _ _ h => h) (wantF F rfl rfl (by decide) rfl (by decide)) (fun _ => eT) ?_; clear F fa; intro fa F
            refine ax_no (i := 23) F rfl rfl (by decide) (by kernel_rfl) (fun _ _ _ h => h) (wantU F rfl rfl (by decide) rfl) (fun _ => eT) ?_; clear F fa; intro fa F
            refine ax_no (i := 24) F rfl rfl (by decide) (by kernel_rfl) (fun _ _ _ h => h) (wantU F rfl rfl (by decide) rfl) (fun _ => eT) ?_; clear F fa; intro fa F
            refine ax_no (i := 25) F rfl rfl (by decide) (by kernel_rfl) (fun _ _ _ h => h) (wantU F rfl rfl (by decide) rfl) (fun _ => eT) ?_; clear F fa; intro fa F
            refine ax_no (i := 26) F rfl rfl (by decide) (by kernel_rfl) (fun _ _ _ h => h) (wantU F rfl rfl (by decide) rfl) (fun _ => eT) ?_; clear F fa; intro fa F
            refine ax_no (i := 27) F rfl rfl (by decide) (by kernel_rfl) (fun _ _ _ h => h) (wantU F rfl rfl (by decide) rfl) (fun _ => eT) ?_; clear F fa; intro fa F
            refine ax_no (i := 28) F rfl rfl (by decide) (by kernel_rfl) (fun _ _ _ h => h) (wantU F rfl rfl (by decide) rfl) (fun _ => eT) ?_; clear F fa; intro fa F
            refine ax_no (i := 29) F rfl rfl (by decide) (by kernel_rfl) (fun _ _ _ h => h) (wantU F rfl rfl (by decide) rfl) (fun _ => eT) ?_; clear F fa; intro fa F
            refine ax_no (i := 30) F rfl rfl (by decide) (by kernel_rfl) (fun _ _ _ h => h) (wantU F rfl rfl (by decide) rfl) (fun _ => eT) ?_; clear F fa; intro fa F
            refine ax_no (i := 31) F rfl rfl (by decide) (by kernel_rfl) (fun _ _ _ h => h) (wantU F rfl rfl (by decide) rfl) (fun _ => eT) ?_; clear F fa; intro fa F
            refine ax_no (i := 32) F rfl rfl (by decide) (by kernel_rfl) (fun _ _ _ h => h) (wantF F rfl rfl (by decide) rfl (by decide)) (fun _ => eT) ?_; clear F fa; intro fa F
            refine F.x (i := 33) rfl (fun w' => R_pickT rfl (F.at rfl) (ev_c fa _)) (fun _ => eT) ?_; clear F fa; intro fa F
            refine ax_done (by kernel_rfl) ?_ _
            clear eT q4_ E_ ED_ EM_ EG_
            replace hfa := few_take hil hfa (.inr ⟨h2, h3⟩)
            refine hK22 _ _ ?_
            clear hK22
            refine cd_T F rfl ?_
            replace F := F.sub (.c 7 rfl (.c 9 rfl (.c 10 rfl (.c 12 rfl .n))))
            refine wp_region_lit ?_
            refine F.mv ?_; clear F fa; intro fa F
            refine F.as ?_; clear F fa; intro fa F
            refine wpList_nil ?_
            refine hK17 _ _ ?_
            clear hK17
            refine wp_region_lit ?_
            refine F.mv ?_; clear F fa; intro fa F
            refine F.vl (R_add rfl (F.at rfl) (ev_c fa _) (by omega) (by omega)) ?_; clear F fa; intro fa F
            refine F.as ?_; clear F fa; intro fa F
            refine wpList_nil ?_
            show _ ∧ _
            exact ⟨by omega, _, ⟨_, rfl, E, ED, EM, EG, q4, hfa⟩, F.sub (.c 11 rfl (.c 12 rfl (.c 7 rfl (.c 9 rfl (.c 10 rfl .n)))))⟩
          · skip
            by_cases h4 : (cF (L.getD i [])).2 = (cF (L.getD bk [])).2
            · skip
              refine region_x (Ext [] w13) none follows fun w16 hh eh => ?_
              have q4_ := q4
              replace q4 := keep_same hh q4
              have E_ := E
              have zEw16 := E.size
              replace E := ext_same E eh
              have ED_ := ED
              have zEDw16 := ED.size
              replace ED := ext_same ED eh
              have EM_ := EM
              have zEMw16 := EM.size
              replace EM := ext_same EM eh
              have EG_ := EG
              have zEGw16 := EG.size
              replace EG := ext_same EG eh
              have eT := eh
              clear hh eh
              refine F.x (i := 0) rfl (fun w' => R_move rfl (F.at rfl)) (fun _ => eT) ?_; clear F fa; intro fa F
              refine F.x (i := 1) rfl (fun w' => R_move rfl (F.at rfl)) (fun _ => eT) ?_; clear F fa; intro fa F
              refine F.x (i := 2) rfl (fun w' => R_lssB (b := false) rfl (F.at rfl) (F.at rfl) (decide_eq_false (by omega))) (fun _ => eT) ?_; clear F fa; intro fa F
              refine F.x (i := 3) rfl (fun w' => R_move rfl (F.at rfl)) (fun _ => eT) ?_; clear F fa; intro fa F
              refine F.x (i := 4) rfl (fun w' => R_move rfl (F.at rfl)) (fun _ => eT) ?_ (hw := (wantT F rfl rfl (by decide) rfl)); clear F fa; intro fa F
              refine F.x (i := 5) rfl (fun w' => R_move rfl (F.at rfl)) (fun _ => eT) ?_ (hw := (wantT F rfl rfl (by decide) rfl)); clear F fa; intro fa F
              refine F.x (i := 6) rfl (fun w' => R_eqlB (b := true) rfl (F.at rfl) (F.at rfl) (decide_eq_true (by omega))) (fun _ => eT) ?_ (hw := (wantT F rfl rfl (by decide) rfl)); clear F fa; intro fa F
              refine F.x (i := 7) rfl (fun w' => R_move rfl (F.at rfl)) (fun _ => eT) ?_ (hw := (wantT F rfl rfl (by decide) rfl)); clear F fa; intro fa F
              refine F.x (i := 8) rfl (fun w' => R_move rfl (F.at rfl)) (fun _ => eT) ?_ (hw := (wantT F rfl rfl (by decide) rfl)); clear F fa; intro fa F
              refine F.x (i := 9) rfl (fun w' => R_move rfl (F.at rfl)) (fun _ => eT) ?_ (hw := (wantT F rfl rfl (by decide) rfl)); clear F fa; intro fa F
              refine F.x (i := 10) rfl (fun w' => R_lssB (b := false) rfl (F.at rfl) (F.at rfl) (decide_eq_false (by omega))) (fun _ => eT) ?_ (hw := (wantT F rfl rfl (by decide) rfl)); clear F fa; intro fa F
              refine F.x (i := 11) rfl (fun w' => R_pickT rfl (F.at rfl) (F.at rfl)) (fun _ => eT) ?_ (hw := (wantT F rfl rfl (by decide) rfl)); clear F fa; intro fa F
              refine F.x (i := 12) rfl (fun w' => R_pickF rfl (F.at rfl) (F.at rfl)) (fun _ => eT) ?_; clear F fa; intro fa F
              refine F.x (i := 13) rfl (fun w' => R_move rfl (F.at rfl)) (fun _ => eT) ?_; clear F fa; intro fa F
              refine F.x (i := 14) rfl (fun w' => R_move rfl (F.at rfl)) (fun _ => eT) ?_ (hw := (wantT F rfl rfl (by decide) rfl)); clear F fa; intro fa F
              refine F.x (i := 15) rfl (fun w' => R_move rfl (F.at rfl)) (fun _ => eT) ?_ (hw := (wantT F rfl rfl (by decide) rfl)); clear F fa; intro fa F
              refine F.x (i := 16) rfl (fun w' => R_eqlB (b := true) rfl (F.at rfl) (F.at rfl) (decide_eq_true (by omega))) (fun _ => eT) ?_ (hw := (wantT F rfl rfl (by decide) rfl)); clear F fa; intro fa F
              refine F.x (i := 17) rfl (fun w' => R_move rfl (F.at rfl)) (fun _ => eT) ?_ (hw := (wantT F rfl rfl (by decide) rfl)); clear F fa; intro fa F
              refine F.x (i := 18) rfl (fun w' => R_move rfl (F.at rfl)) (fun _ => eT) ?_ (hw := (wantT F rfl rfl (by decide) rfl)); clear F fa; intro fa F
              refine F.x (i := 19) rfl (fun w' => R_move rfl (F.at rfl)) (fun _ => eT) ?_ (hw := (wantT F rfl rfl (by decide) rfl)); clear F fa; intro fa F
              refine F.x (i := 20) rfl (fun w' => R_eqlB (b := true) rfl (F.at rfl) (F.at rfl) (decide_eq_true (by omega))) (fun _ => eT) ?_ (hw := (wantT F rfl rfl (by decide) rfl)); clear F fa; intro fa F
              refine F.x (i := 21) rfl (fun w' => R_pickT rfl (F.at rfl) (F.at rfl)) (fun _ => eT) ?_ (hw := (wantT F rfl rfl (by decide) rfl)); clear F fa; intro fa F
              refine F.x (i := 22) rfl (fun w' => R_move rfl (F.at rfl)) (fun _ => eT) ?_ (hw := (wantT F rfl rfl (by decide) rfl)); clear F fa; intro fa F
              refine F.x (i := 23) rfl (fun w' => R_move rfl (F.at rfl)) (fun _ => eT) ?_ (hw := (wantT F rfl rfl (by decide) rfl)); clear F fa; intro fa F
              refine F.x (i := 24) rfl (fun w' => R_move rfl (F.at rfl)) (fun _ => eT) ?_ (hw := (wantT F rfl rfl (by decide) rfl)); clear F fa; intro fa F
              obtain ⟨xb23, xo23, xa23, xr23⟩ := HMS.out i (by omega)
              refine F.x (i := 25) rfl (fun w' => R_ixSlice (sz := 1) rfl ((F.at rfl).trans (xa23 _ _)) (F.at rfl) Try.underlying22 (by kernel_rfl) (by omega) (by omega)) (fun _ => eT) ?_ (hw := (wantT F rfl rfl (by decide) rfl)); clear F fa; intro fa F
              refine F.xr (i := 26) rfl (fun w' hS => R_load rfl (F.at rfl) Try.underlying25 rfl (xr23 _ (EM_.nil hS) 0 _ rfl)) (fun _ => eT) ?_ (hw := (wantT F rfl rfl (by decide) rfl)); clear F fa; intro fa F
              rw [hma] at F
              refine F.x (i := 27) rfl (fun w' => R_move rfl (F.at rfl)) (fun _ => eT) ?_ (hw := (wantT F rfl rfl (by decide) rfl)); clear F fa; intro fa F
              refine F.x (i := 28) rfl (fun w' => R_move rfl (F.at rfl)) (fun _ => eT) ?_ (hw := (wantT F rfl rfl (by decide) rfl)); clear F fa; intro fa F
              obtain ⟨xb24, xo24, xa24, xr24⟩ := HMS.out bk (by omega)
              refine F.x (i := 29) rfl (fun w' => R_ixSlice (sz := 1) rfl ((F.at rfl).trans (xa24 _ _)) (F.at rfl) Try.underlying22 (by kernel_rfl) (by omega) (by omega)) (fun _ => eT) ?_ (hw := (wantT F rfl rfl (by decide) rfl)); clear F fa; intro fa F
              refine F.xr (i := 30) rfl (fun w' hS => R_load rfl (F.at rfl) Try.underlying25 rfl (xr24 _ (EM_.nil hS) 0 _ rfl)) (fun _ => eT) ?_ (hw := (wantT F rfl rfl (by decide) rfl)); clear F fa; intro fa F
              rw [hmb] at F
              refine ax_only (i := 31) (by kernel_rfl) (op_call F rfl rfl (by decide) (wantT F rfl rfl (by decide) rfl) (R_callV rfl rfl Try.call40 (mpS (F.at rfl) (mpS (F.at rfl) mp0))) (less_any (L.getD i []) (L.getD bk []) (by omega) (by omega) ma2 mb2 mca mcb _ (HMR.out.ext EM (by simp)) (HBR.out.ext EM (by simp))) fun e w17 hR => ?_)
              obtain ⟨rfl, e9⟩ := hR
              refine ⟨_, rfl, ?_⟩; clear F fa; intro fa F
              replace q4 := (e9).keep0 q4
              replace E := ext_same E (e9)
              replace ED := ext_same ED (e9)
              replace EM := ext_same EM (e9)
              replace EG := ext_same EG (e9)
              replace eT := ext_same eT (e9)
              clear e9
              refine ⟨fun _ => eT, ?_⟩
              rw [less_no hLS.out hil (show bk ≤ i by rcases hfa.2 with ⟨-, h⟩ | ⟨h, -⟩ <;> omega)] at F
              refine F.x (i := 32) rfl (fun w' => R_pickT rfl (F.at rfl) (F.at rfl)) (fun _ => eT) ?_ (hw := (wantT F rfl rfl (by decide) rfl)); clear F fa; intro fa F
              refine F.x (i := 33) rfl (fun w' => R_pickF rfl (F.at rfl) (F.at rfl)) (fun _ => eT) ?_; clear F fa; intro fa F
              refine ax_done (by kernel_rfl) ?_ _
              clear eT q4_ E_ ED_ EM_ EG_
              replace hfa := few_skip hil hfa (by omega)
              refine hK22 _ _ ?_
              clear hK22
              refine cd_F F rfl ?_
              refine wp_skip ?_
              refine hK17 _ _ ?_
              clear hK17
              replace F := F.sub (.c 7 rfl (.c 9 rfl (.c 10 rfl (.c 11 rfl (.c 12 rfl .n)))))
              refine wp_region_lit ?_
              refine F.mv ?_; clear F fa; intro fa F
              refine F.vl (R_add rfl (F.at rfl) (ev_c fa _) (by omega) (by omega)) ?_; clear F fa; intro fa F
              refine F.as ?_; clear F fa; intro fa F
              refine wpList_nil ?_
              show _ ∧ _
              exact ⟨by omega, _, ⟨_, rfl, E, ED, EM, EG, q4, hfa⟩, F.sub (.c 11 rfl (.c 12 rfl (.c 7 rfl (.c 9 rfl (.c 10 rfl .n)))))⟩
            · skip
              refine region_x (Ext [] w13) none follows fun w18 hh eh => ?_
              have q4_ := q4
              replace q4 := keep_same hh q4
              have E_ := E
              have zEw18 := E.size
              replace E := ext_same E eh
              have ED_ := ED
              have zEDw18 := ED.size
              replace ED := ext_same ED eh
              have EM_ := EM
              have zEMw18 := EM.size
              replace EM := ext_same EM eh
              have EG_ := EG
              have zEGw18 := EG.size
              replace EG := ext_same EG eh
              have eT := eh
              clear hh eh
              refine F.x (i := 0) rfl (fun w' => R_move rfl (F.at rfl)) (fun _ => eT) ?_; clear F fa; intro fa F
              refine F.x (i := 1) rfl (fun w' => R_move rfl (F.at rfl)) (fun _ => eT) ?_; clear F fa; intro fa F
              refine F.x (i := 2) rfl (fun w' => R_lssB (b := false) rfl (F.at rfl) (F.at rfl) (decide_eq_false (by omega))) (fun _ => eT) ?_; clear F fa; intro fa F
              refine F.x (i := 3) rfl (fun w' => R_move rfl (F.at rfl)) (fun _ => eT) ?_; clear F fa; intro fa F
              refine F.x (i := 4) rfl (fun w' => R_move rfl (F.at rfl)) (fun _ => eT) ?_ (hw := (wantT F rfl rfl (by decide) rfl)); clear F fa; intro fa F
              refine F.x (i := 5) rfl (fun w' => R_move rfl (F.at rfl)) (fun _ => eT) ?_ (hw := (wantT F rfl rfl (by decide) rfl)); clear F fa; intro fa F
              refine F.x (i := 6) rfl (fun w' => R_eqlB (b := true) rfl (F.at rfl) (F.at rfl) (decide_eq_true (by omega))) (fun _ => eT) ?_ (hw := (wantT F rfl rfl (by decide) rfl)); clear F fa; intro fa F
              refine F.x (i := 7) rfl (fun w' => R_move rfl (F.at rfl)) (fun _ => eT) ?_ (hw := (wantT F rfl rfl (by decide) rfl)); clear F fa; intro fa F
              refine F.x (i := 8) rfl (fun w' => R_move rfl (F.at rfl)) (fun _ => eT) ?_ (hw := (wantT F rfl rfl (by decide) rfl)); clear F fa; intro fa F
              refine F.x (i := 9) rfl (fun w' => R_move rfl (F.at rfl)) (fun _ => eT) ?_ (hw := (wantT F rfl rfl (by decide) rfl)); clear F fa; intro fa F
              refine F.x (i := 10) rfl (fun w' => R_lssB (b := false) rfl (F.at rfl) (F.at rfl) (decide_eq_false (by omega))) (fun _ => eT) ?_ (hw := (wantT F rfl rfl (by decide) rfl)); clear F fa; intro fa F
              refine F.x (i := 11) rfl (fun w' => R_pickT rfl (F.at rfl) (F.at rfl)) (fun _ => eT) ?_ (hw := (wantT F rfl rfl (by decide) rfl)); clear F fa; intro fa F
              refine F.x (i := 12) rfl (fun w' => R_pickF rfl (F.at rfl) (F.at rfl)) (fun _ => eT) ?_; clear F fa; intro fa F
              refine F.x (i := 13) rfl (fun w' => R_move rfl (F.at rfl)) (fun _ => eT) ?_; clear F fa; intro fa F
              refine F.x (i := 14) rfl (fun w' => R_move rfl (F.at rfl)) (fun _ => eT) ?_ (hw := (wantT F rfl rfl (by decide) rfl)); clear F fa; intro fa F
              refine F.x (i := 15) rfl (fun w' => R_move rfl (F.at rfl)) (fun _ => eT) ?_ (hw := (wantT F rfl rfl (by decide) rfl)); clear F fa; intro fa F
              refine F.x (i := 16) rfl (fun w' => R_eqlB (b := true) rfl (F.at rfl) (F.at rfl) (decide_eq_true (by omega))) (fun _ => eT) ?_ (hw := (wantT F rfl rfl (by decide) rfl)); clear F fa; intro fa F
              refine F.x (i := 17) rfl (fun w' => R_move rfl (F.at rfl)) (fun _ => eT) ?_ (hw := (wantT F rfl rfl (by decide) rfl)); clear F fa; intro fa F
              refine F.x (i := 18) rfl (fun w' => R_move rfl (F.at rfl)) (fun _ => eT) ?_ (hw := (wantT F rfl rfl (by decide) rfl)); clear F fa; intro fa F
              refine F.x (i := 19) rfl (fun w' => R_move rfl (F.at rfl)) (fun _ => eT) ?_ (hw := (wantT F rfl rfl (by decide) rfl)); clear F fa; intro fa F
              refine F.x (i := 20) rfl (fun w' => R_eqlB (b := false) rfl (F.at rfl) (F.at rfl) (decide_eq_false (by omega))) (fun _ => eT) ?_ (hw := (wantT F rfl rfl (by decide) rfl)); clear F fa; intro fa F
              refine F.x (i := 21) rfl (fun w' => R_pickT rfl (F.at rfl) (F.at rfl)) (fun _ => eT) ?_ (hw := (wantT F rfl rfl (by decide) rfl)); clear F fa; intro fa F
              refine F.x (i := 22) rfl (fun w' => R_move rfl (F.at rfl)) (fun _ => eT) ?_ (hw := (wantT F rfl rfl (by decide) rfl)); clear F fa; intro fa F
              refine ax_no (i := 23) F rfl rfl (by decide) (by kernel_rfl) (fun _ _ _ h => h) (wantF F rfl rfl (by decide) rfl (by decide)) (fun _ => eT) ?_; clear F fa; intro fa F
              refine ax_no (i := 24) F rfl rfl (by decide) (by kernel_rfl) (fun _ _ _ h => h) (wantF F rfl rfl (by decide) rfl (by decide)) (fun _ => eT) ?_; clear F fa; intro fa F
              refine ax_no (i := 25) F rfl rfl (by decide) (by kernel_rfl) (fun _ _ _ h => h) (wantF F rfl rfl (by decide) rfl (by decide)) (fun _ => eT) ?_; clear F fa; intro fa F
              refine ax_no (i := 26) F rfl rfl (by decide) (by kernel_rfl) (fun _ _ _ h => h) (wantF F rfl rfl (by decide) rfl (by decide)) (fun _ => eT) ?_; clear F fa; intro fa F
              refine ax_no (i := 27) F rfl rfl (by decide) (by kernel_rfl) (fun _ _ _ h => h) (wantF F rfl rfl (by decide) rfl (by decide)) (fun _ => eT) ?_; clear F fa; intro fa F
              refine ax_no (i := 28) F rfl rfl (by decide) (by kernel_rfl) (fun _ _ _ h => h) (wantF F rfl rfl (by decide) rfl (by decide)) (fun _ => eT) ?_; clear F fa; intro fa F
              refine ax_no (i := 29) F rfl rfl (by decide) (by kernel_rfl) (fun _ _ _ h => h) (wantF F rfl rfl (by decide) rfl (by decide)) (fun _ => eT) ?_; clear F fa; intro fa F
              refine ax_no (i := 30) F rfl rfl (by decide) (by kernel_rfl) (fun _ _ _ h => h) (wantF F rfl rfl (by decide) rfl (by decide)) (fun _ => eT) ?_; clear F fa; intro fa F
              refine ax_no (i := 31) F rfl rfl (by decide) (by kernel_rfl) (fun _ _ _ h => h) (wantF F rfl rfl (by decide) rfl (by decide)) (fun _ => eT) ?_; clear F fa; intro fa F
              refine F.x (i := 32) rfl (fun w' => R_pickF rfl (F.at rfl) (ev_c fa _)) (fun _ => eT) ?_ (hw := (wantT F rfl rfl (by decide) rfl)); clear F fa; intro fa F
              refine F.x (i := 33) rfl (fun w' => R_pickF rfl (F.at rfl) (F.at rfl)) (fun _ => eT) ?_; clear F fa; intro fa F
              refine ax_done (by kernel_rfl) ?_ _
              clear eT q4_ E_ ED_ EM_ EG_
              replace hfa := few_skip hil hfa (by omega)
              refine hK22 _ _ ?_
              clear hK22
              refine cd_F F rfl ?_
              refine wp_skip ?_
              refine hK17 _ _ ?_
              clear hK17
              replace F := F.sub (.c 7 rfl (.c 9 rfl (.c 10 rfl (.c 11 rfl (.c 12 rfl .n)))))
              refine wp_region_lit ?_
              refine F.mv ?_; clear F fa; intro fa F
              refine F.vl (R_add rfl (F.at rfl) (ev_c fa _) (by omega) (by omega)) ?_; clear F fa; intro fa F
              refine F.as ?_; clear F fa; intro fa F
              refine wpList_nil ?_
              show _ ∧ _
              exact ⟨by omega, _, ⟨_, rfl, E, ED, EM, EG, q4, hfa⟩, F.sub (.c 11 rfl (.c 12 rfl (.c 7 rfl (.c 9 rfl (.c 10 rfl .n)))))⟩
        · skip
          refine region_x (Ext [] w13) none follows fun w19 hh eh => ?_
          have q4_ := q4
          replace q4 := keep_same hh q4
          have E_ := E
          have zEw19 := E.size
          replace E := ext_same E eh
          have ED_ := ED
          have zEDw19 := ED.size
          replace ED := ext_same ED eh
          have EM_ := EM
          have zEMw19 := EM.size
          replace EM := ext_same EM eh
          have EG_ := EG
          have zEGw19 := EG.size
          replace EG := ext_same EG eh
          have eT := eh
          clear hh eh
          refine F.x (i := 0) rfl (fun w' => R_move rfl (F.at rfl)) (fun _ => eT) ?_; clear F fa; intro fa F
          refine F.x (i := 1) rfl (fun w' => R_move rfl (F.at rfl)) (fun _ => eT) ?_; clear F fa; intro fa F
          refine F.x (i := 2) rfl (fun w' => R_lssB (b := false) rfl (F.at rfl) (F.at rfl) (decide_eq_false (by omega))) (fun _ => eT) ?_; clear F fa; intro fa F
          refine F.x (i := 3) rfl (fun w' => R_move rfl (F.at rfl)) (fun _ => eT) ?_; clear F fa; intro fa F
          refine F.x (i := 4) rfl (fun w' => R_move rfl (F.at rfl)) (fun _ => eT) ?_ (hw := (wantT F rfl rfl (by decide) rfl)); clear F fa; intro fa F
          refine F.x (i := 5) rfl (fun w' => R_move rfl (F.at rfl)) (fun _ => eT) ?_ (hw := (wantT F rfl rfl (by decide) rfl)); clear F fa; intro fa F
          refine F.x (i := 6) rfl (fun w' => R_eqlB (b := false) rfl (F.at rfl) (F.at rfl) (decide_eq_false (by omega))) (fun _ => eT) ?_ (hw := (wantT F rfl rfl (by decide) rfl)); clear F fa; intro fa F
          refine F.x (i := 7) rfl (fun w' => R_move rfl (F.at rfl)) (fun _ => eT) ?_ (hw := (wantT F rfl rfl (by decide) rfl)); clear F fa; intro fa F
          refine ax_no (i := 8) F rfl rfl (by decide) (by kernel_rfl) (fun _ _ _ h => h) (wantF F rfl rfl (by decide) rfl (by decide)) (fun _ => eT) ?_; clear F fa; intro fa F
          refine ax_no (i := 9) F rfl rfl (by decide) (by kernel_rfl) (fun _ _ _ h => h) (wantF F rfl rfl (by decide) rfl (by decide)) (fun _ => eT) ?_; clear F fa; intro fa F
          refine ax_no (i := 10) F rfl rfl (by decide) (by kernel_rfl) (fun _ _ _ h => h) (wantF F rfl rfl (by decide) rfl (by decide)) (fun _ => eT) ?_; clear F fa; intro fa F
          refine F.x (i := 11) rfl (fun w' => R_pickF rfl (F.at rfl) (ev_c fa _)) (fun _ => eT) ?_ (hw := (wantT F rfl rfl (by decide) rfl)); clear F fa; intro fa F
          refine F.x (i := 12) rfl (fun w' => R_pickF rfl (F.at rfl) (F.at rfl)) (fun _ => eT) ?_; clear F fa; intro fa F
          refine F.x (i := 13) rfl (fun w' => R_move rfl (F.at rfl)) (fun _ => eT) ?_; clear F fa; intro fa F
          refine F.x (i := 14) rfl (fun w' => R_move rfl (F.at rfl)) (fun _ => eT) ?_ (hw := (wantT F rfl rfl (by decide) rfl)); clear F fa; intro fa F
          refine F.x (i := 15) rfl (fun w' => R_move rfl (F.at rfl)) (fun _ => eT) ?_ (hw := (wantT F rfl rfl (by decide) rfl)); clear F fa; intro fa F
          refine F.x (i := 16) rfl (fun w' => R_eqlB (b := false) rfl (F.at rfl) (F.at rfl) (decide_eq_false (by omega))) (fun _ => eT) ?_ (hw := (wantT F rfl rfl (by decide) rfl)); clear F fa; intro fa F
          refine F.x (i := 17) rfl (fun w' => R_move rfl (F.at rfl)) (fun _ => eT) ?_ (hw := (wantT F rfl rfl (by decide) rfl)); clear F fa; intro fa F
          refine ax_no (i := 18) F rfl rfl (by decide) (by kernel_rfl) (fun _ _ _ h => h) (wantF F rfl rfl (by decide) rfl (by decide)) (fun _ => eT) ?_; clear F fa; intro fa F
          refine ax_no (i := 19) F rfl rfl (by decide) (by kernel_rfl) (fun _ _ _ h => h) (wantF F rfl rfl (by decide) rfl (by decide)) (fun _ => eT) ?_; clear F fa; intro fa F
          refine ax_no (i := 20) F rfl rfl (by decide) (by kernel_rfl) (fun _ _ _ h => h) (wantF F rfl rfl (by decide) rfl (by decide)) (fun _ => eT) ?_; clear F fa; intro fa F
          refine F.x (i := 21) rfl (fun w' => R_pickF rfl (F.at rfl) (ev_c fa _)) (fun _ => eT) ?_ (hw := (wantT F rfl rfl (by decide) rfl)); clear F fa; intro fa F
          refine F.x (i := 22) rfl (fun w' => R_move rfl (F.at rfl)) (fun _ => eT) ?_ (hw := (wantT F rfl rfl (by decide) rfl)); clear F fa; intro fa F
          refine ax_no (i := 23) F rfl rfl (by decide) (by kernel_rfl) (fun _ _ _ h => h) (wantF F rfl rfl (by decide) rfl (by decide)) (fun _ => eT) ?_; clear F fa; intro fa F
          refine ax_no (i := 24) F rfl rfl (by decide) (by kernel_rfl) (fun _ _ _ h => h) (wantF F rfl rfl (by decide) rfl (by decide)) (fun _ => eT) ?_; clear F fa; intro fa F
          refine ax_no (i := 25) F rfl rfl (by decide) (by kernel_rfl) (fun _ _ _ h => h) (wantF F rfl rfl (by decide) rfl (by decide)) (fun _ => eT) ?_; clear F fa; intro fa F
          refine ax_no (i := 26) F rfl rfl (by decide) (by kernel_rfl) (fun _ _ _ h => h) (wantF F rfl rfl (by decide) rfl (by decide)) (fun _ => eT) ?_; clear F fa; intro fa F
          refine ax_no (i := 27) F rfl rfl (by decide) (by kernel_rfl) (fun _ _ _ h => h) (wantF F rfl rfl (by decide) rfl (by decide)) (fun _ => eT) ?_; clear F fa; intro fa F
          refine ax_no (i := 28) F rfl rfl (by decide) (by kernel_rfl) (fun _ _ _ h => h) (wantF F rfl rfl (by decide) rfl (by decide)) (fun _ => eT) ?_; clear F fa; intro fa F
          refine ax_no (i := 29) F rfl rfl (by decide) (by kernel_rfl) (fun _ _ _ h => h) (wantF F rfl rfl (by decide) rfl (by decide)) (fun _ => eT) ?_; clear F fa; intro fa F
          refine ax_no (i := 30) F rfl rfl (by decide) (by kernel_rfl) (fun _ _ _ h => h) (wantF F rfl rfl (by decide) rfl (by decide)) (fun _ => eT) ?_; clear F fa; intro fa F
          refine ax_no (i := 31) F rfl rfl (by decide) (by kernel_rfl) (fun _ _ _ h => h) (wantF F rfl rfl (by decide) rfl (by decide)) (fun _ => eT) ?_; clear F fa; intro fa F
          refine F.x (i := 32) rfl (fun w' => R_pickF rfl (F.at rfl) (ev_c fa _)) (fun _ => eT) ?_ (hw := (wantT F rfl rfl (by decide) rfl)); clear F fa; intro fa F
          refine F.x (i := 33) rfl (fun w' => R_pickF rfl (F.at rfl) (F.at rfl)) (fun _ => eT) ?_; clear F fa; intro fa F
          refine ax_done (by kernel_rfl) ?_ _
          clear eT q4_ E_ ED_ EM_ EG_
          replace hfa := few_skip hil hfa (by omega)
          refine hK22 _ _ ?_
          clear hK22
          refine cd_F F rfl ?_
          refine wp_skip ?_
          refine hK17 _ _ ?_
          clear hK17
          replace F := F.sub (.c 7 rfl (.c 9 rfl (.c 10 rfl (.c 11 rfl (.c 12 rfl .n)))))
          refine wp_region_lit ?_
          refine F.mv ?_; clear F fa; intro fa F
          refine F.vl (R_add rfl (F.at rfl) (ev_c fa _) (by omega) (by omega)) ?_; clear F fa; intro fa F
          refine F.as ?_; clear F fa; intro fa F
          refine wpList_nil ?_
          show _ ∧ _
          exact ⟨by omega, _, ⟨_, rfl, E, ED, EM, EG, q4, hfa⟩, F.sub (.c 11 rfl (.c 12 rfl (.c 7 rfl (.c 9 rfl (.c 10 rfl .n)))))⟩
    · skip
      refine wp_exit ?_
      have hge : g = (L.getD bk [], 0) := by rw [hg, hLd]; exact few_end (by have := HV.out.d4; omega) (by rw [← hLd]; omega) (show 0 < i by omega) (by rw [← hLd]; exact hfa)
      refine hK13 _ _ ?_
      clear hK13
      refine wp_seq_k fun K25 hK25 => ?_
      have hbk := hfa.1
      obtain ⟨mb2, mcb, hmb, hbr⟩ := HM.out.2 _ (getD_mem (.bool true, []) (show bk < M.length by omega))
      have hbm := key_getD M (show bk < M.length by omega)
      rw [hM] at hbm
      rw [← hbm] at hmb hbr
      have HBR := Lib.hid hbr
      have hb1 := (hLB.out _ (getD_memL [] hbk)).1
      have hd4 := HV.out.d4
      refine wp_region_lit ?_
      refine F.mv ?_; clear F fa; intro fa F
      refine F.vl (R_eqlB (b := true) rfl (F.at rfl) (ev_c fa _) (decide_eq_true (by rw [hge]))) ?_; clear F fa; intro fa F
      refine F.mv ?_; clear F fa; intro fa F
      refine F.mv ?_ (hw := (wantT F rfl rfl (by decide) rfl)); clear F fa; intro fa F
      refine F.mv ?_ (hw := (wantT F rfl rfl (by decide) rfl)); clear F fa; intro fa F
      refine F.mv ?_ (hw := (wantT F rfl rfl (by decide) rfl)); clear F fa; intro fa F
      obtain ⟨xb26, xo26, xa26, xr26⟩ := HMS.out bk (by omega)
      refine F.vl (R_ixSlice (sz := 1) rfl ((F.at rfl).trans (xa26 _ _)) (F.at rfl) Try.underlying22 (by kernel_rfl) (by omega) (by omega)) ?_ (hw := (wantT F rfl rfl (by decide) rfl)); clear F fa; intro fa F
      refine F.vl (R_load rfl (F.at rfl) Try.underlying25 rfl (xr26 _ EM 0 _ rfl)) ?_ (hw := (wantT F rfl rfl (by decide) rfl)); clear F fa; intro fa F
      rw [hmb] at F
      refine sq_call F rfl (by decide) (wantT F rfl rfl (by decide) rfl) (R_callV rfl rfl Try.call22 (mpS (F.at rfl) (mpS (F.at rfl) mp0))) (sameInts_any g.1 (L.getD bk []) ga mb2 gc mcb _ (HG.out.ext EG (by simp)) (HBR.out.ext EM (by simp)) (by rw [hge]; simp only; omega) (by omega)) fun e w20 hR => ?_
      obtain ⟨rfl, e9⟩ := hR
      refine ⟨_, rfl, ?_⟩; clear F fa; intro fa F
      replace q4 := (e9).keep0 q4
      replace E := ext_same E (e9)
      replace ED := ext_same ED (e9)
      replace EM := ext_same EM (e9)
      replace EG := ext_same EG (e9)
      clear e9
      rw [decide_eq_true (show g.1 = L.getD bk [] by rw [hge])] at F
      refine F.vl (R_pickT rfl (F.at rfl) (F.at rfl)) ?_; clear F fa; intro fa F
      refine F.mv ?_; clear F fa; intro fa F
      refine sq_call F rfl (by decide) (wantT F rfl rfl (by decide) rfl) (R_callV rfl rfl Try.call12 mp0) (dyed_any _) fun e w21 hR => ?_
      obtain ⟨rfl, e9⟩ := hR
      refine ⟨_, rfl, ?_⟩; clear F fa; intro fa F
      replace q4 := (e9).keep0 q4
      replace E := ext_same E (e9)
      replace ED := ext_same ED (e9)
      replace EM := ext_same EM (e9)
      replace EG := ext_same EG (e9)
      clear e9
      refine F.vl (R_pickT rfl (F.at rfl) (F.at rfl)) ?_; clear F fa; intro fa F
      refine F.as ?_; clear F fa; intro fa F
      refine wpList_nil ?_
      refine hK25 _ _ ?_
      clear hK25
      refine wp_ret ?_
      (try simp only [Exit.inBlock, Exit.then, reduceIte])
      refine rt_v F (rs_1 F rfl rfl) ?_
      exact ⟨rfl, E⟩
end Go.Proofs.Ytdjeecgddbjbeaa
