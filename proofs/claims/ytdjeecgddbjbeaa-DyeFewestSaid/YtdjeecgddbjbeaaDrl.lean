/- What the laws reckon: used, common, right. Conditions: the vat is valid; small numbers. -/
import Derived.Test.YtdjeecgddbjbeaaDmx
import Derived.Test.YtdjeecgddbjbeaaDrp
namespace Go.Proofs.Ytdjeecgddbjbeaa
open Go.RowKit
set_option linter.unusedVariables false
set_option linter.unusedSimpArgs false
theorem val_zero {l : List Int} {k : Nat} (h : l.length ≤ k) : val l k = 0 := by simp [val, List.getElem?_eq_none h]
def usdN (l : List Int) (n : Nat) : Int := rowU (fun k => decide (l.getD k 0 ≠ 0)) n
set_option maxRecDepth 100000 in
theorem used_any (l : List Int) (hb : ∀ n ∈ l, 0 ≤ n ∧ n ≤ 6) (h4 : l.length ≤ 1000) (a : Option Addr) (c : Nat) (w : World) (h : IsRows w (.slice a l.length c) 1 (l.map intRow)) :
    Calls Try.prog 34 #[.slice a l.length c] w fun e w' => e = .returned (.tuple #[.int .i64 (usdN l l.length), .int .i64 l.sum]) ∧ Ext [] w w' := by
  have E : Ext [] w w := Ext.refl _ _
  have HS := Lib.hid (slAt_of_rows h 0)
  have HB := Lib.hid hb
  clear h hb
  refine calls_has 28 Try.func34 rfl Try.ntmps34 (Nat.le_of_ble_eq_true rfl) ?_
  intro fa F
  refine wp_seq_k fun K1 hK1 => ?_
  refine wp_region_lit ?_
  refine F.vl (R_assign rfl (ev_c fa _)) ?_; clear F fa; intro fa F
  refine F.vl (R_assign rfl (ev_c fa _)) ?_; clear F fa; intro fa F
  refine wpList_nil ?_
  refine hK1 _ _ ?_
  clear hK1
  refine wp_seq_k fun K2 hK2 => ?_
  refine wp_region_lit ?_
  refine F.vl (R_assign rfl (ev_c fa _)) ?_; clear F fa; intro fa F
  refine F.vl (R_assign rfl (ev_c fa _)) ?_; clear F fa; intro fa F
  refine wpList_nil ?_
  rw [show (0 : Int) = usdN l 0 from rfl] at F
  replace F := F.re (k := 5) rfl (show Value.int .i64 (usdN l 0) = .int .i64 (l.take 0).sum from rfl)
  refine hK2 _ _ ?_
  clear hK2
  refine wp_seq_k fun K3 hK3 => ?_
  refine wp_seq_k fun K4 hK4 => ?_
  refine wp_region_lit ?_
  refine F.vl (R_assign rfl (ev_c fa _)) ?_; clear F fa; intro fa F
  refine wpList_nil ?_
  refine hK4 _ _ ?_
  clear hK4
  refine wp_block ?_
  have F0 := F.sub (.c 0 rfl .n)
  refine lp_for F0 (l.length) (fun i Lv W => Lv = [(4, .int .i64 (usdN l i)), (5, .int .i64 ((l.take i).sum)), (6, .int .i64 ((i : Nat) : Int))] ∧ Ext [] w W) ⟨_, ⟨rfl, E⟩, F.sub (.c 4 rfl (.c 5 rfl (.c 6 rfl (.c 0 rfl .n))))⟩ ?_
  clear F F0
  clear E
  rintro i _ fa w1 hi1 ⟨rfl, E⟩ F
  have hub := rowU_bd (fun k => decide (l.getD k 0 ≠ 0)) i
  replace hub : 0 ≤ usdN l i ∧ usdN l i ≤ i := hub
  refine wp_seq_k fun K5 hK5 => ?_
  refine wp_seq_k fun K6 hK6 => ?_
  refine wp_region_lit ?_
  refine F.mv ?_; clear F fa; intro fa F
  refine F.mv ?_; clear F fa; intro fa F
  refine F.vl (R_len rfl rfl (F.at rfl) Try.underlying25) ?_; clear F fa; intro fa F
  refine F.vl (R_lss rfl (F.at rfl) (F.at rfl)) ?_; clear F fa; intro fa F
  refine wpList_nil ?_
  refine hK6 _ _ ?_
  clear hK6
  refine cd_if F rfl (fun hc10 => ?_) (fun hc10 => ?_)
  · skip
    refine wp_skip ?_
    refine hK5 _ _ ?_
    clear hK5
    refine wp_seq_k fun K7 hK7 => ?_
    refine wp_block ?_
    refine wp_seq_k fun K8 hK8 => ?_
    refine wp_seq_k fun K9 hK9 => ?_
    refine wp_region_lit ?_
    refine F.mv ?_; clear F fa; intro fa F
    refine F.mv ?_; clear F fa; intro fa F
    obtain ⟨xb10, xo10, xa10, xr10⟩ := HS.out i (by omega)
    refine F.vl (R_ixSlice (sz := 1) rfl ((F.at rfl).trans (xa10 _ _)) (F.at rfl) Try.underlying25 (by kernel_rfl) (by omega) (by omega)) ?_; clear F fa; intro fa F
    refine F.vl (R_load rfl (F.at rfl) Try.underlying3 rfl (xr10 _ E 0 _ rfl)) ?_; clear F fa; intro fa F
    refine F.vl (R_neqD rfl (F.at rfl) (ev_c fa _)) ?_; clear F fa; intro fa F
    refine wpList_nil ?_
    refine hK9 _ _ ?_
    clear hK9
    refine cd_if F rfl (fun hc17 => ?_) (fun hc17 => ?_)
    · skip
      have hun : usdN l i + 1 = usdN l (i + 1) := by show rowU _ i + 1 = rowU _ i + bI (decide (l.getD i 0 ≠ 0)); rw [decide_eq_true hc17]; rfl
      refine wp_region_lit ?_
      refine F.mv ?_; clear F fa; intro fa F
      refine F.vl (R_add rfl (F.at rfl) (ev_c fa _) (by omega) (by omega)) ?_; clear F fa; intro fa F
      rw [hun] at F
      refine F.as ?_; clear F fa; intro fa F
      refine wpList_nil ?_
      refine hK8 _ _ ?_
      clear hK8
      have hsb := sum_take_bd HB.out i
      have hnb := HB.out _ (getD_mem 0 (show i < l.length by omega))
      refine wp_region_lit ?_
      refine F.mv ?_; clear F fa; intro fa F
      refine F.mv ?_; clear F fa; intro fa F
      refine F.mv ?_; clear F fa; intro fa F
      obtain ⟨xb11, xo11, xa11, xr11⟩ := HS.out i (by omega)
      refine F.vl (R_ixSlice (sz := 1) rfl ((F.at rfl).trans (xa11 _ _)) (F.at rfl) Try.underlying25 (by kernel_rfl) (by omega) (by omega)) ?_; clear F fa; intro fa F
      refine F.vl (R_load rfl (F.at rfl) Try.underlying3 rfl (xr11 _ E 0 _ rfl)) ?_; clear F fa; intro fa F
      refine F.vl (R_add rfl (F.at rfl) (F.at rfl) (by omega) (by omega)) ?_; clear F fa; intro fa F
      rw [← sum_take l (by omega)] at F
      refine F.as ?_; clear F fa; intro fa F
      refine wpList_nil ?_
      refine hK7 _ _ ?_
      clear hK7
      refine wp_region_lit ?_
      refine F.mv ?_; clear F fa; intro fa F
      refine F.vl (R_add rfl (F.at rfl) (ev_c fa _) (by omega) (by omega)) ?_; clear F fa; intro fa F
      refine F.as ?_; clear F fa; intro fa F
      refine wpList_nil ?_
      show _ ∧ _
      exact ⟨by omega, _, ⟨rfl, E⟩, F.sub (.c 4 rfl (.c 5 rfl (.c 6 rfl (.c 0 rfl .n))))⟩
    · skip
      have hun : usdN l i = usdN l (i + 1) := by show rowU _ i = rowU _ i + bI (decide (l.getD i 0 ≠ 0)); rw [decide_eq_false hc17]; exact (Int.add_zero _).symm
      rw [hun] at F
      refine wp_skip ?_
      refine hK8 _ _ ?_
      clear hK8
      have hsb := sum_take_bd HB.out i
      have hnb := HB.out _ (getD_mem 0 (show i < l.length by omega))
      refine wp_region_lit ?_
      refine F.mv ?_; clear F fa; intro fa F
      refine F.mv ?_; clear F fa; intro fa F
      refine F.mv ?_; clear F fa; intro fa F
      obtain ⟨xb12, xo12, xa12, xr12⟩ := HS.out i (by omega)
      refine F.vl (R_ixSlice (sz := 1) rfl ((F.at rfl).trans (xa12 _ _)) (F.at rfl) Try.underlying25 (by kernel_rfl) (by omega) (by omega)) ?_; clear F fa; intro fa F
      refine F.vl (R_load rfl (F.at rfl) Try.underlying3 rfl (xr12 _ E 0 _ rfl)) ?_; clear F fa; intro fa F
      refine F.vl (R_add rfl (F.at rfl) (F.at rfl) (by omega) (by omega)) ?_; clear F fa; intro fa F
      rw [← sum_take l (by omega)] at F
      refine F.as ?_; clear F fa; intro fa F
      refine wpList_nil ?_
      refine hK7 _ _ ?_
      clear hK7
      refine wp_region_lit ?_
      refine F.mv ?_; clear F fa; intro fa F
      refine F.vl (R_add rfl (F.at rfl) (ev_c fa _) (by omega) (by omega)) ?_; clear F fa; intro fa F
      refine F.as ?_; clear F fa; intro fa F
      refine wpList_nil ?_
      show _ ∧ _
      exact ⟨by omega, _, ⟨rfl, E⟩, F.sub (.c 4 rfl (.c 5 rfl (.c 6 rfl (.c 0 rfl .n))))⟩
  · skip
    refine wp_exit ?_
    rw [show i = l.length by omega, List.take_of_length_le (Nat.le_refl _)] at F
    refine hK3 _ _ ?_
    clear hK3
    refine wp_seq_k fun K13 hK13 => ?_
    refine wp_region_lit ?_
    refine F.mv ?_; clear F fa; intro fa F
    refine F.mv ?_; clear F fa; intro fa F
    refine F.as ?_; clear F fa; intro fa F
    refine F.as ?_; clear F fa; intro fa F
    refine wpList_nil ?_
    refine hK13 _ _ ?_
    clear hK13
    refine wp_ret ?_
    (try simp only [Exit.inBlock, Exit.then, reduceIte])
    refine rt_v F (rs_2 F rfl rfl rfl) ?_
    exact ⟨rfl, E⟩
theorem mat_split {x : Vm} {f s : Nat → Int} {ls : List Int} {i : Nat} (hi : i < ls.length) (h : offE x (ls.getD i 0).toNat f s > x.tol * prt f ∨ offE x (ls.getD i 0).toNat f s < -x.tol * prt f) : matE x f s ls = false := by
  refine mat_bad hi ?_
  rw [Int.neg_mul] at h
  omega
set_option maxRecDepth 100000 in
set_option maxHeartbeats 2000000 in
theorem right_ok (x : Vm) (hv : VOk x) (t : List Int) (ht : t.length = x.D.length) (hb : ∀ n ∈ t, 0 ≤ n ∧ n ≤ 6) (s : List Int) (hs : SmpOk x s) (ls : List Int) (hl : LmpOk x ls) (hll : ls.length ≤ 1000) (ta sa la : Option Addr) (tc sc lc : Nat) (w : World) (h : x.At w) (hp : IsRows w (.slice ta t.length tc) 1 (t.map intRow)) (hr : IsRows w (.slice sa s.length sc) 1 (s.map intRow)) (hq : IsRows w (.slice la ls.length lc) 1 (ls.map intRow)) :
    Calls Try.prog 36 #[.agg #[.int .i64 x.B, .slice x.da x.D.length x.dc, .slice x.la x.L.length x.lc, .int .i64 x.tol], .slice ta t.length tc, .slice sa s.length sc, .slice la ls.length lc, .int .i64 x.tol] w fun e w' => e = .returned (.bool (matE x (val t) (val s) ls)) ∧ Ext [] w w' := by
  have E : Ext [] w w := Ext.refl _ _
  have HX := Lib.hid h
  have HV := Lib.hid hv
  have HP := Lib.hid hp
  have HR := Lib.hid hr
  have HQ := Lib.hid (slAt_of_rows hq 0)
  have HS := Lib.hid hs
  have HL := Lib.hid hl
  have HB := Lib.hid hb
  have hb1 := hv.b1
  have hb3 := hv.b3
  have hd4 := hv.d4
  have ht0 := hv.t0
  have ht12 := hv.t12
  obtain ⟨bn, hbn⟩ : ∃ bn : Nat, x.B = bn := ⟨x.B.toNat, by omega⟩
  have hbn2 : x.B.toNat = bn := by omega
  have hts : RowKit.Hid (TubS (val t)) := Lib.hid (fun k _ => val_bd hb (by omega) (by omega) k)
  have hpr : prt (val t) = t.sum := sumTo_list t 4 (by omega)
  have hpb := prt_bd hts.out
  have h7 := mul_bd2 ht0 ht12 hpb.1 hpb.2 (C := 288) (by omega)
  clear h hv hp hr hq hs hl hb
  refine calls_has 57 Try.func36 rfl Try.ntmps36 (Nat.le_of_ble_eq_true rfl) ?_
  intro fa F
  refine wp_seq_k fun K1 hK1 => ?_
  refine wp_region_lit ?_
  refine sq_new F rfl (by decide) rfl (R_box rfl (F.at rfl)) ?_; clear F fa; intro fa w1 F hw
  obtain ⟨n5, hn⟩ : ∃ n, n = w.heap.size := ⟨_, rfl⟩
  rw [← hn] at F
  have s5 : w.heap.size ≤ n5 := Nat.le_of_eq hn.symm
  have l5_E : w.heap.size ≤ n5 := by rw [hn]; exact E.size
  replace E := ext_alloc E hw
  have q5 := new_row hw hn
  clear hw hn
  refine F.vl (R_assign rfl (ev_c fa _)) ?_; clear F fa; intro fa F
  refine wpList_nil ?_
  refine hK1 _ _ ?_
  clear hK1
  refine wp_seq_k fun K2 hK2 => ?_
  refine wp_region_lit ?_
  refine F.vl (R_loadBlk rfl (F.at rfl) Try.underlying24 rfl (by kernel_rfl) q5) ?_; clear F fa; intro fa F
  refine F.mv ?_; clear F fa; intro fa F
  refine sq_call F rfl (by decide) rfl (R_callV rfl rfl Try.call51 (mpS (F.at rfl) (mpS (F.at rfl) mp0))) (sumsOf_ok x HV.out bn hbn t ht HB.out ta tc _ (HX.out.ext E) (HP.out.ext E (by simp))) fun e w2 hR => ?_
  obtain ⟨ua, rfl, uo, e9⟩ := hR
  refine ⟨_, rfl, ?_⟩; clear F fa; intro fa F
  replace q5 := (e9).keep0 q5
  replace E := ext_same E (e9)
  clear e9
  rw [← hpr] at F
  have hsl : (sumL x (val t) bn).length = bn := by simp [sumL]
  have HU := Lib.hid (rows_of_ivs uo hsl.symm)
  obtain ⟨wS, hwS⟩ : ∃ wS, wS = w2 := ⟨_, rfl⟩
  have ES : Ext [] wS w2 := by rw [hwS]; exact Ext.refl _ _
  rw [← hwS] at HU
  clear uo
  have hsb := Lib.hid (sumL_bd HV.out hts.out bn)
  refine F.mv ?_; clear F fa; intro fa F
  refine F.vl (R_extract rfl (F.at rfl) (get0)) ?_; clear F fa; intro fa F
  refine F.vl (R_extract rfl (F.at rfl) (getS (get0))) ?_; clear F fa; intro fa F
  refine F.as ?_; clear F fa; intro fa F
  refine F.as ?_; clear F fa; intro fa F
  refine wpList_nil ?_
  refine hK2 _ _ ?_
  clear hK2
  refine wp_seq_k fun K3 hK3 => ?_
  refine wp_seq_k fun K4 hK4 => ?_
  refine wp_region_lit ?_
  refine F.vl (R_assign rfl (ev_c fa _)) ?_; clear F fa; intro fa F
  refine wpList_nil ?_
  refine hK4 _ _ ?_
  clear hK4
  refine wp_block ?_
  have F0 := F.sub (.c 2 rfl (.c 3 rfl (.c 4 rfl (.c 5 rfl (.c 11 rfl (.c 12 rfl .n))))))
  refine lp_for F0 (ls.length) (fun i Lv W => Lv = [(13, .int .i64 ((i : Nat) : Int))] ∧ Ext [] w W ∧ Ext [] wS W ∧ W.heap[n5]? = some (.cells #[.int .i64 x.B, .slice x.da x.D.length x.dc, .slice x.la x.L.length x.lc, .int .i64 x.tol] 24 (0, 0)) ∧ ∀ j, j < i → max (offE x (ls.getD j 0).toNat (val t) (val s)) (-offE x (ls.getD j 0).toNat (val t) (val s)) ≤ x.tol * prt (val t)) ⟨_, ⟨rfl, E, ES, q5, (fun j h => by omega)⟩, F.sub (.c 13 rfl (.c 2 rfl (.c 3 rfl (.c 4 rfl (.c 5 rfl (.c 11 rfl (.c 12 rfl .n)))))))⟩ ?_
  clear F F0
  clear E ES q5
  rintro i _ fa w3 hi1 ⟨rfl, E, ES, q5, hok⟩ F
  refine wp_seq_k fun K5 hK5 => ?_
  refine wp_seq_k fun K6 hK6 => ?_
  refine wp_region_lit ?_
  refine F.mv ?_; clear F fa; intro fa F
  refine F.mv ?_; clear F fa; intro fa F
  refine F.vl (R_len rfl rfl (F.at rfl) Try.underlying25) ?_; clear F fa; intro fa F
  refine F.vl (R_lss rfl (F.at rfl) (F.at rfl)) ?_; clear F fa; intro fa F
  refine wpList_nil ?_
  refine hK6 _ _ ?_
  clear hK6
  refine cd_if F rfl (fun hc24 => ?_) (fun hc24 => ?_)
  · skip
    refine wp_skip ?_
    refine hK5 _ _ ?_
    clear hK5
    refine wp_seq_k fun K7 hK7 => ?_
    refine wp_block ?_
    refine wp_seq_k fun K8 hK8 => ?_
    obtain ⟨hn0, hn1⟩ := HL.out _ (getD_mem 0 (show i < ls.length by omega))
    obtain ⟨k, hk⟩ : ∃ k : Nat, ls.getD i 0 = k := ⟨(ls.getD i 0).toNat, by omega⟩
    have hko : offE x (ls.getD i 0).toNat (val t) (val s) = dotE (val (x.lamp k)) (tnE x (val t)) bn - prt (val t) * dotE (val (x.lamp k)) (val s) bn := by rw [offE, hbn2, show (ls.getD i 0).toNat = k by omega]
    have hof := off_bd HV.out (show k < x.L.length by omega) hts.out HS.out
    have hdb := dot_bd HV.out (show k < x.L.length by omega) (fun j => smp_bd HS.out j) (n := bn) (by omega)
    have hmb := mul_bd2 hpb.1 hpb.2 hdb.1 hdb.2 (C := 51840) (by omega)
    have hda := dot_bd HV.out (show k < x.L.length by omega) (fun j => tn_bd HV.out hts.out j) (n := bn) (by omega)
    refine region_x (Ext [] w3) none follows fun w4 hh eh => ?_
    have q5_ := q5
    replace q5 := keep_same hh q5
    have E_ := E
    have zEw4 := E.size
    replace E := ext_same E eh
    have ES_ := ES
    have zESw4 := ES.size
    replace ES := ext_same ES eh
    have eT := eh
    clear hh eh
    refine F.xr (i := 0) rfl (fun w' hS => R_loadBlk rfl (F.at rfl) Try.underlying24 rfl (by kernel_rfl) (hS.keep q5_ (by simp))) (fun _ => eT) ?_; clear F fa; intro fa F
    refine F.x (i := 1) rfl (fun w' => R_move rfl (F.at rfl)) (fun _ => eT) ?_; clear F fa; intro fa F
    refine F.x (i := 2) rfl (fun w' => R_move rfl (F.at rfl)) (fun _ => eT) ?_; clear F fa; intro fa F
    obtain ⟨xb9, xo9, xa9, xr9⟩ := HQ.out i (by omega)
    refine F.x (i := 3) rfl (fun w' => R_ixSlice (sz := 1) rfl ((F.at rfl).trans (xa9 _ _)) (F.at rfl) Try.underlying25 (by kernel_rfl) (by omega) (by omega)) (fun _ => eT) ?_; clear F fa; intro fa F
    refine F.xr (i := 4) rfl (fun w' hS => R_load rfl (F.at rfl) Try.underlying3 rfl (xr9 _ (E_.nil hS) 0 _ rfl)) (fun _ => eT) ?_; clear F fa; intro fa F
    rw [hk] at F
    refine F.x (i := 5) rfl (fun w' => R_move rfl (F.at rfl)) (fun _ => eT) ?_; clear F fa; intro fa F
    refine F.x (i := 7) rfl (fun w' => R_move rfl (F.at rfl)) (fun _ => eT) ?_; clear F fa; intro fa F
    refine F.xr (i := 8) rfl (fun w' hS => R_loadBlk rfl (F.at rfl) Try.underlying24 rfl (by kernel_rfl) (hS.keep q5_ (by simp))) (fun _ => eT) ?_; clear F fa; intro fa F
    refine F.x (i := 9) rfl (fun w' => R_move rfl (F.at rfl)) (fun _ => eT) ?_; clear F fa; intro fa F
    refine F.x (i := 10) rfl (fun w' => R_move rfl (F.at rfl)) (fun _ => eT) ?_; clear F fa; intro fa F
    obtain ⟨xb10, xo10, xa10, xr10⟩ := HQ.out i (by omega)
    refine F.x (i := 11) rfl (fun w' => R_ixSlice (sz := 1) rfl ((F.at rfl).trans (xa10 _ _)) (F.at rfl) Try.underlying25 (by kernel_rfl) (by omega) (by omega)) (fun _ => eT) ?_; clear F fa; intro fa F
    refine F.xr (i := 12) rfl (fun w' hS => R_load rfl (F.at rfl) Try.underlying3 rfl (xr10 _ (E_.nil hS) 0 _ rfl)) (fun _ => eT) ?_; clear F fa; intro fa F
    rw [hk] at F
    refine F.x (i := 13) rfl (fun w' => R_move rfl (F.at rfl)) (fun _ => eT) ?_; clear F fa; intro fa F
    have hwe := weightOf_ok x HV.out k (by omega) bn hbn (sumL x (val t) bn) hsl (fun n hn => by have := hsb.out n hn; omega) ua bn w4 (HX.out.ext E) (by rw [hsl]; exact HU.out.ext ES (by simp))
    rw [hsl] at hwe
    have hdx := dot_sumL x (val t) (val (x.lamp k)) bn
    rw [hsl] at hdx
    rw [hdx] at hwe
    refine ax_only (i := 6) (by kernel_rfl) (op_call F rfl rfl (by decide) rfl (R_callV rfl rfl Try.call93 (mpS (F.at rfl) (mpS (F.at rfl) (mpS (F.at rfl) mp0)))) (hwe) fun e w5 hR => ?_)
    obtain ⟨rfl, e9⟩ := hR
    refine ⟨_, rfl, ?_⟩; clear F fa; intro fa F
    replace q5 := (e9).keep0 q5
    replace E := ext_same E (e9)
    replace ES := ext_same ES (e9)
    replace eT := ext_same eT (e9)
    clear e9
    refine ⟨fun _ => eT, ?_⟩
    clear hwe hdx
    have hsn : s.length = bn := by have := HS.out.1; omega
    refine ax_only (i := 14) (by kernel_rfl) (op_call F rfl rfl (by decide) rfl (R_callV rfl rfl Try.call93 (mpS (F.at rfl) (mpS (F.at rfl) (mpS (F.at rfl) mp0)))) (weightOf_ok x HV.out k (by omega) bn hbn s hsn (fun n hn => by have := HS.out.2 n hn; omega) sa sc _ (HX.out.ext E) (HR.out.ext E (by simp))) fun e w6 hR => ?_)
    obtain ⟨rfl, e9⟩ := hR
    refine ⟨_, rfl, ?_⟩; clear F fa; intro fa F
    replace q5 := (e9).keep0 q5
    replace E := ext_same E (e9)
    replace ES := ext_same ES (e9)
    replace eT := ext_same eT (e9)
    clear e9
    refine ⟨fun _ => eT, ?_⟩
    refine F.x (i := 15) rfl (fun w' => R_mul rfl (F.at rfl) (F.at rfl) (by omega) (by omega)) (fun _ => eT) ?_; clear F fa; intro fa F
    refine F.x (i := 16) rfl (fun w' => R_sub rfl (F.at rfl) (F.at rfl) (by omega) (by omega)) (fun _ => eT) ?_; clear F fa; intro fa F
    refine F.x (i := 17) rfl (fun w' => R_assign rfl (F.at rfl)) (fun _ => eT) ?_; clear F fa; intro fa F
    refine ax_done (by kernel_rfl) ?_ _
    clear eT q5_ E_ ES_
    rw [← hko] at F
    refine hK8 _ _ ?_
    clear hK8
    refine wp_seq_k fun K11 hK11 => ?_
    have hneg : -x.tol * prt (val t) = -(x.tol * prt (val t)) := Int.neg_mul _ _
    rw [show x.lamp k = x.lamp (ls.getD i 0).toNat by rw [hk]; rfl] at hdb hda
    have hof2 := hof
    rw [show k = (ls.getD i 0).toNat by rw [hk]; rfl] at hof2
    refine wp_region_lit ?_
    refine F.mv ?_; clear F fa; intro fa F
    refine F.mv ?_; clear F fa; intro fa F
    refine F.mv ?_; clear F fa; intro fa F
    refine F.vl (R_mul rfl (F.at rfl) (F.at rfl) (by omega) (by omega)) ?_; clear F fa; intro fa F
    refine F.vl (R_gtr rfl (F.at rfl) (F.at rfl)) ?_; clear F fa; intro fa F
    refine F.mv ?_; clear F fa; intro fa F
    by_cases hg1 : ((x.tol * (prt (val t))) < (offE x (ls.getD i 0).toNat (val t) (val s)))
    · skip
      replace F := F.re (k := 49) rfl (congrArg Value.bool (decide_eq_true hg1))
      refine sq_no F rfl (by decide) (wantF F rfl rfl (by decide) rfl (by decide)) ?_; clear F fa; intro fa F
      refine sq_no F rfl (by decide) (wantF F rfl rfl (by decide) rfl (by decide)) ?_; clear F fa; intro fa F
      refine sq_no F rfl (by decide) (wantF F rfl rfl (by decide) rfl (by decide)) ?_; clear F fa; intro fa F
      refine sq_no F rfl (by decide) (wantF F rfl rfl (by decide) rfl (by decide)) ?_; clear F fa; intro fa F
      refine sq_no F rfl (by decide) (wantF F rfl rfl (by decide) rfl (by decide)) ?_; clear F fa; intro fa F
      refine sq_no F rfl (by decide) (wantF F rfl rfl (by decide) rfl (by decide)) ?_; clear F fa; intro fa F
      refine F.vl (R_pickT rfl (F.at rfl) (ev_c fa _)) ?_; clear F fa; intro fa F
      refine wpList_nil ?_
      refine hK11 _ _ ?_
      clear hK11
      refine cd_T F rfl ?_
      refine wp_seq_k fun K12 hK12 => ?_
      refine wp_region_lit ?_
      refine F.vl (R_assign rfl (ev_c fa _)) ?_; clear F fa; intro fa F
      refine wpList_nil ?_
      refine hK12 _ _ ?_
      clear hK12
      refine wp_ret ?_
      (try simp only [Exit.inBlock, Exit.then, reduceIte])
      refine rt_v F (rs_1 F rfl rfl) ?_
      exact ⟨ret_bool (mat_split (show i < ls.length by omega) (.inl hg1)).symm, E⟩
    · skip
      replace F := F.re (k := 49) rfl (congrArg Value.bool (decide_eq_false hg1))
      refine F.mv ?_ (hw := (wantT F rfl rfl (by decide) rfl)); clear F fa; intro fa F
      refine F.mv ?_ (hw := (wantT F rfl rfl (by decide) rfl)); clear F fa; intro fa F
      refine F.vl (R_neg rfl (F.at rfl) (by omega) (by omega)) ?_ (hw := (wantT F rfl rfl (by decide) rfl)); clear F fa; intro fa F
      refine F.mv ?_ (hw := (wantT F rfl rfl (by decide) rfl)); clear F fa; intro fa F
      refine F.vl (R_mul rfl (F.at rfl) (F.at rfl) (by omega) (by omega)) ?_ (hw := (wantT F rfl rfl (by decide) rfl)); clear F fa; intro fa F
      refine F.vl (R_lss rfl (F.at rfl) (F.at rfl)) ?_ (hw := (wantT F rfl rfl (by decide) rfl)); clear F fa; intro fa F
      refine F.vl (R_pickF rfl (F.at rfl) (F.at rfl)) ?_; clear F fa; intro fa F
      refine wpList_nil ?_
      refine hK11 _ _ ?_
      clear hK11
      refine cd_if F rfl (fun hc56 => ?_) (fun hc56 => ?_)
      · skip
        refine wp_seq_k fun K13 hK13 => ?_
        refine wp_region_lit ?_
        refine F.vl (R_assign rfl (ev_c fa _)) ?_; clear F fa; intro fa F
        refine wpList_nil ?_
        refine hK13 _ _ ?_
        clear hK13
        refine wp_ret ?_
        (try simp only [Exit.inBlock, Exit.then, reduceIte])
        refine rt_v F (rs_1 F rfl rfl) ?_
        exact ⟨ret_bool (mat_split (show i < ls.length by omega) (.inr hc56)).symm, E⟩
      · skip
        have hthis : max (offE x (ls.getD i 0).toNat (val t) (val s)) (-offE x (ls.getD i 0).toNat (val t) (val s)) ≤ x.tol * prt (val t) := by omega
        refine wp_skip ?_
        refine hK7 _ _ ?_
        clear hK7
        refine wp_region_lit ?_
        refine F.mv ?_; clear F fa; intro fa F
        refine F.vl (R_add rfl (F.at rfl) (ev_c fa _) (by omega) (by omega)) ?_; clear F fa; intro fa F
        refine F.as ?_; clear F fa; intro fa F
        refine wpList_nil ?_
        show _ ∧ _
        exact ⟨by omega, _, ⟨rfl, E, ES, q5, (fun j h => by rcases Nat.lt_succ_iff_lt_or_eq.1 h with h | rfl; (· exact hok j h); (· exact hthis))⟩, F.sub (.c 13 rfl (.c 2 rfl (.c 3 rfl (.c 4 rfl (.c 5 rfl (.c 11 rfl (.c 12 rfl .n)))))))⟩
  · skip
    refine wp_exit ?_
    refine hK3 _ _ ?_
    clear hK3
    refine wp_seq_k fun K14 hK14 => ?_
    refine wp_region_lit ?_
    refine F.vl (R_assign rfl (ev_c fa _)) ?_; clear F fa; intro fa F
    refine wpList_nil ?_
    refine hK14 _ _ ?_
    clear hK14
    refine wp_ret ?_
    (try simp only [Exit.inBlock, Exit.then, reduceIte])
    refine rt_v F (rs_1 F rfl rfl) ?_
    exact ⟨ret_bool (mat_all (fun j hj => hok j (by omega))).symm, E⟩
end Go.Proofs.Ytdjeecgddbjbeaa
