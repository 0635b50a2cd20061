/- The program's Shades. Conditions: all arguments are valid. -/
import Derived.Test.YtdjeecgddbjbeaaDsh
namespace Go.Proofs.Ytdjeecgddbjbeaa
open Go.RowKit
set_option linter.unusedVariables false
set_option linter.unusedSimpArgs false
def nums (n : Nat) : List Int := (List.range n).map fun i => ((i : Nat) : Int)
theorem nums_len (n : Nat) : (nums n).length = n := by simp [nums]
theorem nums_succ (n : Nat) : nums (n + 1) = nums n ++ [((n : Nat) : Int)] := by simp [nums, List.range_succ]
theorem nums_mem {n : Nat} : ∀ m ∈ nums n, 0 ≤ m ∧ m < n := by
  intro m hm
  simp only [nums, List.mem_map, List.mem_range] at hm
  obtain ⟨i, hi, rfl⟩ := hm
  omega
/-- Stuffs in the order of their lightness. -/
def shaR (x : Vm) (lp : Nat) (T : List (List Int)) : List Int := srtL (shdE x T lp) (nums T.length)
theorem srtL_len (c : Int → Int → Int) (l : List Int) : (srtL c l).length = l.length := by rw [srtL, srt_len]
set_option maxRecDepth 100000 in
set_option maxHeartbeats 2000000 in
theorem xShades_ok (x : Vm) (hv : VOk x) (lp : Nat) (hlp : lp < x.L.length) (S : List (Value × List Int)) (hs : ∀ p ∈ S, RcpOk x p.2) (h6 : S.length ≤ 6) (a : Option Addr) (c : Nat) (w : World) (h : x.At w) (hl : LolAt w a S) :
    Calls Try.prog 30 #[.agg #[.int .i64 x.B, .slice x.da x.D.length x.dc, .slice x.la x.L.length x.lc, .int .i64 x.tol], .int .i64 ((lp : Nat) : Int), .slice a S.length c] w (IntsPost (shaR x lp (S.map (·.2)), 0) w) := by
  have E : Ext [] w w := Ext.refl _ _
  have HX := Lib.hid h
  have HV := Lib.hid hv
  have HL := Lib.hid hl
  have HS := Lib.hid hs
  obtain ⟨T, hT⟩ : ∃ T, T = S.map (·.2) := ⟨_, rfl⟩
  have hTl : T.length = S.length := by rw [hT, List.length_map]
  have HT : RowKit.Hid (∀ t ∈ T, TubS (val t)) := Lib.hid (fun t ht => by
    rw [hT] at ht
    obtain ⟨p, hp, rfl⟩ := List.mem_map.1 ht
    exact (hs p hp).tub)
  clear h hv hl hs
  refine calls_hasM 33 Try.func30 rfl Try.ntmps30 (Nat.le_of_ble_eq_true rfl) ?_
  intro fa F
  refine wp_seq_k fun K1 hK1 => ?_
  refine wp_region_lit ?_
  refine sq_new F rfl (by decide) rfl (R_box rfl (F.at rfl)) ?_; clear F fa; intro fa w1 F hw
  obtain ⟨n3, hn⟩ : ∃ n, n = w.heap.size := ⟨_, rfl⟩
  rw [← hn] at F
  have s3 : w.heap.size ≤ n3 := Nat.le_of_eq hn.symm
  have l3_E : w.heap.size ≤ n3 := by rw [hn]; exact E.size
  replace E := ext_alloc E hw
  have q3 := new_row hw hn
  clear hw hn
  refine sq_new F rfl (by decide) rfl (R_box rfl (F.at rfl)) ?_; clear F fa; intro fa w2 F hw
  obtain ⟨n4, hn⟩ : ∃ n, n = w1.heap.size := ⟨_, rfl⟩
  rw [← hn] at F
  have s4 : w1.heap.size ≤ n4 := Nat.le_of_eq hn.symm
  have l4_E : w.heap.size ≤ n4 := by rw [hn]; exact E.size
  have m4_3 : n3 < n4 := by rw [hn]; exact blk_lt q3
  replace q3 := keep_alloc hw q3
  replace E := ext_alloc E hw
  have q4 := new_one hw rfl hn
  clear hw hn
  refine F.vl (R_assign rfl (ev_c fa _)) ?_; clear F fa; intro fa F
  refine sq_new F rfl (by decide) rfl (R_alloc rfl Try.zeroValue35) ?_; clear F fa; intro fa w3 F hw
  obtain ⟨n7, hn⟩ : ∃ n, n = w2.heap.size := ⟨_, rfl⟩
  rw [← hn] at F
  have s7 : w2.heap.size ≤ n7 := Nat.le_of_eq hn.symm
  have l7_E : w.heap.size ≤ n7 := by rw [hn]; exact E.size
  have m7_3 : n3 < n7 := by rw [hn]; exact blk_lt q3
  have m7_4 : n4 < n7 := by rw [hn]; exact blk_lt q4
  replace q3 := keep_alloc hw q3
  replace q4 := keep_alloc hw q4
  replace E := ext_alloc E hw
  have q7 := new_one hw rfl hn
  clear hw hn
  refine wpList_nil ?_
  refine hK1 _ _ ?_
  clear hK1
  refine wp_seq_k fun K2 hK2 => ?_
  refine wp_region_lit ?_
  refine sq_defer F rfl rfl (R_defer rfl rfl (mpS (F.at rfl) mp0)) ?_; clear F fa; intro fa F
  refine wpList_nil ?_
  refine hK2 _ _ ?_
  clear hK2
  refine wp_seq_k fun K3 hK3 => ?_
  refine wp_region_lit ?_
  refine F.vl (R_loadBlk rfl (F.at rfl) Try.underlying24 rfl (by kernel_rfl) q3) ?_; clear F fa; intro fa F
  refine sq_call F rfl (by decide) rfl (R_callV rfl rfl Try.call54 (mpS (F.at rfl) mp0)) (begin_ok x HV.out _ (HX.out.ext E)) fun e w4 hR => ?_
  obtain ⟨rfl, e9⟩ := hR
  refine ⟨_, rfl, ?_⟩; clear F fa; intro fa F
  replace q3 := (e9).keep0 q3
  replace q4 := (e9).keep0 q4
  replace q7 := (e9).keep0 q7
  replace E := ext_same E (e9)
  clear e9
  refine sq_new F rfl (by decide) rfl (R_alloc rfl Try.zeroValue80) ?_; clear F fa; intro fa w5 F hw
  obtain ⟨n8, hn⟩ : ∃ n, n = w4.heap.size := ⟨_, rfl⟩
  rw [← hn] at F
  have s8 : w4.heap.size ≤ n8 := Nat.le_of_eq hn.symm
  have l8_E : w.heap.size ≤ n8 := by rw [hn]; exact E.size
  have m8_3 : n3 < n8 := by rw [hn]; exact blk_lt q3
  have m8_4 : n4 < n8 := by rw [hn]; exact blk_lt q4
  have m8_7 : n7 < n8 := by rw [hn]; exact blk_lt q7
  replace q3 := keep_alloc hw q3
  replace q4 := keep_alloc hw q4
  replace q7 := keep_alloc hw q7
  replace E := ext_alloc E hw
  have q8 := new_row hw hn
  clear hw hn
  refine sq_to rfl rfl (R_storeRow rfl (F.at rfl) (F.at rfl) (by kernel_rfl) (by first | (simp [Value.oneCell']; done) | (simp [Value.oneCell', id]; done)) q8 rfl) ?_; intro w6 hw
  replace q3 := keep_cells hw q3 (by omega)
  replace q4 := keep_cells hw q4 (by omega)
  replace q7 := keep_cells hw q7 (by omega)
  replace q8 := put_row hw q8 rfl
  replace E := ext_cells E hw (fun h => by first | exact absurd h (by omega) | simp)
  clear hw
  refine wpList_nil ?_
  refine hK3 _ _ ?_
  clear hK3
  refine wp_seq_k fun K4 hK4 => ?_
  refine wp_region_lit ?_
  refine F.vl (R_loadBlk rfl (F.at rfl) Try.underlying80 rfl (by kernel_rfl) q8) ?_; clear F fa; intro fa F
  refine F.vl (R_load rfl (F.at rfl) Try.underlying3 rfl ((cells_of_block q4 0).trans (get0))) ?_; clear F fa; intro fa F
  refine sq_call F rfl (by decide) rfl (R_callV rfl rfl Try.call82 (mpS (F.at rfl) (mpS (F.at rfl) mp0))) (lamp_ok x HV.out ((lp : Nat) : Int) (by omega) (by omega) _) fun e w7 hR => ?_
  obtain ⟨rfl, e9⟩ := hR
  refine ⟨_, rfl, ?_⟩; clear F fa; intro fa F
  replace q3 := (e9).keep0 q3
  replace q4 := (e9).keep0 q4
  replace q7 := (e9).keep0 q7
  replace q8 := (e9).keep0 q8
  replace E := ext_same E (e9)
  clear e9
  refine wpList_nil ?_
  refine hK4 _ _ ?_
  clear hK4
  refine wp_seq_k fun K5 hK5 => ?_
  refine wp_region_lit ?_
  refine F.vl (R_loadBlk rfl (F.at rfl) Try.underlying80 rfl (by kernel_rfl) q8) ?_; clear F fa; intro fa F
  refine F.mv ?_; clear F fa; intro fa F
  refine sq_call F rfl (by decide) rfl (R_callV rfl rfl Try.call71 (mpS (F.at rfl) (mpS (F.at rfl) mp0))) (stuffs_ok x HV.out S HS.out h6 a c _ (HL.out.ext E)) fun e w8 hR => ?_
  obtain ⟨ma, mc, rfl, om, e9⟩ := hR
  refine ⟨_, rfl, ?_⟩; clear F fa; intro fa F
  replace q3 := (e9).keep0 q3
  replace q4 := (e9).keep0 q4
  replace q7 := (e9).keep0 q7
  replace q8 := (e9).keep0 q8
  replace E := ext_same E (e9)
  clear e9
  rw [← hT, ← hTl] at om
  rw [← hTl] at F
  have hrm := Lib.hid (rows_of_owns (row := fun t : List Int => tubR (val t)) om (fun _ => rfl))
  clear om
  obtain ⟨wM, hwM⟩ : ∃ wM, wM = w8 := ⟨_, rfl⟩
  have EM : Ext [] wM w8 := by rw [hwM]; exact Ext.refl _ _
  rw [← hwM] at hrm
  refine sq_new F rfl (by decide) rfl (R_alloc rfl Try.zeroValue102) ?_; clear F fa; intro fa w9 F hw
  obtain ⟨n9, hn⟩ : ∃ n, n = w8.heap.size := ⟨_, rfl⟩
  rw [← hn] at F
  have s9 : w8.heap.size ≤ n9 := Nat.le_of_eq hn.symm
  have l9_E : w.heap.size ≤ n9 := by rw [hn]; exact E.size
  have l9_EM : wM.heap.size ≤ n9 := by rw [hn]; exact EM.size
  have m9_3 : n3 < n9 := by rw [hn]; exact blk_lt q3
  have m9_4 : n4 < n9 := by rw [hn]; exact blk_lt q4
  have m9_7 : n7 < n9 := by rw [hn]; exact blk_lt q7
  have m9_8 : n8 < n9 := by rw [hn]; exact blk_lt q8
  replace q3 := keep_alloc hw q3
  replace q4 := keep_alloc hw q4
  replace q7 := keep_alloc hw q7
  replace q8 := keep_alloc hw q8
  replace E := ext_alloc E hw
  replace EM := ext_alloc EM hw
  have q9 := new_one hw rfl hn
  clear hw hn
  refine sq_to rfl rfl (R_store rfl (F.at rfl) (F.at rfl) rfl (by kernel_rfl) ((cells_of_block q9 0).trans (get0)) (free_of_block q9 0)) ?_; intro w10 hw
  replace q3 := keep_cell hw q3 (by omega)
  replace q4 := keep_cell hw q4 (by omega)
  replace q7 := keep_cell hw q7 (by omega)
  replace q8 := keep_cell hw q8 (by omega)
  replace q9 := put_cell hw q9 (by simp only [List.setIfInBounds_toArray, List.set_cons_succ, List.set_cons_zero]; exact rfl)
  replace E := ext_cell E hw (fun h => by first | exact absurd h (by omega) | simp)
  replace EM := ext_cell EM hw (fun h => by first | exact absurd h (by omega) | simp)
  clear hw
  refine wpList_nil ?_
  refine hK5 _ _ ?_
  clear hK5
  refine wp_seq_k fun K6 hK6 => ?_
  refine wp_seq_k fun K7 hK7 => ?_
  obtain ⟨wL, hwL⟩ : ∃ wL, wL = w10 := ⟨_, rfl⟩
  have EL : Ext [] wL w10 := by rw [hwL]; exact Ext.refl _ _
  have b4 := blk_lt q4
  have b7 := blk_lt q7
  have b8 := blk_lt q8
  have b9 := blk_lt q9
  rw [← hwL] at b4 b7 b8 b9
  have hww := E.size
  rw [← hwL] at hww
  have hwm := EM.size
  rw [← hwL] at hwm
  have oo : w10.ownsRow wL.heap.size 3 1 (.slice none 0 0) 0 (ivs (nums 0)) := World.ownsRow_nil _ _ _ _
  refine wp_region_lit ?_
  refine F.vl (R_load rfl (F.at rfl) Try.underlying102 rfl ((cells_of_block q9 0).trans (get0))) ?_; clear F fa; intro fa F
  refine F.vl (R_len rfl rfl (F.at rfl) Try.underlying102) ?_; clear F fa; intro fa F
  refine F.vl (R_move rfl (ev_c fa _)) ?_; clear F fa; intro fa F
  refine wpList_nil ?_
  refine hK7 _ _ ?_
  clear hK7
  refine wp_block ?_
  have F0 := F.sub (.c 4 rfl (.c 7 rfl (.c 8 rfl (.c 9 rfl (.c 20 rfl .n)))))
  refine lp_for F0 (T.length) (fun i Lv W => ∃ va : Option Addr, ∃ vc : Nat, Lv = [(6, .slice va i vc), (21, .int .i64 ((i : Nat) : Int))] ∧ Ext [] w W ∧ Ext [] wM W ∧ Ext [] wL W ∧ W.heap[n3]? = some (.cells #[.int .i64 x.B, .slice x.da x.D.length x.dc, .slice x.la x.L.length x.lc, .int .i64 x.tol] 24 (0, 0)) ∧ W.heap[n4]? = some (.cells #[.int .i64 ((lp : Nat) : Int)] 3 (0, 0)) ∧ W.heap[n7]? = some (.cells #[.int .i64 0] 35 (0, 0)) ∧ W.heap[n8]? = some (.cells #[.int .i64 x.B, .slice x.da x.D.length x.dc, .slice x.la x.L.length x.lc, .int .i64 x.tol] 80 (0, 0)) ∧ W.heap[n9]? = some (.cells #[.slice ma T.length mc] 102 (0, 0)) ∧ W.ownsRow wL.heap.size 3 1 (.slice va i vc) i (ivs (nums i))) ⟨_, ⟨none, 0, rfl, E, EM, EL, q3, q4, q7, q8, q9, oo⟩, F.sub (.c 6 rfl (.c 21 rfl (.c 4 rfl (.c 7 rfl (.c 8 rfl (.c 9 rfl (.c 20 rfl .n)))))))⟩ ?_
  clear F F0
  clear E EM EL q3 q4 q7 q8 q9
  clear oo
  rintro i _ fa w11 hi1 ⟨va, vc, rfl, E, EM, EL, q3, q4, q7, q8, q9, oo⟩ F
  refine wp_seq_k fun K8 hK8 => ?_
  refine wp_region_lit ?_
  refine F.vl (R_lss rfl (F.at rfl) (F.at rfl)) ?_; clear F fa; intro fa F
  refine wpList_nil ?_
  refine hK8 _ _ ?_
  clear hK8
  refine wp_seq_k fun K9 hK9 => ?_
  refine cd_if F rfl (fun hc22 => ?_) (fun hc22 => ?_)
  · skip
    refine wp_skip ?_
    refine hK9 _ _ ?_
    clear hK9
    refine wp_seq_k fun K10 hK10 => ?_
    refine wp_block ?_
    refine wp_seq_k fun K11 hK11 => ?_
    refine wp_region_lit ?_
    refine F.mv ?_; clear F fa; intro fa F
    refine F.as ?_; clear F fa; intro fa F
    refine wpList_nil ?_
    refine hK11 _ _ ?_
    clear hK11
    refine wp_region_lit ?_
    refine F.mv ?_; clear F fa; intro fa F
    refine F.mv ?_; clear F fa; intro fa F
    refine sq_new F rfl (by decide) rfl (R_buildSliceV rfl (prS (F.at rfl) pr0) Try.underlying25 (size := 1) (by kernel_rfl) (by decide) (by decide) Try.zeroValue3 (cells := #[.int .i64 ((i : Nat) : Int)]) (by kernel_rfl)) ?_; clear F fa; intro fa w12 F hw
    obtain ⟨n26, hn⟩ : ∃ n, n = w11.heap.size := ⟨_, rfl⟩
    rw [← hn] at F
    have s26 : w11.heap.size ≤ n26 := Nat.le_of_eq hn.symm
    have l26_E : w.heap.size ≤ n26 := by rw [hn]; exact E.size
    have l26_EM : wM.heap.size ≤ n26 := by rw [hn]; exact EM.size
    have l26_EL : wL.heap.size ≤ n26 := by rw [hn]; exact EL.size
    have m26_3 : n3 < n26 := by rw [hn]; exact blk_lt q3
    have m26_4 : n4 < n26 := by rw [hn]; exact blk_lt q4
    have m26_7 : n7 < n26 := by rw [hn]; exact blk_lt q7
    have m26_8 : n8 < n26 := by rw [hn]; exact blk_lt q8
    have m26_9 : n9 < n26 := by rw [hn]; exact blk_lt q9
    have o26_oo := Lib.hid (own_ne_new oo hn)
    replace oo := owns_alloc hw oo
    replace q3 := keep_alloc hw q3
    replace q4 := keep_alloc hw q4
    replace q7 := keep_alloc hw q7
    replace q8 := keep_alloc hw q8
    replace q9 := keep_alloc hw q9
    replace E := ext_alloc E hw
    replace EM := ext_alloc EM hw
    replace EL := ext_alloc EL hw
    have q26 := new_block hw hn
    clear hw hn
    have hEs := EL.size
    refine sq_some F rfl (by decide) rfl (append_run rfl (wL.heap.size) (e := 3) (size := 1) (bytes := 8) Try.underlying25 (by kernel_rfl) (by decide) (F.at rfl) oo (F.at rfl) q26 rfl (by simp [Value.oneCell']) (by omega) (by omega) (by omega)) ?_; clear F fa; rintro fa v' w13 F ⟨hown', hg⟩
    obtain ⟨va27, vc27, rfl⟩ := owns_slice hown'
    replace q3 := keep_type oo hg q3 (by decide)
    replace q4 := keep_append oo hg q4 (by omega)
    replace q7 := keep_type oo hg q7 (by decide)
    replace q8 := keep_type oo hg q8 (by decide)
    replace q9 := keep_type oo hg q9 (by decide)
    replace E := ext_appendX E oo hg (by omega)
    replace EM := ext_appendX EM oo hg (by omega)
    replace EL := ext_appendX EL oo hg (by omega)
    replace oo := hown'
    clear hg
    rw [show ivs (nums i) ++ [.int .i64 ((i : Nat) : Int)] = ivs (nums (i + 1)) by rw [nums_succ]; simp [ivs]] at oo
    refine F.as ?_; clear F fa; intro fa F
    refine wpList_nil ?_
    refine hK10 _ _ ?_
    clear hK10
    refine wp_region_lit ?_
    refine F.vl (R_add rfl (F.at rfl) (ev_c fa _) (by omega) (by omega)) ?_; clear F fa; intro fa F
    refine F.mv ?_; clear F fa; intro fa F
    refine wpList_nil ?_
    show _ ∧ _
    exact ⟨by omega, _, ⟨_, _, rfl, E, EM, EL, q3, q4, q7, q8, q9, oo⟩, F.sub (.c 6 rfl (.c 21 rfl (.c 4 rfl (.c 7 rfl (.c 8 rfl (.c 9 rfl (.c 20 rfl .n)))))))⟩
  · skip
    refine wp_exit ?_
    rw [show i = T.length by omega] at oo F
    refine hK6 _ _ ?_
    clear hK6
    refine wp_seq_k fun K12 hK12 => ?_
    obtain ⟨r, hrr, hrd⟩ := one_row (.slice va T.length vc) w11.heap.size
    have hrb : wL.heap.size ≤ r := by rcases hrd with h | h; (· exact (oo.lt r h).1); (· rw [h]; exact EL.size)
    refine wp_region_lit ?_
    refine F.mv ?_; clear F fa; intro fa F
    refine F.vl (R_makeFunc rfl (mapsN mp0) (mapsN (mpS (F.at rfl) (mpS (F.at rfl) (mpS (F.at rfl) mp0))))) ?_; clear F fa; intro fa F
    have hEM : Ext [] wM w11 := EM
    refine sq_call F rfl (by decide) rfl (R_callV rfl rfl Try.call83 (mpS (F.at rfl) (mpS (F.at rfl) mp0))) (sortF_any 84 #[.pointer (some ⟨n9, 0, none⟩), .pointer (some ⟨n8, 0, none⟩), .pointer (some ⟨n4, 0, none⟩)] (shdE x T lp) (fun m => 0 ≤ m ∧ m < T.length) wL.heap.size r T.length va vc (nums T.length) _ (nums_len _) (by omega) nums_mem oo hrr Try.call84 (fun W e m k hm hk => shades1_ok x HV.out T HT.out ma mc n9 n8 n4 lp m k hm.1 hm.2 hk.1 hk.2 hlp W (HX.out.extX ((E.mono (Y := [r]) (by simp)).trans e) (by simp; omega)) (e.keep q8 (by simp; omega)) (e.keep q9 (by simp; omega)) (e.keep q4 (by simp; omega)) (slAt_of_rows (row := fun t : List Int => tubR (val t)) (hrm.out.ext ((hEM.mono (Y := [r]) (by simp)).trans e) (by simp; omega)) []) (by omega))) fun e w14 hR => ?_
    obtain ⟨rfl, oo2, e9⟩ := hR
    refine ⟨_, rfl, ?_⟩; clear F fa; intro fa F
    replace q3 := (e9).keep q3 (by simp; omega)
    replace q4 := (e9).keep q4 (by simp; omega)
    replace q7 := (e9).keep q7 (by simp; omega)
    replace q8 := (e9).keep q8 (by simp; omega)
    replace q9 := (e9).keep q9 (by simp; omega)
    replace E := E.trans' e9 (fun i hi hl => by simp only [List.mem_cons, List.not_mem_nil, or_false] at hi ⊢; omega)
    replace EM := EM.trans' e9 (fun i hi hl => by simp only [List.mem_cons, List.not_mem_nil, or_false] at hi ⊢; omega)
    replace EL := EL.trans' e9 (fun i hi hl => by simp only [List.mem_cons, List.not_mem_nil, or_false] at hi ⊢; omega)
    replace oo := oo2
    clear oo2 e9
    refine wpList_nil ?_
    refine hK12 _ _ ?_
    clear hK12
    refine wp_seq_k fun K13 hK13 => ?_
    refine wp_region_lit ?_
    refine F.mv ?_; clear F fa; intro fa F
    refine F.as ?_; clear F fa; intro fa F
    refine sq_to rfl rfl (R_store rfl (F.at rfl) (ev_c fa _) rfl (by kernel_rfl) ((cells_of_block q7 0).trans (get0)) (free_of_block q7 0)) ?_; intro w15 hw
    replace oo := owns_cellX hw oo (own_ne_type oo q7 (by decide))
    replace q3 := keep_cell hw q3 (by omega)
    replace q4 := keep_cell hw q4 (by omega)
    replace q7 := put_cell hw q7 (by simp only [List.setIfInBounds_toArray, List.set_cons_succ, List.set_cons_zero]; exact rfl)
    replace q8 := keep_cell hw q8 (by omega)
    replace q9 := keep_cell hw q9 (by omega)
    replace E := ext_cell E hw (fun h => by first | exact absurd h (by omega) | simp)
    clear hw
    refine wpList_nil ?_
    refine hK13 _ _ ?_
    clear hK13
    refine wp_ret ?_
    (try simp only [Exit.inBlock, Exit.then, reduceIte])
    refine rtM_v F ?_
    refine lv_caught ?_
    refine lv_nil (rs_tc F rfl rfl rfl Try.underlying35 rfl q7) ?_
    rw [← hT, show shaR x lp T = srtL (shdE x T lp) (nums T.length) from rfl]
    have hsl : (srtL (shdE x T lp) (nums T.length)).length = T.length := by rw [srtL_len, nums_len]
    refine ⟨va, vc, ?_, ?_, E⟩
    · simp only [hsl]
    · simp only [hsl]; exact owns_lower oo hww
end Go.Proofs.Ytdjeecgddbjbeaa
