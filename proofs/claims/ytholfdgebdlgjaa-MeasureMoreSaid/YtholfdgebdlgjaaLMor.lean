/- The law MeasureMore: one reading more never widens a bound, and a reading that is there already changes nothing. No conditions. -/
import Derived.Test.YtholfdgebdlgjaaVf
namespace Go.Proofs.Ytholfdgebdlgjaa
open Go.RowKit
set_option linter.unusedVariables false
set_option linter.unusedSimpArgs false
theorem addR_get {t : Tp} {r : Int × Int × Int × Int} {i : Nat} (hi : i < t.rd.length) : (addR t r).rd.getD i (0, 0, 0, 0) = t.rd.getD i (0, 0, 0, 0) := by
  simp [addR, List.getElem?_append_left hi]
theorem addR_last {t : Tp} {r : Int × Int × Int × Int} : (addR t r).rd.getD t.rd.length (0, 0, 0, 0) = r := by simp [addR]
theorem addR_cell {t : Tp} {r : Int × Int × Int × Int} {s a : Nat} {x : Nat → Int} : CellOk (addR t r) s a x ↔ CellOk t s a x := ⟨fun q => ⟨q.lo, q.hi, q.glo, q.ghi⟩, fun q => ⟨q.lo, q.hi, q.glo, q.ghi⟩⟩
theorem addR_tail {t : Tp} {r : Int × Int × Int × Int} {i : Nat} {x : Nat → Int} : TailOk (addR t r) i x ↔ TailOk t i x := ⟨fun q => ⟨q.lo, q.hi⟩, fun q => ⟨q.lo, q.hi⟩⟩
theorem addR_read {t : Tp} {r q : Int × Int × Int × Int} {x : Nat → Int} : ReadOk (addR t r) q x ↔ ReadOk t q x := ⟨fun q => ⟨q.lo, q.hi⟩, fun q => ⟨q.lo, q.hi⟩⟩
theorem addR_tr {t : Tp} {r : Int × Int × Int × Int} {x : Nat → Int} : Tr (addR t r) 0 x ↔ Tr t 0 x ∧ ReadOk t r x := by
  have hl : (addR t r).rd.length = t.rd.length + 1 := by simp [addR]
  have h0 : ∀ i, hasB 0 i = false := fun i => by simp [hasB]
  constructor
  · intro h
    refine ⟨⟨fun s a hs ha => addR_cell.1 (h.cell s a hs ha), fun i hi => addR_tail.1 (h.tail i hi), fun i hi hb => ?_, h.link⟩, ?_⟩
    · have := h.read i (by omega) hb
      rw [addR_get hi] at this
      exact addR_read.1 this
    · have := h.read t.rd.length (by omega) (h0 _)
      rw [addR_last] at this
      exact addR_read.1 this
  · rintro ⟨h, hr⟩
    refine ⟨fun s a hs ha => addR_cell.2 (h.cell s a hs ha), fun i hi => addR_tail.2 (h.tail i hi), fun i hi hb => ?_, h.link⟩
    by_cases e : i < t.rd.length
    · rw [addR_get e]; exact addR_read.2 (h.read i e hb)
    · obtain rfl : i = t.rd.length := by omega
      rw [addR_last]; exact addR_read.2 hr
theorem addR_fit {t : Tp} (ok : t.Ok) {r : Int × Int × Int × Int} (hr : RdFit t r) (h8 : t.rd.length ≤ 7) : (addR t r).Ok ∧ (addR t r).rd.length ≤ 8 := by
  have hl : (addR t r).rd.length = t.rd.length + 1 := by simp [addR]
  refine ⟨⟨ok.S1, ok.S3, ok.A1, ok.A3, ok.T1, ok.T3, ok.bl1, ok.bm1, ok.b, ok.pl1, ok.pm1, ok.p, ok.sl0, ok.sl5, ok.grl, ok.gr, by omega, fun q hm => ?_, ok.lkl, ok.lk⟩, by omega⟩
  rcases List.mem_append.1 hm with h | h
  · exact ok.rd q h
  · obtain rfl : q = r := by simpa using h
    exact hr
theorem ok_fit {t : Tp} (ok : t.Ok) {j : Nat} (hj : j < t.rd.length) : RdFit t (t.rd.getD j (0, 0, 0, 0)) := ok.rd _ (getD_mem (0, 0, 0, 0) hj)
/-- A reading more narrows the bounds. -/
theorem addR_le {t : Tp} {r : Int × Int × Int × Int} (h : t.Live) (h' : (addR t r).Live) {i j : Nat} (hi : live t i) (hj : live t j) : bdV (addR t r) 0 i j ≤ bdV t 0 i j := by
  obtain ⟨-, x, hx, e⟩ := h'.top (i := i) (j := j) hi hj
  have := (h.top hi hj).1 x (addR_tr.1 hx).1
  omega
theorem addR_in {t : Tp} {r : Int × Int × Int × Int} (h : t.Live) (h' : (addR t r).Live) : alikeP t (addR t r) false := by
  have ok := h.ok
  have hA1 := ok.A1
  refine ⟨fun i hi => ?_, fun i hi => ?_⟩
  · obtain ⟨y1, y2, y3, y4⟩ := nd_in2 (S := t.S) (A := t.A) (x := i) (by omega) hi
    have l := live_cellI (t := t) y1 y2 y3 y4
    have a := addR_le h h' (live_zero t) l
    have b := addR_le h h' l (live_zero t)
    refine ⟨?_, fun hs => by cases hs⟩
    unfold mlo mhi
    omega
  · have l := live_tailI (t := t) (i := i) (by omega) hi
    have a := addR_le h h' (live_zero t) l
    have b := addR_le h h' l (live_zero t)
    refine ⟨?_, fun hs => by cases hs⟩
    unfold plo phi
    omega
theorem dup_live {t : Tp} (h : t.Live) {j : Nat} (hj : j < t.rd.length) (h7 : t.rd.length ≤ 7) : (addR t (t.rd.getD j (0, 0, 0, 0))).Live := by
  obtain ⟨x, hx⟩ := h.tr
  obtain ⟨o, l⟩ := addR_fit h.ok (ok_fit h.ok hj) h7
  exact ⟨o, l, x, addR_tr.2 ⟨hx, hx.read j hj (by simp [hasB])⟩⟩
theorem dup_eq {t : Tp} (h : t.Live) {k : Nat} (hk : k < t.rd.length) (h7 : t.rd.length ≤ 7) {i j : Nat} (hi : live t i) (hj : live t j) : bdV (addR t (t.rd.getD k (0, 0, 0, 0))) 0 i j = bdV t 0 i j := by
  have := bd_map (c := 0) h (dup_live h hk h7) hi hj (i' := i) (j' := j) hi hj (fun x hx => ⟨x, addR_tr.2 ⟨hx, hx.read k hk (by simp [hasB])⟩, by omega⟩) (fun x hx => ⟨x, (addR_tr.1 hx).1, by omega⟩)
  omega
theorem dup_alike {t : Tp} (h : t.Live) {k : Nat} (hk : k < t.rd.length) (h7 : t.rd.length ≤ 7) : alikeP t (addR t (t.rd.getD k (0, 0, 0, 0))) true := by
  have ok := h.ok
  have hA1 := ok.A1
  refine ⟨fun i hi => ?_, fun i hi => ?_⟩
  · obtain ⟨y1, y2, y3, y4⟩ := nd_in2 (S := t.S) (A := t.A) (x := i) (by omega) hi
    have l := live_cellI (t := t) y1 y2 y3 y4
    have a := dup_eq h hk h7 (live_zero t) l
    have b := dup_eq h hk h7 l (live_zero t)
    unfold insP mlo mhi
    rw [a, b]
    simp
  · have l := live_tailI (t := t) (i := i) (by omega) hi
    have a := dup_eq h hk h7 (live_zero t) l
    have b := dup_eq h hk h7 l (live_zero t)
    unfold insP plo phi
    rw [a, b]
    simp
theorem own_addR {w : World} {base c : Nat} {a : Option Addr} {t : Tp} {r : Int × Int × Int × Int} (h : w.ownsRow base 66 4 (.slice a (t.rd.length + 1) c) (t.rd.length + 1) (flatR t.rd ++ [.int .i64 r.1, .int .i64 r.2.1, .int .i64 r.2.2.1, .int .i64 r.2.2.2])) : IsRows w (.slice a (t.rd.length + 1) c) 4 ((addR t r).rd.map rdRow) := by
  rw [show t.rd.length + 1 = (addR t r).rd.length by simp [addR], show flatR t.rd ++ [.int .i64 r.1, .int .i64 r.2.1, .int .i64 r.2.2.1, .int .i64 r.2.2.2] = ((addR t r).rd.map rdRow).flatten by simp [addR, flatR, rdRow]] at h
  have := rows_of_owns (row := rdRow) h (fun _ => rfl)
  rwa [show (addR t r).rd.length = t.rd.length + 1 by simp [addR]] at this
set_option maxRecDepth 100000 in
theorem more_walk (a0 : Option Addr) (len0 cap0 : Nat) (z0 : List Int) (w : World) (h0 : IsRow .i64 w a0 len0 cap0 z0) :
    Calls Try.prog 8 #[.slice a0 len0 cap0] w fun e w' => e = .returned (.bool true) ∧ Ext [] w w' := by
  have HN := Lib.hid (newLots_any w a0 len0 cap0 z0 h0)
  clear h0
  have E : Ext [] w w := Ext.refl _ _
  refine calls_has 76 Try.func8 rfl Try.ntmps8 (Nat.le_of_ble_eq_true rfl) ?_
  intro fa F
  refine wp_seq_k fun K1 hK1 => ?_
  refine wp_region_lit ?_
  refine sq_val F rfl (by decide) rfl (R_assign rfl (ev_c fa _)) ?_; clear F fa; intro fa F
  refine wpList_nil ?_
  refine hK1 _ _ ?_
  clear hK1
  refine wp_seq_k fun K2 hK2 => ?_
  refine wp_region_lit ?_
  refine sq_val F rfl (by decide) rfl (R_move rfl (F.at rfl)) ?_; clear F fa; intro fa F
  refine sq_call F rfl (by decide) rfl (R_callV rfl rfl Try.call27 (mpS (F.at rfl) mp0)) (HN.out) fun e w1 hR => ?_
  obtain ⟨b, rfl, hb, hb2, HL, e1⟩ := hR
  refine ⟨_, rfl, ?_⟩; clear F fa; intro fa F
  replace E := ext_same E (e1)
  clear e1
  refine sq_val F rfl (by decide) rfl (R_assign rfl (F.at rfl)) ?_; clear F fa; intro fa F
  refine wpList_nil ?_
  refine hK2 _ _ ?_
  clear hK2
  refine wp_seq_k fun K3 hK3 => ?_
  refine wp_region_lit ?_
  refine sq_val F rfl (by decide) rfl (R_move rfl (F.at rfl)) ?_; clear F fa; intro fa F
  refine sq_val F rfl (by decide) rfl (R_move rfl (F.at rfl)) ?_; clear F fa; intro fa F
  refine sq_new F rfl (by decide) rfl (R_buildSliceV rfl (prS (ev_c fa _) (prS (ev_c fa _) (prS (ev_c fa _) pr0))) Try.underlying29 (size := 1) (by kernel_rfl) (by decide) (by decide) Try.zeroValue3 (cells := #[.int .i64 6, .int .i64 20, .int .i64 60]) (by kernel_rfl)) ?_; clear F fa; intro fa w2 F hw
  obtain ⟨n17, hn⟩ : ∃ n, n = w1.heap.size := ⟨_, rfl⟩
  rw [← hn] at F
  have l17_E : w.heap.size ≤ n17 := by rw [hn]; exact E.size
  have b17_HL := Nat.lt_of_lt_of_eq (lots_lt HL) hn.symm
  replace E := ext_alloc E hw
  replace HL := lots_alloc hw HL
  have q17 := new_block hw hn
  clear hw hn
  refine sq_call F rfl (by decide) rfl (R_callV rfl rfl Try.call45 (mpS (F.at rfl) (mpS (F.at rfl) mp0))) (of_any w _ b _ _ n17 _ [6, 20, 60] HL (by omega) q17 (by omega) (by decide) (by decide)) fun e w3 hR => ?_
  obtain ⟨wd, rfl, hwd, HL, e1⟩ := hR
  refine ⟨_, rfl, ?_⟩; clear F fa; intro fa F
  replace q17 := (e1).keep q17 (by simp; omega)
  replace E := E.trans' e1 (fun i hi hl => by simp only [List.mem_cons, List.not_mem_nil, or_false] at hi ⊢; omega)
  replace hwd : 0 ≤ wd ∧ wd ≤ 60 := by simp at hwd; omega
  have hbB := lots_lt HL
  obtain ⟨B0, hB0⟩ : ∃ B0, B0 = w3.heap.size := ⟨_, rfl⟩
  rw [← hB0] at hbB
  have hwB : w.heap.size ≤ B0 := by rw [hB0]; exact E.size
  refine sq_call F rfl (by decide) rfl (R_callV rfl rfl Try.call44 (mpS (F.at rfl) (mpS (ev_c fa _) (mpS (ev_c fa _) (mpS (F.at rfl) mp0))))) (measuredOf_any w _ b _ _ 2 2 wd HL (by omega) (by omega) (by omega) (by omega) (by omega) (by omega) (by omega)) fun e w4 hR => ?_
  obtain ⟨t, ms, ps, vs, gv, rv, lv, mv, pv, rfl, hM, hS, hA, hbm, og, orr, olk, om, hms, op, HL, e2⟩ := hR
  refine ⟨_, rfl, ?_⟩; clear F fa; intro fa F
  replace q17 := (e2).keep q17 (by simp; omega)
  replace E := E.trans' e2 (fun i hi hl => by simp only [List.mem_cons, List.not_mem_nil, or_false] at hi ⊢; omega)
  have hLv := hM.live
  rw [← hB0] at og orr olk
  clear hB0
  obtain ⟨ga, gc, rfl⟩ := owns_slice og
  obtain ⟨ra, rc, rfl⟩ := owns_slice orr
  obtain ⟨la, lc, rfl⟩ := owns_slice olk
  obtain ⟨ma, mc, rfl⟩ := owns_slice om
  obtain ⟨pa, pc, rfl⟩ := owns_slice op
  have hbN := Lib.hid hbB
  have HT : Hid (∀ W, Ext [b] w4 W → IsTp W (.slice ga t.gr.length gc) (.slice ra t.rd.length rc) (.slice la t.lk.length lc) t) := fun W hW => tp_of_owns (owns_ext og hW (by simp; exact hbN.out)) (owns_ext orr hW (by simp; exact hbN.out)) (owns_ext olk hW (by simp; exact hbN.out))
  clear om hms op og orr olk
  have hokT := hM.ok
  have hS1 := hokT.S1
  have hS3 := hokT.S3
  have hA1 := hokT.A1
  have hA3 := hokT.A3
  have hT1 := hokT.T1
  have hT3 := hokT.T3
  have hgl := hokT.grl
  have hrl := hM.rdl
  have hkl := hM.lkl
  obtain ⟨hP1, hP2⟩ := ok_prod hokT
  have EO : Ext [b] w4 w4 := Ext.refl _ _
  have hwo := E.size
  have HRd := Lib.hid (slAt_of_rowsX (HT.out _ EO).rd (fun W hW => (HT.out W hW).rd) (0, 0, 0, 0))
  have HSr : Hid (∀ W, Ext [b] w4 W → SrcAt W 4 ra t.rd.length (flatR t.rd)) := fun W hW => srcAt_of_rows (HT.out W hW).rd (by decide) (fun _ => rfl) rd_one
  refine sq_val F rfl (by decide) rfl (R_move rfl (F.at rfl)) ?_; clear F fa; intro fa F
  refine sq_val F rfl (by decide) rfl (R_extract rfl (F.at rfl) (get0)) ?_; clear F fa; intro fa F
  refine sq_val F rfl (by decide) rfl (R_extract rfl (F.at rfl) (getS (get0))) ?_; clear F fa; intro fa F
  refine sq_val F rfl (by decide) rfl (R_extract rfl (F.at rfl) (getS (getS (get0)))) ?_; clear F fa; intro fa F
  refine sq_new F rfl (by decide) rfl (R_alloc rfl Try.zeroValue28) ?_; clear F fa; intro fa w5 F hw
  obtain ⟨n4, hn⟩ : ∃ n, n = w4.heap.size := ⟨_, rfl⟩
  rw [← hn] at F
  have l4_E : w.heap.size ≤ n4 := by rw [hn]; exact E.size
  have l4_EO : w4.heap.size ≤ n4 := by rw [hn]; exact EO.size
  have b4_HL := Nat.lt_of_lt_of_eq (lots_lt HL) hn.symm
  replace E := ext_alloc E hw
  replace EO := ext_alloc EO hw
  replace HL := lots_alloc hw HL
  have q4 := new_row hw hn
  clear hw hn
  refine sq_to rfl rfl (R_storeRow rfl (F.at rfl) (F.at rfl) (by kernel_rfl) (by simp [Value.oneCell']) q4 rfl) ?_; intro w6 hw
  replace q4 := put_row hw q4 rfl
  replace E := ext_cells E hw (fun h => by first | exact absurd h (by omega) | simp)
  replace EO := ext_cells EO hw (fun h => by first | exact absurd h (by omega) | simp)
  replace HL := lots_cells hw HL (by omega) (by omega)
  clear hw
  refine sq_val F rfl (by decide) rfl (R_assign rfl (F.at rfl)) ?_; clear F fa; intro fa F
  refine sq_val F rfl (by decide) rfl (R_assign rfl (F.at rfl)) ?_; clear F fa; intro fa F
  refine wpList_nil ?_
  replace HL := lots_mono HL (show _ ≤ 299 by omega)
  have hbN4 : b ≠ n4 := by omega
  refine hK3 _ _ ?_
  clear hK3
  refine wp_seq_k fun K4 hK4 => ?_
  refine wp_seq_k fun K5 hK5 => ?_
  refine wp_region_lit ?_
  refine sq_val F rfl (by decide) rfl (R_field rfl (F.at rfl) Try.underlying28 rfl (n := 9) (sz := 1) rfl (by kernel_rfl) (by decide)) ?_; clear F fa; intro fa F
  refine sq_val F rfl (by decide) rfl (R_load rfl (F.at rfl) Try.underlying25 rfl ((cells_of_block q4 9).trans (getS (getS (getS (getS (getS (getS (getS (getS (getS (get0)))))))))))) ?_; clear F fa; intro fa F
  refine sq_val F rfl (by decide) rfl (R_len rfl rfl (F.at rfl) Try.underlying25) ?_; clear F fa; intro fa F
  refine sq_val F rfl (by decide) rfl (R_assign rfl (F.at rfl)) ?_; clear F fa; intro fa F
  refine wpList_nil ?_
  refine hK5 _ _ ?_
  clear hK5
  refine wp_seq_k fun K6 hK6 => ?_
  refine wp_region_lit ?_
  refine sq_val F rfl (by decide) rfl (R_move rfl (F.at rfl)) ?_; clear F fa; intro fa F
  refine sq_val F rfl (by decide) rfl (R_gtr rfl (F.at rfl) (ev_c fa _)) ?_; clear F fa; intro fa F
  refine wpList_nil ?_
  refine hK6 _ _ ?_
  clear hK6
  suffices hcut : ∀  (fa : Act) (w17 : World), Has 76 fa [(3, .pointer (some ⟨b, 0, none⟩)), (4, .pointer (some ⟨n4, 0, none⟩))] → w17.heap[n4]? = some (.cells #[.int .i64 t.S, .int .i64 t.A, .int .i64 t.T, .int .i64 t.bl, .int .i64 t.bm, .int .i64 t.pl, .int .i64 t.pm, .int .i64 t.sl, .slice ga t.gr.length gc, .slice ra t.rd.length rc, .slice la t.lk.length lc] 28 (0, 0)) → Ext [] w w17 → Ext [b] w4 w17 → LotsOk w w17 b 300 (.slice a0 len0 cap0) → K4 fa w17 by
    refine cd_if F rfl (fun hc27 => ?_) (fun hc27 => ?_)
    · skip
      refine wp_seq_k fun K7 hK7 => ?_
      refine wp_region_lit ?_
      refine sq_val F rfl (by decide) rfl (R_loadBlk rfl (F.at rfl) Try.underlying28 rfl (by kernel_rfl) q4) ?_; clear F fa; intro fa F
      refine sq_new F rfl (by decide) rfl (R_alloc rfl Try.zeroValue28) ?_; clear F fa; intro fa w7 F hw
      obtain ⟨n8, hn⟩ : ∃ n, n = w6.heap.size := ⟨_, rfl⟩
      rw [← hn] at F
      have l8_E : w.heap.size ≤ n8 := by rw [hn]; exact E.size
      have l8_EO : w4.heap.size ≤ n8 := by rw [hn]; exact EO.size
      have b8_HL := Nat.lt_of_lt_of_eq (lots_lt HL) hn.symm
      have m8_4 : n4 < n8 := by rw [hn]; exact blk_lt q4
      replace q4 := keep_alloc hw q4
      replace E := ext_alloc E hw
      replace EO := ext_alloc EO hw
      replace HL := lots_alloc hw HL
      have q8 := new_row hw hn
      clear hw hn
      refine sq_to rfl rfl (R_storeRow rfl (F.at rfl) (F.at rfl) (by kernel_rfl) (by simp [Value.oneCell']) q8 rfl) ?_; intro w8 hw
      replace q4 := keep_cells hw q4 (by omega)
      replace q8 := put_row hw q8 rfl
      replace E := ext_cells E hw (fun h => by first | exact absurd h (by omega) | simp)
      replace EO := ext_cells EO hw (fun h => by first | exact absurd h (by omega) | simp)
      replace HL := lots_cells hw HL (by omega) (by omega)
      clear hw
      refine wpList_nil ?_
      refine hK7 _ _ ?_
      clear hK7
      refine wp_seq_k fun K8 hK8 => ?_
      refine region_x (Ext [b] w8) (some 15) follows fun w9 hh eh => ?_
      have q4_ := q4
      replace q4 := keep_same hh q4
      have q8_ := q8
      replace q8 := keep_same hh q8
      have E_ := E
      have zEw9 := E.size
      replace E := ext_same E eh
      have EO_ := EO
      have zEOw9 := EO.size
      replace EO := ext_same EO eh
      have zbw9 := lots_lt HL
      replace HL := lots_ext eh HL
      have eT := eh.mono (Y := [b]) (by simp)
      clear hh eh
      refine ax_val (i := 1) F rfl rfl (by decide) (by kernel_rfl) (fun _ _ _ h => h) rfl (fun w' => R_field rfl (F.at rfl) Try.underlying28 rfl (n := 9) (sz := 1) rfl (by kernel_rfl) (by decide)) (fun _ => eT) ?_; clear F fa; intro fa F
      refine ax_read (i := 2) F rfl rfl (by decide) (by kernel_rfl) (fun _ _ _ h => h) rfl (fun w' hS => R_load rfl (F.at rfl) Try.underlying25 rfl ((cells_of_block (hS.keep q4_ (by simp; omega)) 9).trans (getS (getS (getS (getS (getS (getS (getS (getS (getS (get0)))))))))))) (fun _ => eT) ?_; clear F fa; intro fa F
      refine ax_val (i := 4) F rfl rfl (by decide) (by kernel_rfl) (fun _ _ _ h => h) rfl (fun w' => R_field rfl (F.at rfl) Try.underlying28 rfl (n := 9) (sz := 1) rfl (by kernel_rfl) (by decide)) (fun _ => eT) ?_; clear F fa; intro fa F
      refine ax_read (i := 5) F rfl rfl (by decide) (by kernel_rfl) (fun _ _ _ h => h) rfl (fun w' hS => R_load rfl (F.at rfl) Try.underlying25 rfl ((cells_of_block (hS.keep q4_ (by simp; omega)) 9).trans (getS (getS (getS (getS (getS (getS (getS (getS (getS (get0)))))))))))) (fun _ => eT) ?_; clear F fa; intro fa F
      refine ax_val (i := 6) F rfl rfl (by decide) (by kernel_rfl) (fun _ _ _ h => h) rfl (fun w' => R_move rfl (F.at rfl)) (fun _ => eT) ?_; clear F fa; intro fa F
      refine ax_val (i := 7) F rfl rfl (by decide) (by kernel_rfl) (fun _ _ _ h => h) rfl (fun w' => R_move rfl (F.at rfl)) (fun _ => eT) ?_; clear F fa; intro fa F
      refine ax_val (i := 8) F rfl rfl (by decide) (by kernel_rfl) (fun _ _ _ h => h) rfl (fun w' => R_sub rfl (F.at rfl) (ev_c fa _) (by omega) (by omega)) (fun _ => eT) ?_; clear F fa; intro fa F
      refine ax_only (i := 0) (by kernel_rfl) (op_new F rfl rfl (by decide) rfl (R_buildSlice0 rfl Try.underlying25 (size := 4) (by kernel_rfl)) ?_); clear F fa; intro fa w10 F hw
      obtain ⟨n29, hn⟩ : ∃ n, n = w9.heap.size := ⟨_, rfl⟩
      rw [← hn] at F
      have l29_E : w.heap.size ≤ n29 := by rw [hn]; exact E.size
      have l29_EO : w4.heap.size ≤ n29 := by rw [hn]; exact EO.size
      have lT29 : w8.heap.size ≤ n29 := by rw [hn]; exact eT.size
      have b29_HL := Nat.lt_of_lt_of_eq (lots_lt HL) hn.symm
      have m29_4 : n4 < n29 := by rw [hn]; exact blk_lt q4
      have m29_8 : n8 < n29 := by rw [hn]; exact blk_lt q8
      replace q4 := keep_alloc hw q4
      replace q8 := keep_alloc hw q8
      replace E := ext_alloc E hw
      replace EO := ext_alloc EO hw
      replace HL := lots_alloc hw HL
      replace eT := ext_alloc eT hw
      have q29 := new_block hw hn
      clear hw hn
      refine ⟨fun _ => eT, ?_⟩
      have ho := owns_empty (base := w8.heap.size) (size := 4) q29 (by omega)
      have hbl := blk_lt q29
      have hTs := eT.size
      clear q29
      refine ax_only (i := 3) (by kernel_rfl) (op_some F rfl rfl (by decide) rfl (appends_run rfl (w8.heap.size) (e := 66) (size := 4) (bytes := 32) Try.underlying25 (by kernel_rfl) (by decide) (F.at rfl) ho (F.at rfl) (HSr.out _ EO) (by omega) (by omega) (by omega)) ?_); clear F fa; rintro fa v' w11 F ⟨hown', hg⟩
      rw [Nat.zero_add, List.nil_append] at hown'
      clear hbl
      obtain ⟨va32, vc32, rfl⟩ := owns_slice hown'
      replace q4 := keep_type ho hg q4 (by decide)
      replace q8 := keep_type ho hg q8 (by decide)
      replace HL := lots_append HL ho hg (by omega) (by decide)
      replace E := ext_appendX E ho hg (by omega)
      replace EO := ext_appendX EO ho hg (by omega)
      replace eT := ext_appendX eT ho hg (by omega)
      replace ho := hown'
      clear hg
      refine ⟨fun _ => eT, ?_⟩
      refine ax_only (i := 9) (by kernel_rfl) (op_call F rfl rfl (by decide) rfl (R_callV rfl rfl Try.call51 (mpS (F.at rfl) (mpS (F.at rfl) mp0))) (upto_any w _ b _ _ (((t.rd.length : Nat) : Int) - 1) HL (by omega) (by omega) (by omega)) fun e w12 hR => ?_)
      obtain ⟨j, rfl, hj1, hj2, HL, e1⟩ := hR
      refine ⟨_, rfl, ?_⟩; clear F fa; intro fa F
      replace ho := owns_ext ho (e1) (by simp; omega)
      replace q4 := (e1).keep q4 (by simp; omega)
      replace q8 := (e1).keep q8 (by simp; omega)
      replace E := E.trans' e1 (fun i hi hl => by simp only [List.mem_cons, List.not_mem_nil, or_false] at hi ⊢; omega)
      replace EO := EO.trans' e1 (fun i hi hl => by simp only [List.mem_cons, List.not_mem_nil, or_false] at hi ⊢; omega)
      replace eT := eT.trans' e1 (fun i hi hl => by simp only [List.mem_cons, List.not_mem_nil, or_false] at hi ⊢; omega)
      refine ⟨fun _ => eT, ?_⟩
      obtain ⟨j, rfl⟩ := Int.eq_ofNat_of_zero_le hj1
      have hjl : j < t.rd.length := by omega
      obtain ⟨xb9, xo9, xa9, xr9⟩ := HRd.out j (by omega)
      refine ax_val (i := 10) F rfl rfl (by decide) (by kernel_rfl) (fun _ _ _ h => h) rfl (fun w' => R_ixSlice (sz := 4) rfl ((F.at rfl).trans (xa9 _ _)) (F.at rfl) Try.underlying25 (by kernel_rfl) (by omega) (by omega)) (fun _ => eT) ?_; clear F fa; intro fa F
      refine ax_read (i := 11) F rfl rfl (by decide) (by kernel_rfl) (fun _ _ _ h => h) rfl (fun w' hS => R_loadRow rfl (F.at rfl) Try.underlying66 rfl (by kernel_rfl) (xr9 _ (EO_.trans hS))) (fun _ => eT) ?_; clear F fa; intro fa F
      refine ax_only (i := 12) (by kernel_rfl) (op_new F rfl rfl (by decide) rfl (R_buildSliceV rfl (prS (F.at rfl) pr0) Try.underlying25 (size := 4) (by kernel_rfl) (by decide) (by decide) Try.zeroValue66 (cells := #[.int .i64 ((t.rd.getD j (0, 0, 0, 0)).1), .int .i64 ((t.rd.getD j (0, 0, 0, 0)).2.1), .int .i64 ((t.rd.getD j (0, 0, 0, 0)).2.2.1), .int .i64 ((t.rd.getD j (0, 0, 0, 0)).2.2.2)]) (by kernel_rfl)) ?_); clear F fa; intro fa w13 F hw
      obtain ⟨n41, hn⟩ : ∃ n, n = w12.heap.size := ⟨_, rfl⟩
      rw [← hn] at F
      have l41_E : w.heap.size ≤ n41 := by rw [hn]; exact E.size
      have l41_EO : w4.heap.size ≤ n41 := by rw [hn]; exact EO.size
      have lT41 : w8.heap.size ≤ n41 := by rw [hn]; exact eT.size
      have b41_HL := Nat.lt_of_lt_of_eq (lots_lt HL) hn.symm
      have m41_4 : n4 < n41 := by rw [hn]; exact blk_lt q4
      have m41_8 : n8 < n41 := by rw [hn]; exact blk_lt q8
      have o41_ho := Lib.hid (own_ne_new ho hn)
      replace ho := owns_alloc hw ho
      replace q4 := keep_alloc hw q4
      replace q8 := keep_alloc hw q8
      replace E := ext_alloc E hw
      replace EO := ext_alloc EO hw
      replace HL := lots_alloc hw HL
      replace eT := ext_alloc eT hw
      have q41 := new_block hw hn
      clear hw hn
      refine ⟨fun _ => eT, ?_⟩
      have hTs := eT.size
      refine ax_only (i := 13) (by kernel_rfl) (op_some F rfl rfl (by decide) rfl (append_run rfl (w8.heap.size) (e := 66) (size := 4) (bytes := 32) Try.underlying25 (by kernel_rfl) (by decide) (F.at rfl) ho (F.at rfl) q41 rfl (by simp [Value.oneCell']) (by omega) (by omega) (by omega)) ?_); clear F fa; rintro fa v' w14 F ⟨hown', hg⟩
      obtain ⟨va42, vc42, rfl⟩ := owns_slice hown'
      replace q4 := keep_type ho hg q4 (by decide)
      replace q8 := keep_type ho hg q8 (by decide)
      replace HL := lots_append HL ho hg (by omega) (by decide)
      replace E := ext_appendX E ho hg (by omega)
      replace EO := ext_appendX EO ho hg (by omega)
      replace eT := ext_appendX eT ho hg (by omega)
      replace ho := hown'
      clear hg
      refine ⟨fun _ => eT, ?_⟩
      refine ax_val (i := 14) F rfl rfl (by decide) (by kernel_rfl) (fun _ _ _ h => h) rfl (fun w' => R_field rfl (F.at rfl) Try.underlying28 rfl (n := 9) (sz := 1) rfl (by kernel_rfl) (by decide)) (fun _ => eT) ?_; clear F fa; intro fa F
      refine ax_only (i := 15) (by kernel_rfl) (op_to rfl rfl rfl (R_store rfl (F.at rfl) (F.at rfl) rfl (by kernel_rfl) ((cells_of_block q8 9).trans (getS (getS (getS (getS (getS (getS (getS (getS (getS (get0))))))))))) (free_of_block q8 9)) ?_); intro w15 hw
      replace ho := owns_cellX hw ho (own_ne_type ho q8 (by decide))
      replace q4 := keep_cell hw q4 (by omega)
      replace q8 := put_cell hw q8 (by simp only [List.setIfInBounds_toArray, List.set_cons_succ, List.set_cons_zero]; exact rfl)
      replace E := ext_cell E hw (fun h => by first | exact absurd h (by omega) | simp)
      replace EO := ext_cell EO hw (fun h => by first | exact absurd h (by omega) | simp)
      replace HL := lots_cell hw HL (by omega) (by omega)
      clear hw
      refine ⟨gone (by kernel_rfl), ?_⟩
      refine ax_done (by kernel_rfl) ?_ _
      clear eT q4_ q8_ E_ EO_
      have HX := Lib.hid (own_addR (r := t.rd.getD j (0, 0, 0, 0)) ho)
      clear ho
      have EX : Ext [] w15 w15 := Ext.refl _ _
      refine hK8 _ _ ?_
      clear hK8
      refine wp_seq_k fun K10 hK10 => ?_
      refine wp_region_lit ?_
      refine sq_val F rfl (by decide) rfl (R_loadBlk rfl (F.at rfl) Try.underlying28 rfl (by kernel_rfl) q4) ?_; clear F fa; intro fa F
      refine sq_val F rfl (by decide) rfl (R_loadBlk rfl (F.at rfl) Try.underlying28 rfl (by kernel_rfl) q8) ?_; clear F fa; intro fa F
      refine sq_call F rfl (by decide) rfl (R_callV rfl rfl Try.call52 (mpS (F.at rfl) (mpS (F.at rfl) (mpS (ev_c fa _) mp0)))) (alike_any hLv (dup_live hLv hjl (by omega)) rfl rfl rfl true _ _ _ _ _ _ _ (HT.out _ EO) ⟨(HT.out _ EO).gr, HX.out.ext EX (by simp), (HT.out _ EO).lk⟩) fun e w16 hR => ?_
      obtain ⟨r1, rfl, hr1, e9⟩ := hR
      refine ⟨_, rfl, ?_⟩; clear F fa; intro fa F
      replace q4 := (e9).keep0 q4
      replace q8 := (e9).keep0 q8
      replace E := ext_same E (e9)
      replace EO := ext_same EO (e9)
      replace EX := ext_same EX (e9)
      replace HL := lots_ext (e9) HL
      clear e9
      obtain rfl : r1 = true := hr1.2 (dup_alike hLv hjl (by omega))
      clear hr1
      refine sq_val F rfl (by decide) rfl (R_not rfl (F.at rfl)) ?_; clear F fa; intro fa F
      refine wpList_nil ?_
      refine hK10 _ _ ?_
      clear hK10
      refine cd_F F rfl ?_
      refine wp_skip ?_
      exact hcut  _ _ (F.sub (.c 3 rfl (.c 4 rfl .n))) q4 E EO HL 
    · skip
      replace HL := lots_mono HL (show 299 ≤ 300 by omega)
      refine wp_skip ?_
      exact hcut  _ _ (F.sub (.c 3 rfl (.c 4 rfl .n))) q4 E EO HL 
  clear F q4 E EO HL fa
  intro  fa w17 F q4 E EO HL
  refine hK4 _ _ ?_
  clear hK4
  refine wp_seq_k fun K11 hK11 => ?_
  refine wp_region_lit ?_
  refine sq_val F rfl (by decide) rfl (R_loadBlk rfl (F.at rfl) Try.underlying28 rfl (by kernel_rfl) q4) ?_; clear F fa; intro fa F
  refine sq_new F rfl (by decide) rfl (R_alloc rfl Try.zeroValue28) ?_; clear F fa; intro fa w18 F hw
  obtain ⟨n9, hn⟩ : ∃ n, n = w17.heap.size := ⟨_, rfl⟩
  rw [← hn] at F
  have l9_E : w.heap.size ≤ n9 := by rw [hn]; exact E.size
  have l9_EO : w4.heap.size ≤ n9 := by rw [hn]; exact EO.size
  have b9_HL := Nat.lt_of_lt_of_eq (lots_lt HL) hn.symm
  have m9_4 : n4 < n9 := by rw [hn]; exact blk_lt q4
  replace q4 := keep_alloc hw q4
  replace E := ext_alloc E hw
  replace EO := ext_alloc EO hw
  replace HL := lots_alloc hw HL
  have q9 := new_row hw hn
  clear hw hn
  refine sq_to rfl rfl (R_storeRow rfl (F.at rfl) (F.at rfl) (by kernel_rfl) (by simp [Value.oneCell']) q9 rfl) ?_; intro w19 hw
  replace q4 := keep_cells hw q4 (by omega)
  replace q9 := put_row hw q9 rfl
  replace E := ext_cells E hw (fun h => by first | exact absurd h (by omega) | simp)
  replace EO := ext_cells EO hw (fun h => by first | exact absurd h (by omega) | simp)
  replace HL := lots_cells hw HL (by omega) (by omega)
  clear hw
  refine wpList_nil ?_
  refine hK11 _ _ ?_
  clear hK11
  refine wp_seq_k fun K12 hK12 => ?_
  refine region_x (Ext [b] w19) (some 10) follows fun w20 hh eh => ?_
  have q4_ := q4
  replace q4 := keep_same hh q4
  have q9_ := q9
  replace q9 := keep_same hh q9
  have E_ := E
  have zEw20 := E.size
  replace E := ext_same E eh
  have EO_ := EO
  have zEOw20 := EO.size
  replace EO := ext_same EO eh
  have zbw20 := lots_lt HL
  replace HL := lots_ext eh HL
  have eT := eh.mono (Y := [b]) (by simp)
  clear hh eh
  refine ax_val (i := 1) F rfl rfl (by decide) (by kernel_rfl) (fun _ _ _ h => h) rfl (fun w' => R_field rfl (F.at rfl) Try.underlying28 rfl (n := 9) (sz := 1) rfl (by kernel_rfl) (by decide)) (fun _ => eT) ?_; clear F fa; intro fa F
  refine ax_read (i := 2) F rfl rfl (by decide) (by kernel_rfl) (fun _ _ _ h => h) rfl (fun w' hS => R_load rfl (F.at rfl) Try.underlying25 rfl ((cells_of_block (hS.keep q4_ (by simp; omega)) 9).trans (getS (getS (getS (getS (getS (getS (getS (getS (getS (get0)))))))))))) (fun _ => eT) ?_; clear F fa; intro fa F
  refine ax_val (i := 4) F rfl rfl (by decide) (by kernel_rfl) (fun _ _ _ h => h) rfl (fun w' => R_move rfl (F.at rfl)) (fun _ => eT) ?_; clear F fa; intro fa F
  refine ax_read (i := 5) F rfl rfl (by decide) (by kernel_rfl) (fun _ _ _ h => h) rfl (fun w' hS => R_loadBlk rfl (F.at rfl) Try.underlying28 rfl (by kernel_rfl) (hS.keep q4_ (by simp; omega))) (fun _ => eT) ?_; clear F fa; intro fa F
  refine ax_only (i := 0) (by kernel_rfl) (op_new F rfl rfl (by decide) rfl (R_buildSlice0 rfl Try.underlying25 (size := 4) (by kernel_rfl)) ?_); clear F fa; intro fa w21 F hw
  obtain ⟨n49, hn⟩ : ∃ n, n = w20.heap.size := ⟨_, rfl⟩
  rw [← hn] at F
  have l49_E : w.heap.size ≤ n49 := by rw [hn]; exact E.size
  have l49_EO : w4.heap.size ≤ n49 := by rw [hn]; exact EO.size
  have lT49 : w19.heap.size ≤ n49 := by rw [hn]; exact eT.size
  have b49_HL := Nat.lt_of_lt_of_eq (lots_lt HL) hn.symm
  have m49_4 : n4 < n49 := by rw [hn]; exact blk_lt q4
  have m49_9 : n9 < n49 := by rw [hn]; exact blk_lt q9
  replace q4 := keep_alloc hw q4
  replace q9 := keep_alloc hw q9
  replace E := ext_alloc E hw
  replace EO := ext_alloc EO hw
  replace HL := lots_alloc hw HL
  replace eT := ext_alloc eT hw
  have q49 := new_block hw hn
  clear hw hn
  refine ⟨fun _ => eT, ?_⟩
  have ho := owns_empty (base := w19.heap.size) (size := 4) q49 (by omega)
  have hbl := blk_lt q49
  have hTs := eT.size
  clear q49
  refine ax_only (i := 3) (by kernel_rfl) (op_some F rfl rfl (by decide) rfl (appends_run rfl (w19.heap.size) (e := 66) (size := 4) (bytes := 32) Try.underlying25 (by kernel_rfl) (by decide) (F.at rfl) ho (F.at rfl) (HSr.out _ EO) (by omega) (by omega) (by omega)) ?_); clear F fa; rintro fa v' w22 F ⟨hown', hg⟩
  rw [Nat.zero_add, List.nil_append] at hown'
  clear hbl
  obtain ⟨va52, vc52, rfl⟩ := owns_slice hown'
  replace q4 := keep_type ho hg q4 (by decide)
  replace q9 := keep_type ho hg q9 (by decide)
  replace HL := lots_append HL ho hg (by omega) (by decide)
  replace E := ext_appendX E ho hg (by omega)
  replace EO := ext_appendX EO ho hg (by omega)
  replace eT := ext_appendX eT ho hg (by omega)
  replace ho := hown'
  clear hg
  refine ⟨fun _ => eT, ?_⟩
  refine ax_only (i := 6) (by kernel_rfl) (op_call F rfl rfl (by decide) rfl (R_callV rfl rfl Try.call53 (mpS (F.at rfl) (mpS (F.at rfl) mp0))) (readingOf_any w _ b _ _ HL (by omega) t hokT _ _ _ ⟨rfl, rfl, rfl⟩) fun e w23 hR => ?_)
  obtain ⟨r, rfl, hfit, HL, e1⟩ := hR
  refine ⟨_, rfl, ?_⟩; clear F fa; intro fa F
  replace ho := owns_ext ho (e1) (by simp; omega)
  replace q4 := (e1).keep q4 (by simp; omega)
  replace q9 := (e1).keep q9 (by simp; omega)
  replace E := E.trans' e1 (fun i hi hl => by simp only [List.mem_cons, List.not_mem_nil, or_false] at hi ⊢; omega)
  replace EO := EO.trans' e1 (fun i hi hl => by simp only [List.mem_cons, List.not_mem_nil, or_false] at hi ⊢; omega)
  replace eT := eT.trans' e1 (fun i hi hl => by simp only [List.mem_cons, List.not_mem_nil, or_false] at hi ⊢; omega)
  refine ⟨fun _ => eT, ?_⟩
  refine ax_only (i := 7) (by kernel_rfl) (op_new F rfl rfl (by decide) rfl (R_buildSliceV rfl (prS (F.at rfl) pr0) Try.underlying25 (size := 4) (by kernel_rfl) (by decide) (by decide) Try.zeroValue66 (cells := #[.int .i64 r.1, .int .i64 r.2.1, .int .i64 r.2.2.1, .int .i64 r.2.2.2]) (by kernel_rfl)) ?_); clear F fa; intro fa w24 F hw
  obtain ⟨n56, hn⟩ : ∃ n, n = w23.heap.size := ⟨_, rfl⟩
  rw [← hn] at F
  have l56_E : w.heap.size ≤ n56 := by rw [hn]; exact E.size
  have l56_EO : w4.heap.size ≤ n56 := by rw [hn]; exact EO.size
  have lT56 : w19.heap.size ≤ n56 := by rw [hn]; exact eT.size
  have b56_HL := Nat.lt_of_lt_of_eq (lots_lt HL) hn.symm
  have m56_4 : n4 < n56 := by rw [hn]; exact blk_lt q4
  have m56_9 : n9 < n56 := by rw [hn]; exact blk_lt q9
  have o56_ho := Lib.hid (own_ne_new ho hn)
  replace ho := owns_alloc hw ho
  replace q4 := keep_alloc hw q4
  replace q9 := keep_alloc hw q9
  replace E := ext_alloc E hw
  replace EO := ext_alloc EO hw
  replace HL := lots_alloc hw HL
  replace eT := ext_alloc eT hw
  have q56 := new_block hw hn
  clear hw hn
  refine ⟨fun _ => eT, ?_⟩
  have hTs := eT.size
  refine ax_only (i := 8) (by kernel_rfl) (op_some F rfl rfl (by decide) rfl (append_run rfl (w19.heap.size) (e := 66) (size := 4) (bytes := 32) Try.underlying25 (by kernel_rfl) (by decide) (F.at rfl) ho (F.at rfl) q56 rfl (by simp [Value.oneCell']) (by omega) (by omega) (by omega)) ?_); clear F fa; rintro fa v' w25 F ⟨hown', hg⟩
  obtain ⟨va57, vc57, rfl⟩ := owns_slice hown'
  replace q4 := keep_type ho hg q4 (by decide)
  replace q9 := keep_type ho hg q9 (by decide)
  replace HL := lots_append HL ho hg (by omega) (by decide)
  replace E := ext_appendX E ho hg (by omega)
  replace EO := ext_appendX EO ho hg (by omega)
  replace eT := ext_appendX eT ho hg (by omega)
  replace ho := hown'
  clear hg
  refine ⟨fun _ => eT, ?_⟩
  refine ax_val (i := 9) F rfl rfl (by decide) (by kernel_rfl) (fun _ _ _ h => h) rfl (fun w' => R_field rfl (F.at rfl) Try.underlying28 rfl (n := 9) (sz := 1) rfl (by kernel_rfl) (by decide)) (fun _ => eT) ?_; clear F fa; intro fa F
  refine ax_only (i := 10) (by kernel_rfl) (op_to rfl rfl rfl (R_store rfl (F.at rfl) (F.at rfl) rfl (by kernel_rfl) ((cells_of_block q9 9).trans (getS (getS (getS (getS (getS (getS (getS (getS (getS (get0))))))))))) (free_of_block q9 9)) ?_); intro w26 hw
  replace ho := owns_cellX hw ho (own_ne_type ho q9 (by decide))
  replace q4 := keep_cell hw q4 (by omega)
  replace q9 := put_cell hw q9 (by simp only [List.setIfInBounds_toArray, List.set_cons_succ, List.set_cons_zero]; exact rfl)
  replace E := ext_cell E hw (fun h => by first | exact absurd h (by omega) | simp)
  replace EO := ext_cell EO hw (fun h => by first | exact absurd h (by omega) | simp)
  replace HL := lots_cell hw HL (by omega) (by omega)
  clear hw
  refine ⟨gone (by kernel_rfl), ?_⟩
  refine ax_done (by kernel_rfl) ?_ _
  clear eT q4_ q9_ E_ EO_
  have HX := Lib.hid (own_addR (r := r) ho)
  clear ho
  have EX : Ext [] w26 w26 := Ext.refl _ _
  refine hK12 _ _ ?_
  clear hK12
  refine wp_seq_k fun K13 hK13 => ?_
  obtain ⟨hok2, h82⟩ := addR_fit hokT hfit (by omega)
  refine wp_region_lit ?_
  refine sq_val F rfl (by decide) rfl (R_loadBlk rfl (F.at rfl) Try.underlying28 rfl (by kernel_rfl) q9) ?_; clear F fa; intro fa F
  refine sq_call F rfl (by decide) rfl (R_callV rfl rfl Try.call29 (mpS (F.at rfl) mp0)) (can_ok hok2 h82 ⟨(HT.out _ EO).gr, HX.out.ext EX (by simp), (HT.out _ EO).lk⟩) fun e w27 hR => ?_
  obtain ⟨rfl, e9⟩ := hR
  refine ⟨_, rfl, ?_⟩; clear F fa; intro fa F
  replace q4 := (e9).keep0 q4
  replace q9 := (e9).keep0 q9
  replace E := ext_same E (e9)
  replace EO := ext_same EO (e9)
  replace EX := ext_same EX (e9)
  replace HL := lots_ext (e9) HL
  clear e9
  refine sq_val F rfl (by decide) rfl (R_move rfl (F.at rfl)) ?_; clear F fa; intro fa F
  refine sq_val F rfl (by decide) rfl (R_extract rfl (F.at rfl) (get0)) ?_; clear F fa; intro fa F
  refine sq_val F rfl (by decide) rfl (R_extract rfl (F.at rfl) (getS (get0))) ?_; clear F fa; intro fa F
  refine sq_val F rfl (by decide) rfl (R_assign rfl (F.at rfl)) ?_; clear F fa; intro fa F
  refine sq_val F rfl (by decide) rfl (R_assign rfl (F.at rfl)) ?_; clear F fa; intro fa F
  refine wpList_nil ?_
  refine hK13 _ _ ?_
  clear hK13
  refine wp_seq_k fun K14 hK14 => ?_
  refine wp_seq_k fun K15 hK15 => ?_
  refine wp_region_lit ?_
  refine sq_val F rfl (by decide) rfl (R_move rfl (F.at rfl)) ?_; clear F fa; intro fa F
  refine sq_val F rfl (by decide) rfl (R_neqB (b := false) rfl (F.at rfl) (ev_c fa _) (by decide)) ?_; clear F fa; intro fa F
  refine sq_val F rfl (by decide) rfl (R_move rfl (F.at rfl)) ?_; clear F fa; intro fa F
  refine sq_val F rfl (by decide) (wantT F rfl rfl (by decide) rfl) (R_move rfl (F.at rfl)) ?_; clear F fa; intro fa F
  refine sq_val F rfl (by decide) (wantT F rfl rfl (by decide) rfl) (R_move rfl (F.at rfl)) ?_; clear F fa; intro fa F
  cases hg1 : (bdB (addR t r) 0)
  · skip
    replace F := F.re (k := 68) rfl (congrArg Value.bool hg1)
    refine sq_no F rfl (by decide) (wantF F rfl rfl (by decide) rfl (by decide)) ?_; clear F fa; intro fa F
    refine sq_no F rfl (by decide) (wantF F rfl rfl (by decide) rfl (by decide)) ?_; clear F fa; intro fa F
    refine sq_no F rfl (by decide) (wantF F rfl rfl (by decide) rfl (by decide)) ?_; clear F fa; intro fa F
    refine sq_no F rfl (by decide) (wantF F rfl rfl (by decide) rfl (by decide)) ?_; clear F fa; intro fa F
    refine sq_val F rfl (by decide) (wantT F rfl rfl (by decide) rfl) (R_pickF rfl (F.at rfl) (ev_c fa _)) ?_; clear F fa; intro fa F
    refine sq_val F rfl (by decide) rfl (R_pickF rfl (F.at rfl) (F.at rfl)) ?_; clear F fa; intro fa F
    refine wpList_nil ?_
    refine hK15 _ _ ?_
    clear hK15
    refine cd_F F rfl ?_
    refine wp_skip ?_
    refine hK14 _ _ ?_
    clear hK14
    refine wp_seq_k fun K16 hK16 => ?_
    refine wp_region_lit ?_
    refine sq_call F rfl (by decide) rfl (R_callV rfl rfl Try.call25 mp0) (taken_any _) fun e w28 hR => ?_
    obtain ⟨rfl, e9⟩ := hR
    refine ⟨_, rfl, ?_⟩; clear F fa; intro fa F
    replace q4 := (e9).keep0 q4
    replace q9 := (e9).keep0 q9
    replace E := ext_same E (e9)
    replace EO := ext_same EO (e9)
    replace EX := ext_same EX (e9)
    replace HL := lots_ext (e9) HL
    clear e9
    refine sq_val F rfl (by decide) rfl (R_assign rfl (F.at rfl)) ?_; clear F fa; intro fa F
    refine wpList_nil ?_
    refine hK16 _ _ ?_
    clear hK16
    refine wp_ret ?_
    (try simp only [Exit.inBlock, Exit.then])
    refine rt_v F (rs_1 F rfl rfl) ?_
    exact ⟨rfl, E⟩
  · skip
    replace F := F.re (k := 68) rfl (congrArg Value.bool hg1)
    refine sq_val F rfl (by decide) (wantT F rfl rfl (by decide) rfl) (R_loadBlk rfl (F.at rfl) Try.underlying28 rfl (by kernel_rfl) q4) ?_; clear F fa; intro fa F
    refine sq_val F rfl (by decide) (wantT F rfl rfl (by decide) rfl) (R_loadBlk rfl (F.at rfl) Try.underlying28 rfl (by kernel_rfl) q9) ?_; clear F fa; intro fa F
    refine sq_call F rfl (by decide) (wantT F rfl rfl (by decide) rfl) (R_callV rfl rfl Try.call52 (mpS (F.at rfl) (mpS (F.at rfl) (mpS (ev_c fa _) mp0)))) (alike_any hLv (live_of hok2 h82 hg1) rfl rfl rfl false _ _ _ _ _ _ _ (HT.out _ EO) ⟨(HT.out _ EO).gr, HX.out.ext EX (by simp), (HT.out _ EO).lk⟩) fun e w29 hR => ?_
    obtain ⟨r1, rfl, hr1, e9⟩ := hR
    refine ⟨_, rfl, ?_⟩; clear F fa; intro fa F
    replace q4 := (e9).keep0 q4
    replace q9 := (e9).keep0 q9
    replace E := ext_same E (e9)
    replace EO := ext_same EO (e9)
    replace EX := ext_same EX (e9)
    replace HL := lots_ext (e9) HL
    clear e9
    obtain rfl : r1 = true := hr1.2 (addR_in hLv (live_of hok2 h82 hg1))
    clear hr1
    refine sq_val F rfl (by decide) (wantT F rfl rfl (by decide) rfl) (R_not rfl (F.at rfl)) ?_; clear F fa; intro fa F
    refine sq_val F rfl (by decide) (wantT F rfl rfl (by decide) rfl) (R_pickT rfl (F.at rfl) (F.at rfl)) ?_; clear F fa; intro fa F
    refine sq_val F rfl (by decide) rfl (R_pickF rfl (F.at rfl) (F.at rfl)) ?_; clear F fa; intro fa F
    refine wpList_nil ?_
    refine hK15 _ _ ?_
    clear hK15
    refine cd_F F rfl ?_
    refine wp_skip ?_
    refine hK14 _ _ ?_
    clear hK14
    refine wp_seq_k fun K17 hK17 => ?_
    refine wp_region_lit ?_
    refine sq_call F rfl (by decide) rfl (R_callV rfl rfl Try.call25 mp0) (taken_any _) fun e w30 hR => ?_
    obtain ⟨rfl, e9⟩ := hR
    refine ⟨_, rfl, ?_⟩; clear F fa; intro fa F
    replace q4 := (e9).keep0 q4
    replace q9 := (e9).keep0 q9
    replace E := ext_same E (e9)
    replace EO := ext_same EO (e9)
    replace EX := ext_same EX (e9)
    replace HL := lots_ext (e9) HL
    clear e9
    refine sq_val F rfl (by decide) rfl (R_assign rfl (F.at rfl)) ?_; clear F fa; intro fa F
    refine wpList_nil ?_
    refine hK17 _ _ ?_
    clear hK17
    refine wp_ret ?_
    (try simp only [Exit.inBlock, Exit.then])
    refine rt_v F (rs_1 F rfl rfl) ?_
    exact ⟨rfl, E⟩
end Go.Proofs.Ytholfdgebdlgjaa
