/- The law MeasureIdle: without an idle reading each bound is the same, without another one some bound is wider. No conditions. -/
import Derived.Test.YtholfdgebdlgjaaVv
import Derived.Test.YtholfdgebdlgjaaVt0
namespace Go.Proofs.Ytholfdgebdlgjaa
open Go.RowKit
set_option linter.unusedVariables false
set_option linter.unusedSimpArgs false
theorem keep_one (i j : Nat) (hi : i < 8) (hj : j < 8) : keepB [(i : Int)] true j = !hasB ((2 ^ i : Nat) : Int) j := by
  have h : ∀ i, i < 8 → ∀ j, j < 8 → hasB ((2 ^ i : Nat) : Int) j = decide (j = i) := by decide
  rw [h i hi j hj]
  unfold keepB
  rw [show (decide (atI [(i : Int)] (j : Int) ≥ 0)) = decide (j = i) by rw [Bool.eq_iff_iff, decide_eq_true_iff, decide_eq_true_iff, atI_mem, List.mem_singleton]; omega]
  simp
theorem tr_out {t : Tp} {x : Nat → Int} (h : Tr t 0 x) (out : Int) : Tr t out x := ⟨fun s a hs ha => ⟨(h.cell s a hs ha).lo, (h.cell s a hs ha).hi, (h.cell s a hs ha).glo, (h.cell s a hs ha).ghi⟩, fun i hi => ⟨(h.tail i hi).lo, (h.tail i hi).hi⟩, fun i hi _ => h.read i hi (by simp [hasB]), h.link⟩
theorem some_live {t : Tp} (h : t.Live) {i : Nat} (hi : i < t.rd.length) : (someT t [(i : Int)] true).Live := by
  obtain ⟨x, hx⟩ := h.tr
  have h8 := h.rd8
  exact ⟨some_ok h.ok _ _, Nat.le_trans (someR_len _ _ _ _) h8, x, (some_tr (fun j hj => keep_one i j (by omega) (by omega)) x).2 (tr_out hx _)⟩
theorem bd_out {t : Tp} (h : t.Live) {i : Nat} (hi : i < t.rd.length) {p q : Nat} (hp : live t p) (hq : live t q) : bdV t ((2 ^ i : Nat) : Int) p q = bdV (someT t [(i : Int)] true) 0 p q := by
  have h8 := h.rd8
  have hk := fun (j : Nat) (hj : j < t.rd.length) => keep_one i j (by omega) (by omega)
  have hs := some_live h hi
  obtain ⟨x, hx⟩ := h.tr
  obtain ⟨y, hy⟩ := bd_some h.ok (tr_out hx ((2 ^ i : Nat) : Int))
  obtain ⟨t1, z, hz, ez⟩ := hs.top (i := p) (j := q) hp hq
  rw [bdV_some hy]
  refine bd_eq h.ok hy hp hq (fun x hx => ?_) ((some_tr hk z).1 hz) ez
  exact t1 x ((some_tr hk x).2 hx)
theorem idxV {S A s a : Int} (s0 : 0 ≤ s) (s1 : s < S) (a0 : 0 ≤ a) (a1 : a < A) : 0 ≤ s * A ∧ s * A + a < S * A ∧ 0 ≤ s * A + a ∧ 0 < A := by
  have h1 : s * A + A ≤ S * A := by
    have := Int.mul_le_mul_of_nonneg_right (show s + 1 ≤ S by omega) (show 0 ≤ A by omega)
    rw [Int.add_mul, Int.one_mul] at this
    exact this
  have h3 : 0 ≤ s * A := Int.mul_nonneg s0 (by omega)
  omega
theorem cell_idx {t : Tp} (ok : t.Ok) {k : Nat} (hk : k < 9) (h1 : ((k / 3 : Nat) : Int) < t.S) (h2 : ((k % 3 : Nat) : Int) < t.A) : ∃ i : Nat, (i : Int) < t.S * t.A ∧ (i : Int) / t.A = ((k / 3 : Nat) : Int) ∧ (i : Int) % t.A = ((k % 3 : Nat) : Int) ∧ nodeC ((k / 3 : Nat) : Int) ((k % 3 : Nat) : Int) = k + 1 := by
  have o1 := ok.A1
  have o2 := ok.A3
  obtain ⟨x1, x2, x3, x4⟩ := idxV (S := t.S) (A := t.A) (s := ((k / 3 : Nat) : Int)) (a := ((k % 3 : Nat) : Int)) (by omega) h1 (by omega) h2
  refine ⟨(((k / 3 : Nat) : Int) * t.A + ((k % 3 : Nat) : Int)).toNat, by omega, ?_, ?_, by unfold nodeC; omega⟩
  · rw [Int.toNat_of_nonneg (by omega), Int.add_comm, Int.add_mul_ediv_right _ _ (by omega), Int.ediv_eq_zero_of_lt (by omega) h2, Int.zero_add]
  · rw [Int.toNat_of_nonneg (by omega), Int.add_comm, Int.add_mul_emod_self_right, Int.emod_eq_of_lt (by omega) h2]
theorem idl_iff {t : Tp} (h : t.Live) {i : Nat} (hi : i < t.rd.length) : idlB t i = true ↔ alikeP (someT t [(i : Int)] true) t true := by
  have ok := h.ok
  have o1 := ok.A1
  have o2 := ok.A3
  have o3 := ok.S3
  have o4 := ok.T3
  have B := fun p q hp hq => bd_out h hi (p := p) (q := q) hp hq
  have lz := live_zero t
  rw [idlB, eqV_iff]
  constructor
  · intro H
    refine ⟨fun j hj => ?_, fun j hj => ?_⟩
    · obtain ⟨d1, d2, d3, d4⟩ := nd_in2 (S := t.S) (A := t.A) (x := j) (by omega) hj
      change insP (mlo (someT t [(i : Int)] true) ((j : Int) / t.A) ((j : Int) % t.A)) (mhi (someT t [(i : Int)] true) ((j : Int) / t.A) ((j : Int) % t.A)) (mlo t ((j : Int) / t.A) ((j : Int) % t.A)) (mhi t ((j : Int) / t.A) ((j : Int) % t.A)) true
      generalize (j : Int) / t.A = s at d1 d2 ⊢
      generalize (j : Int) % t.A = a at d3 d4 ⊢
      have lc := live_cellI d1 d2 d3 d4
      have e := H (nodeC s a - 1) (by unfold nodeC; omega)
      have en : nodeC s a - 1 + 1 = nodeC s a := by unfold nodeC; omega
      have c : nodeC s a - 1 < 9 ∧ (((nodeC s a - 1) / 3 : Nat) : Int) < t.S ∧ (((nodeC s a - 1) % 3 : Nat) : Int) < t.A := by unfold nodeC; omega
      rw [vwF, vwF, if_pos c.1, if_pos c.2, if_pos c.1, if_pos c.2, en, Prod.mk.injEq, B _ _ lc lz, B _ _ lz lc] at e
      unfold insP mlo mhi
      omega
    · change insP (plo (someT t [(i : Int)] true) (j : Int)) (phi (someT t [(i : Int)] true) (j : Int)) (plo t (j : Int)) (phi t (j : Int)) true
      have hj2 : (j : Int) < t.T := hj
      have lc := live_tailI (t := t) (i := (j : Int)) (by omega) hj2
      have e := H (9 + j) (by omega)
      have en : 9 + j + 1 = nodeT (j : Int) := by unfold nodeT; omega
      rw [vwF, vwF, if_neg (by omega), if_pos (by omega), if_neg (by omega), if_pos (by omega), en, Prod.mk.injEq, B _ _ lc lz, B _ _ lz lc] at e
      unfold insP plo phi
      omega
  · intro H k hk
    rw [vwF, vwF]
    by_cases c : k < 9
    · rw [if_pos c, if_pos c]
      by_cases d : ((k / 3 : Nat) : Int) < t.S ∧ ((k % 3 : Nat) : Int) < t.A
      · rw [if_pos d, if_pos d]
        obtain ⟨j, j1, j2, j3, j4⟩ := cell_idx ok c d.1 d.2
        have lc := live_cellI (t := t) (show (0 : Int) ≤ ((k / 3 : Nat) : Int) by omega) d.1 (show (0 : Int) ≤ ((k % 3 : Nat) : Int) by omega) d.2
        have q := H.1 j j1
        change insP (mlo (someT t [(i : Int)] true) ((j : Int) / t.A) ((j : Int) % t.A)) (mhi (someT t [(i : Int)] true) ((j : Int) / t.A) ((j : Int) % t.A)) (mlo t ((j : Int) / t.A) ((j : Int) % t.A)) (mhi t ((j : Int) / t.A) ((j : Int) % t.A)) true at q
        rw [j2, j3] at q
        unfold insP mlo mhi at q
        obtain ⟨-, q2⟩ := q
        obtain ⟨q3, q4⟩ := q2 rfl
        rw [← B _ _ lc lz, j4] at q3
        rw [← B _ _ lz lc, j4] at q4
        rw [← q4, ← q3]
      · rw [if_neg d, if_neg d]
    · rw [if_neg c, if_neg c]
      by_cases d : ((k - 9 : Nat) : Int) < t.T
      · rw [if_pos d, if_pos d]
        have lc := live_tailI (t := t) (show (0 : Int) ≤ ((k - 9 : Nat) : Int) by omega) d
        have q := H.2 (k - 9) d
        have en : nodeT ((k - 9 : Nat) : Int) = k + 1 := by unfold nodeT; omega
        unfold insP plo phi at q
        obtain ⟨-, q2⟩ := q
        obtain ⟨q3, q4⟩ := q2 rfl
        rw [← B _ _ lz lc, en] at q3
        rw [← B _ _ lc lz, en] at q4
        rw [← q3, ← q4]
      · rw [if_neg d, if_neg d]
/-- A reading that is there twice is idle. -/
theorem idl_dup {t : Tp} (h : t.Live) {i k : Nat} (hi : i < t.rd.length) (hk : k < t.rd.length) (hne : k ≠ i) (he : t.rd.getD k (0, 0, 0, 0) = t.rd.getD i (0, 0, 0, 0)) : alikeP (someT t [(i : Int)] true) t true := by
  have h8 := h.rd8
  have hs := some_live h hi
  have hk2 := fun (j : Nat) (hj : j < t.rd.length) => keep_one i j (by omega) (by omega)
  have hh : ∀ i, i < 8 → ∀ j, j < 8 → hasB ((2 ^ i : Nat) : Int) j = decide (j = i) := by decide
  have htr : ∀ x, Tr (someT t [(i : Int)] true) 0 x ↔ Tr t 0 x := fun x => by
    rw [some_tr hk2]
    refine ⟨fun H => ⟨fun s a hs ha => ⟨(H.cell s a hs ha).lo, (H.cell s a hs ha).hi, (H.cell s a hs ha).glo, (H.cell s a hs ha).ghi⟩, fun i hi => ⟨(H.tail i hi).lo, (H.tail i hi).hi⟩, fun j hj _ => ?_, H.link⟩, fun H => tr_out H _⟩
    by_cases e : j = i
    · subst e
      rw [← he]
      exact H.read k hk (by rw [hh j (by omega) k (by omega)]; simpa using hne)
    · exact H.read j hj (by rw [hh i (by omega) j (by omega)]; simpa using e)
  have hb : ∀ p q, live t p → live t q → bdV t 0 p q = bdV (someT t [(i : Int)] true) 0 p q := fun p q hp hq => by
    obtain ⟨a1, x, hx, e1⟩ := h.top hp hq
    obtain ⟨a2, y, hy, e2⟩ := hs.top (i := p) (j := q) hp hq
    have b1 := a1 y ((htr y).1 hy)
    have b2 := a2 x ((htr x).2 hx)
    omega
  have lz := live_zero t
  have ok := h.ok
  have o1 := ok.A1
  refine ⟨fun j hj => ?_, fun j hj => ?_⟩
  · obtain ⟨d1, d2, d3, d4⟩ := nd_in2 (S := t.S) (A := t.A) (x := j) (by omega) hj
    change insP (mlo (someT t [(i : Int)] true) ((j : Int) / t.A) ((j : Int) % t.A)) (mhi (someT t [(i : Int)] true) ((j : Int) / t.A) ((j : Int) % t.A)) (mlo t ((j : Int) / t.A) ((j : Int) % t.A)) (mhi t ((j : Int) / t.A) ((j : Int) % t.A)) true
    have lc := live_cellI d1 d2 d3 d4
    have e1 := hb _ _ lc lz
    have e2 := hb _ _ lz lc
    unfold insP mlo mhi
    omega
  · change insP (plo (someT t [(i : Int)] true) (j : Int)) (phi (someT t [(i : Int)] true) (j : Int)) (plo t (j : Int)) (phi t (j : Int)) true
    have hj2 : (j : Int) < t.T := hj
    have lc := live_tailI (t := t) (i := (j : Int)) (by omega) hj2
    have e1 := hb _ _ lc lz
    have e2 := hb _ _ lz lc
    unfold insP plo phi
    omega
set_option maxRecDepth 100000 in
set_option maxHeartbeats 4000000 in
theorem idle_walk (a0 : Option Addr) (len0 cap0 : Nat) (z0 : List Int) (w : World) (h0 : IsRow .i64 w a0 len0 cap0 z0) :
    Calls Try.prog 20 #[.slice a0 len0 cap0] w fun e w' => e = .returned (.bool true) ∧ Ext [] w w' := by
  have HN := Lib.hid (newLots_any w a0 len0 cap0 z0 h0)
  clear h0
  have E : Ext [] w w := Ext.refl _ _
  refine calls_has 100 Try.func20 rfl Try.ntmps20 (Nat.le_of_ble_eq_true rfl) ?_
  intro fa F
  refine wp_seq_k fun K1 hK1 => ?_
  refine wp_region_lit ?_
  refine F.vl (R_assign rfl (ev_c fa _)) ?_; clear F fa; intro fa F
  refine wpList_nil ?_
  refine hK1 _ _ ?_
  clear hK1
  refine wp_seq_k fun K2 hK2 => ?_
  refine wp_region_lit ?_
  refine F.mv ?_; clear F fa; intro fa F
  refine sq_call F rfl (by decide) rfl (R_callV rfl rfl Try.call27 (mpS (F.at rfl) mp0)) (HN.out) fun e w1 hR => ?_
  obtain ⟨b, rfl, hb, hb2, HL, e1⟩ := hR
  refine ⟨_, rfl, ?_⟩; clear F fa; intro fa F
  replace E := ext_same E (e1)
  clear e1
  refine F.as ?_; clear F fa; intro fa F
  refine wpList_nil ?_
  refine hK2 _ _ ?_
  clear hK2
  refine wp_seq_k fun K3 hK3 => ?_
  refine wp_region_lit ?_
  refine F.mv ?_; clear F fa; intro fa F
  refine F.mv ?_; clear F fa; intro fa F
  refine sq_new F rfl (by decide) rfl (R_buildSliceV rfl (prS (ev_c fa _) (prS (ev_c fa _) (prS (ev_c fa _) pr0))) Try.underlying29 (size := 1) (by kernel_rfl) (by decide) (by decide) Try.zeroValue3 (cells := #[.int .i64 6, .int .i64 20, .int .i64 60]) (by kernel_rfl)) ?_; clear F fa; intro fa w2 F hw
  obtain ⟨n18, hn⟩ : ∃ n, n = w1.heap.size := ⟨_, rfl⟩
  rw [← hn] at F
  have s18 : w1.heap.size ≤ n18 := Nat.le_of_eq hn.symm
  have l18_E : w.heap.size ≤ n18 := by rw [hn]; exact E.size
  have b18_HL := Nat.lt_of_lt_of_eq (lots_lt HL) hn.symm
  replace E := ext_alloc E hw
  replace HL := lots_alloc hw HL
  have q18 := new_block hw hn
  clear hw hn
  refine sq_call F rfl (by decide) rfl (R_callV rfl rfl Try.call45 (mpS (F.at rfl) (mpS (F.at rfl) mp0))) (of_any w _ b _ _ n18 _ [6, 20, 60] HL (by omega) q18 (by omega) (by decide) (by decide)) fun e w3 hR => ?_
  obtain ⟨wd, rfl, hwd, HL, e1⟩ := hR
  refine ⟨_, rfl, ?_⟩; clear F fa; intro fa F
  replace q18 := (e1).keep q18 (by simp; omega)
  replace E := E.trans' e1 (fun i hi hl => by simp only [List.mem_cons, List.not_mem_nil, or_false] at hi ⊢; omega)
  replace hwd : 0 ≤ wd ∧ wd ≤ 60 := by simp at hwd; omega
  have hbB := lots_lt HL
  obtain ⟨B0, hB0⟩ : ∃ B0, B0 = w3.heap.size := ⟨_, rfl⟩
  rw [← hB0] at hbB
  have hwB : w.heap.size ≤ B0 := by rw [hB0]; exact E.size
  refine sq_call F rfl (by decide) rfl (R_callV rfl rfl Try.call44 (mpS (F.at rfl) (mpS (ev_c fa _) (mpS (ev_c fa _) (mpS (F.at rfl) mp0))))) (measuredOf_any w _ b _ _ 2 2 wd HL (by omega) (by omega) (by omega) (by omega) (by omega) (by omega) (by omega)) fun e w4 hR => ?_
  obtain ⟨t, ms, ps, vs, gv, rv, lv, mv, pv, rfl, hM, hS, hA, hbm, og, orr, olk, om, hms, op, HL, e2⟩ := hR
  refine ⟨_, rfl, ?_⟩; clear F fa; intro fa F
  replace q18 := (e2).keep q18 (by simp; omega)
  replace E := E.trans' e2 (fun i hi hl => by simp only [List.mem_cons, List.not_mem_nil, or_false] at hi ⊢; omega)
  rw [← hB0] at og orr olk
  have hB1 : B0 ≤ w4.heap.size := by rw [hB0]; exact e2.size
  clear hB0 e2
  obtain ⟨ga, gc, rfl⟩ := owns_slice og
  obtain ⟨ra, rc, rfl⟩ := owns_slice orr
  obtain ⟨la, lc, rfl⟩ := owns_slice olk
  obtain ⟨ma, mc, rfl⟩ := owns_slice om
  obtain ⟨pa, pc, rfl⟩ := owns_slice op
  clear om hms op
  have hLv := hM.live
  have hrl := hM.rdl
  refine F.mv ?_; clear F fa; intro fa F
  refine F.vl (R_extract rfl (F.at rfl) (get0)) ?_; clear F fa; intro fa F
  refine F.vl (R_extract rfl (F.at rfl) (getS (get0))) ?_; clear F fa; intro fa F
  refine F.vl (R_extract rfl (F.at rfl) (getS (getS (get0)))) ?_; clear F fa; intro fa F
  refine sq_new F rfl (by decide) rfl (R_alloc rfl Try.zeroValue28) ?_; clear F fa; intro fa w5 F hw
  obtain ⟨n4, hn⟩ : ∃ n, n = w4.heap.size := ⟨_, rfl⟩
  rw [← hn] at F
  have s4 : w4.heap.size ≤ n4 := Nat.le_of_eq hn.symm
  have l4_E : w.heap.size ≤ n4 := by rw [hn]; exact E.size
  have b4_HL := Nat.lt_of_lt_of_eq (lots_lt HL) hn.symm
  have o4_og := Lib.hid (own_ne_new og hn)
  have o4_olk := Lib.hid (own_ne_new olk hn)
  have o4_orr := Lib.hid (own_ne_new orr hn)
  replace og := owns_alloc hw og
  replace olk := owns_alloc hw olk
  replace orr := owns_alloc hw orr
  replace E := ext_alloc E hw
  replace HL := lots_alloc hw HL
  have q4 := new_row hw hn
  clear hw hn
  refine sq_to rfl rfl (R_storeRow rfl (F.at rfl) (F.at rfl) (by kernel_rfl) (by first | (simp [Value.oneCell']; done) | (simp [Value.oneCell', grRow, rdRow, lkRow]; done)) q4 rfl) ?_; intro w6 hw
  replace og := owns_cellsX hw og (own_ne_type og q4 (by decide))
  replace olk := owns_cellsX hw olk (own_ne_type olk q4 (by decide))
  replace orr := owns_cellsX hw orr (own_ne_type orr q4 (by decide))
  replace q4 := put_row hw q4 rfl
  replace E := ext_cells E hw (fun h => by first | exact absurd h (by omega) | simp)
  replace HL := lots_cells hw HL (by omega) (by omega)
  clear hw
  refine F.as ?_; clear F fa; intro fa F
  refine F.as ?_; clear F fa; intro fa F
  refine wpList_nil ?_
  replace HL := lots_mono HL (show _ ≤ 298 by omega)
  have hbN4 : b ≠ n4 := by omega
  refine hK3 _ _ ?_
  clear hK3
  refine wp_seq_k fun K4 hK4 => ?_
  refine wp_seq_k fun K5 hK5 => ?_
  refine wp_region_lit ?_
  refine F.vl (R_field rfl (F.at rfl) Try.underlying28 rfl (n := 9) (sz := 1) rfl (by kernel_rfl) (by decide)) ?_; clear F fa; intro fa F
  refine F.vl (R_load rfl (F.at rfl) Try.underlying25 rfl ((cells_of_block q4 9).trans (getS (getS (getS (getS (getS (getS (getS (getS (getS (get0)))))))))))) ?_; clear F fa; intro fa F
  refine F.vl (R_len rfl rfl (F.at rfl) Try.underlying25) ?_; clear F fa; intro fa F
  refine F.as ?_; clear F fa; intro fa F
  refine wpList_nil ?_
  refine hK5 _ _ ?_
  clear hK5
  suffices hcut : ∀ (u : Tp) (rxa : Option Addr) (rxc : Nat) (fa : Act) (w13 : World), Has 100 fa [(4, .pointer (some ⟨n4, 0, none⟩))] → w13.heap[n4]? = some (.cells #[.int .i64 u.S, .int .i64 u.A, .int .i64 u.T, .int .i64 u.bl, .int .i64 u.bm, .int .i64 u.pl, .int .i64 u.pm, .int .i64 u.sl, .slice ga u.gr.length gc, .slice rxa u.rd.length rxc, .slice la u.lk.length lc] 28 (0, 0)) → Ext [] w w13 → u.Live → u.rd.length ≤ 6 → IsTp w13 (.slice ga u.gr.length gc) (.slice rxa u.rd.length rxc) (.slice la u.lk.length lc) u → K4 fa w13 by
    refine wp_seq_k fun K6 hK62 => ?_
    refine wp_region_lit ?_
    refine F.mv ?_; clear F fa; intro fa F
    refine F.vl (R_gtr rfl (F.at rfl) (ev_c fa _)) ?_; clear F fa; intro fa F
    refine F.mv ?_; clear F fa; intro fa F
    by_cases hg1 : (0 < ((t.rd.length : Nat) : Int))
    · skip
      replace F := F.re (k := 29) rfl (congrArg Value.bool (decide_eq_true hg1))
      refine F.mv ?_ (hw := (wantT F rfl rfl (by decide) rfl)); clear F fa; intro fa F
      refine sq_call F rfl (by decide) (wantT F rfl rfl (by decide) rfl) (R_callV rfl rfl Try.call69 (mpS (F.at rfl) (mpS (ev_c fa _) mp0))) (rare_any w _ b _ _ 2 HL (by omega) (by omega) (by omega)) fun e w7 hR => ?_
      obtain ⟨r, rfl, HL, e3⟩ := hR
      refine ⟨_, rfl, ?_⟩; clear F fa; intro fa F
      replace og := owns_ext og (e3) (by simp; omega)
      replace olk := owns_ext olk (e3) (by simp; omega)
      replace orr := owns_ext orr (e3) (by simp; omega)
      replace q4 := (e3).keep q4 (by simp; omega)
      replace E := E.trans' e3 (fun i hi hl => by simp only [List.mem_cons, List.not_mem_nil, or_false] at hi ⊢; omega)
      refine F.vl (R_pickT rfl (F.at rfl) (F.at rfl)) ?_; clear F fa; intro fa F
      refine wpList_nil ?_
      refine hK62 _ _ ?_
      refine cd_b F rfl (fun hc32 => ?_) (fun hc32 => ?_)
      · skip
        have EX : Ext [b] w7 w7 := Ext.refl _ _
        have HX := Lib.hid (slAt_of_owns orr rfl (fun _ => rfl) [b] (by simp; omega) (0, 0, 0, 0))
        refine region_x (Ext [b] w7) (some 11) follows fun w8 hh eh => ?_
        have q4_ := q4
        replace q4 := keep_same hh q4
        have E_ := E
        have zEw8 := E.size
        replace E := ext_same E eh
        have EX_ := EX
        have zEXw8 := EX.size
        replace EX := ext_same EX eh
        have zbw8 := lots_lt HL
        replace HL := lots_ext eh HL
        replace og := owns_same hh og
        replace olk := owns_same hh olk
        replace orr := owns_same hh orr
        have eT := eh.mono (Y := [b]) (by simp)
        clear hh eh
        refine F.x (i := 0) rfl (fun w' => R_field rfl (F.at rfl) Try.underlying28 rfl (n := 9) (sz := 1) rfl (by kernel_rfl) (by decide)) (fun _ => eT) ?_; clear F fa; intro fa F
        refine F.xr (i := 1) rfl (fun w' hS => R_load rfl (F.at rfl) Try.underlying25 rfl ((cells_of_block (hS.keep q4_ (by simp; omega)) 9).trans (getS (getS (getS (getS (getS (getS (getS (getS (getS (get0)))))))))))) (fun _ => eT) ?_; clear F fa; intro fa F
        refine F.x (i := 2) rfl (fun w' => R_field rfl (F.at rfl) Try.underlying28 rfl (n := 9) (sz := 1) rfl (by kernel_rfl) (by decide)) (fun _ => eT) ?_; clear F fa; intro fa F
        refine F.xr2 (i := 3) [8, 9, 10, 11] rfl (fun w' hS => R_load rfl (F.at rfl) Try.underlying25 rfl ((cells_of_block (hS.keep q4_ (by simp; omega)) 9).trans (getS (getS (getS (getS (getS (getS (getS (getS (getS (get0)))))))))))) (fun _ => eT) ?_; clear F fa; intro fa F
        refine F.x (i := 4) rfl (fun w' => R_move rfl (F.at rfl)) (fun _ => eT) ?_; clear F fa; intro fa F
        refine F.x (i := 5) rfl (fun w' => R_move rfl (F.at rfl)) (fun _ => eT) ?_; clear F fa; intro fa F
        refine F.x (i := 6) rfl (fun w' => R_sub rfl (F.at rfl) (ev_c fa _) (by omega) (by omega)) (fun _ => eT) ?_; clear F fa; intro fa F
        refine ax_only (i := 7) (by kernel_rfl) (op_call F rfl rfl (by decide) rfl (R_callV rfl rfl Try.call51 (mpS (F.at rfl) (mpS (F.at rfl) mp0))) (upto_any w _ b _ _ (((t.rd.length : Nat) : Int) - 1) HL (by omega) (by omega) (by omega)) fun e w9 hR => ?_)
        obtain ⟨j, rfl, hj1, hj2, HL, e1⟩ := hR
        refine ⟨_, rfl, ?_⟩; clear F fa; intro fa F
        replace og := owns_ext og (e1) (by simp; omega)
        replace olk := owns_ext olk (e1) (by simp; omega)
        replace orr := owns_ext orr (e1) (by simp; omega)
        replace q4 := (e1).keep q4 (by simp; omega)
        replace E := E.trans' e1 (fun i hi hl => by simp only [List.mem_cons, List.not_mem_nil, or_false] at hi ⊢; omega)
        replace EX := EX.trans' e1 (fun i hi hl => by simp only [List.mem_cons, List.not_mem_nil, or_false] at hi ⊢; omega)
        replace eT := eT.trans' e1 (fun i hi hl => by simp only [List.mem_cons, List.not_mem_nil, or_false] at hi ⊢; omega)
        refine ⟨fun _ => eT, ?_⟩
        obtain ⟨j, rfl⟩ := Int.eq_ofNat_of_zero_le hj1
        have hjl : j < t.rd.length := by omega
        obtain ⟨xb7, xo7, xa7, xr7⟩ := HX.out j (by omega)
        refine F.x (i := 8) rfl (fun w' => R_ixSlice (sz := 4) rfl ((F.at rfl).trans (xa7 _ _)) (F.at rfl) Try.underlying25 (by kernel_rfl) (by omega) (by omega)) (fun _ => eT) ?_; clear F fa; intro fa F
        refine F.xr2 (i := 9) [10, 11] rfl (fun w' hS => R_loadRow rfl (F.at rfl) Try.underlying66 rfl (by kernel_rfl) (xr7 _ (EX_.trans hS))) (fun _ => eT) ?_; clear F fa; intro fa F
        refine ax_only (i := 10) (by kernel_rfl) (op_new F rfl rfl (by decide) rfl (R_buildSliceV rfl (prS (F.at rfl) pr0) Try.underlying25 (size := 4) (by kernel_rfl) (by decide) (by decide) Try.zeroValue66 (cells := #[.int .i64 ((t.rd.getD j (0, 0, 0, 0)).1), .int .i64 ((t.rd.getD j (0, 0, 0, 0)).2.1), .int .i64 ((t.rd.getD j (0, 0, 0, 0)).2.2.1), .int .i64 ((t.rd.getD j (0, 0, 0, 0)).2.2.2)]) (by kernel_rfl)) ?_); clear F fa; intro fa w10 F hw
        obtain ⟨n43, hn⟩ : ∃ n, n = w9.heap.size := ⟨_, rfl⟩
        rw [← hn] at F
        have s43 : w9.heap.size ≤ n43 := Nat.le_of_eq hn.symm
        have l43_E : w.heap.size ≤ n43 := by rw [hn]; exact E.size
        have l43_EX : w7.heap.size ≤ n43 := by rw [hn]; exact EX.size
        have lT43 : w7.heap.size ≤ n43 := by rw [hn]; exact eT.size
        have b43_HL := Nat.lt_of_lt_of_eq (lots_lt HL) hn.symm
        have m43_4 : n4 < n43 := by rw [hn]; exact blk_lt q4
        have o43_og := Lib.hid (own_ne_new og hn)
        have o43_olk := Lib.hid (own_ne_new olk hn)
        have o43_orr := Lib.hid (own_ne_new orr hn)
        replace og := owns_alloc hw og
        replace olk := owns_alloc hw olk
        replace orr := owns_alloc hw orr
        replace q4 := keep_alloc hw q4
        replace E := ext_alloc E hw
        replace EX := ext_alloc EX hw
        replace HL := lots_alloc hw HL
        replace eT := ext_alloc eT hw
        have q43 := new_block hw hn
        clear hw hn
        refine ⟨fun _ => eT, ?_⟩
        have hqz := blk_lt q4
        refine ax_only (i := 11) (by kernel_rfl) (op_some F rfl rfl (by decide) rfl (append_run rfl (B0) (e := 66) (size := 4) (bytes := 32) Try.underlying25 (by kernel_rfl) (by decide) (F.at rfl) orr (F.at rfl) q43 rfl (by simp [Value.oneCell']) (by omega) (by omega) (by omega)) ?_); clear F fa; rintro fa v' w11 F ⟨hown', hg⟩
        obtain ⟨va44, vc44, rfl⟩ := owns_slice hown'
        replace q4 := (hg.block n4 (blk_lt q4) o4_orr.out).trans q4
        replace HL := lots_append HL orr hg (by omega) (by decide)
        replace og := owns_other og orr hg (by decide)
        replace olk := owns_other olk orr hg (by decide)
        replace E := ext_appendX E orr hg (by omega)
        replace orr := hown'
        clear hg
        refine ⟨gone (by kernel_rfl), ?_⟩
        rw [← flatR_snoc] at orr
        have hal : t.rd.length + 1 = (addR t (t.rd.getD j (0, 0, 0, 0))).rd.length := by simp [addR]
        rw [hal] at orr F
        refine F.x (i := 12) rfl (fun w' => R_field rfl (F.at rfl) Try.underlying28 rfl (n := 9) (sz := 1) rfl (by kernel_rfl) (by decide)) (gone (by kernel_rfl)) ?_; clear F fa; intro fa F
        refine ax_only (i := 13) (by kernel_rfl) (op_to rfl rfl rfl (R_store rfl (F.at rfl) (F.at rfl) rfl (by kernel_rfl) ((cells_of_block q4 9).trans (getS (getS (getS (getS (getS (getS (getS (getS (getS (get0))))))))))) (free_of_block q4 9)) ?_); intro w12 hw
        replace og := owns_cellX hw og (own_ne_type og q4 (by decide))
        replace olk := owns_cellX hw olk (own_ne_type olk q4 (by decide))
        replace orr := owns_cellX hw orr (own_ne_type orr q4 (by decide))
        replace q4 := put_cell hw q4 (by simp only [List.setIfInBounds_toArray, List.set_cons_succ, List.set_cons_zero]; exact rfl)
        replace E := ext_cell E hw (fun h => by first | exact absurd h (by omega) | simp)
        replace HL := lots_cell hw HL (by omega) (by omega)
        clear hw
        refine ⟨gone (by kernel_rfl), ?_⟩
        refine ax_done (by kernel_rfl) ?_ _
        clear eT q4_ E_ EX_
        exact hcut (addR t (t.rd.getD j (0, 0, 0, 0))) va44 vc44 _ _ (F.sub (.c 4 rfl .n)) q4 E (dup_live hLv hjl (by omega)) (by rw [← hal]; omega) (tp_of_owns (t := addR t (t.rd.getD j (0, 0, 0, 0))) og orr olk)
      · skip
        refine wp_skip ?_
        exact hcut t ra rc _ _ (F.sub (.c 4 rfl .n)) q4 E hLv (by omega) (tp_of_owns og orr olk)
    · skip
      replace F := F.re (k := 29) rfl (congrArg Value.bool (decide_eq_false hg1))
      refine sq_no F rfl (by decide) (wantF F rfl rfl (by decide) rfl (by decide)) ?_; clear F fa; intro fa F
      refine sq_no F rfl (by decide) (wantF F rfl rfl (by decide) rfl (by decide)) ?_; clear F fa; intro fa F
      refine F.vl (R_pickF rfl (F.at rfl) (ev_c fa _)) ?_; clear F fa; intro fa F
      refine wpList_nil ?_
      refine hK62 _ _ ?_
      refine cd_F F rfl ?_
      refine wp_skip ?_
      exact hcut t ra rc _ _ (F.sub (.c 4 rfl .n)) q4 E hLv (by omega) (tp_of_owns og orr olk)
  clear F q4 E HL og olk orr fa
  intro u rxa rxc fa w13 F q4 E hUL hU6 hU
  have HT := Lib.hid hU
  clear hU
  have EO : Ext [] w13 w13 := Ext.refl _ _
  have HRd := Lib.hid (slAt_of_rows HT.out.rd (0, 0, 0, 0))
  refine hK4 _ _ ?_
  clear hK4
  refine wp_seq_k fun K8 hK8 => ?_
  refine wp_region_lit ?_
  refine F.vl (R_loadBlk rfl (F.at rfl) Try.underlying28 rfl (by kernel_rfl) q4) ?_; clear F fa; intro fa F
  refine sq_call F rfl (by decide) rfl (R_callV rfl rfl Try.call70 (mpS (F.at rfl) mp0)) (idle_live hUL ga rxa la gc rxc lc _ (HT.out.ext EO (by simp))) fun e w14 hR => ?_
  obtain ⟨R, oa, oc, rfl, hR, hRl, hRr, eX⟩ := hR
  refine ⟨_, rfl, ?_⟩; clear F fa; intro fa F
  replace q4 := (eX).keep0 q4
  replace E := ext_same E (eX)
  replace EO := ext_same EO (eX)
  have EP : Ext [] w14 w14 := Ext.refl _ _
  replace hR := Lib.hid hR
  replace hRr := Lib.hid hRr
  clear eX
  refine F.mv ?_; clear F fa; intro fa F
  refine F.vl (R_extract rfl (F.at rfl) (get0)) ?_; clear F fa; intro fa F
  refine F.vl (R_extract rfl (F.at rfl) (getS (get0))) ?_; clear F fa; intro fa F
  refine F.as ?_; clear F fa; intro fa F
  refine F.as ?_; clear F fa; intro fa F
  refine wpList_nil ?_
  refine hK8 _ _ ?_
  clear hK8
  refine wp_seq_k fun K9 hK9 => ?_
  refine wp_seq_k fun K10 hK10 => ?_
  refine wp_region_lit ?_
  refine F.mv ?_; clear F fa; intro fa F
  refine F.vl (R_neqB (b := false) rfl (F.at rfl) (ev_c fa _) (by decide)) ?_; clear F fa; intro fa F
  refine wpList_nil ?_
  refine hK10 _ _ ?_
  clear hK10
  refine cd_F F rfl ?_
  refine wp_skip ?_
  refine hK9 _ _ ?_
  clear hK9
  refine wp_seq_k fun K11 hK11 => ?_
  refine wp_seq_k fun K12 hK12 => ?_
  refine wp_region_lit ?_
  refine F.vl (R_assign rfl (ev_c fa _)) ?_; clear F fa; intro fa F
  refine wpList_nil ?_
  refine hK12 _ _ ?_
  clear hK12
  refine wp_block ?_
  have F0 := F.sub (.c 4 rfl (.c 8 rfl .n))
  refine lp_for F0 (u.rd.length) (fun i Lv W => Lv = [(10, .int .i64 ((i : Nat) : Int))] ∧ Ext [] w14 W) ⟨_, ⟨rfl, Ext.refl _ _⟩, F.sub (.c 10 rfl (.c 4 rfl (.c 8 rfl .n)))⟩ ?_
  clear F F0
  rintro i _ fa w15 hi1 ⟨rfl, EL1⟩ F
  have q4 := EL1.keep0 q4
  have E := E.nil EL1
  have EO := EO.nil EL1
  have EP := EP.nil EL1
  refine wp_seq_k fun K13 hK13 => ?_
  refine wp_seq_k fun K14 hK14 => ?_
  refine wp_region_lit ?_
  refine F.mv ?_; clear F fa; intro fa F
  refine F.vl (R_field rfl (F.at rfl) Try.underlying28 rfl (n := 9) (sz := 1) rfl (by kernel_rfl) (by decide)) ?_; clear F fa; intro fa F
  refine F.vl (R_load rfl (F.at rfl) Try.underlying25 rfl ((cells_of_block q4 9).trans (getS (getS (getS (getS (getS (getS (getS (getS (getS (get0)))))))))))) ?_; clear F fa; intro fa F
  refine F.vl (R_len rfl rfl (F.at rfl) Try.underlying25) ?_; clear F fa; intro fa F
  refine F.vl (R_lss rfl (F.at rfl) (F.at rfl)) ?_; clear F fa; intro fa F
  refine wpList_nil ?_
  refine hK14 _ _ ?_
  clear hK14
  refine cd_if F rfl (fun hc57 => ?_) (fun hc57 => ?_)
  · skip
    refine wp_skip ?_
    refine hK13 _ _ ?_
    clear hK13
    refine wp_seq_k fun K15 hK15 => ?_
    refine wp_block ?_
    refine wp_seq_k fun K16 hK16 => ?_
    refine wp_region_lit ?_
    refine F.mv ?_; clear F fa; intro fa F
    refine F.mv ?_; clear F fa; intro fa F
    refine sq_call F rfl (by decide) rfl (R_callV rfl rfl Try.call60 (mpS (F.at rfl) (mpS (F.at rfl) mp0))) (at_any R _ _ _ _ (hRr.out.ext EP (by simp)) (by omega)) fun e w16 hR => ?_
    obtain ⟨rfl, e9⟩ := hR
    refine ⟨_, rfl, ?_⟩; clear F fa; intro fa F
    replace q4 := (e9).keep0 q4
    replace E := ext_same E (e9)
    replace EO := ext_same EO (e9)
    replace EP := ext_same EP (e9)
    replace EL1 := ext_same EL1 (e9)
    clear e9
    refine F.vl (R_geq rfl (F.at rfl) (ev_c fa _)) ?_; clear F fa; intro fa F
    refine F.as ?_; clear F fa; intro fa F
    refine wpList_nil ?_
    refine hK16 _ _ ?_
    clear hK16
    refine wp_seq_k fun K17 hK17 => ?_
    refine wp_seq_k fun K18 hK18 => ?_
    have his : (0 ≤ atI R ((i : Nat) : Int)) ↔ alikeP (someT u [(i : Int)] true) u true := by rw [show (0 ≤ atI R ((i : Nat) : Int)) ↔ atI R ((i : Nat) : Int) ≥ 0 from Iff.rfl, atI_mem, hR.out i, idl_iff hUL (by omega)]; exact ⟨fun h => h.2, fun h => ⟨by omega, h⟩⟩
    refine region_x (Ext [] w16) none follows fun w17 hh eh => ?_
    have q4_ := q4
    replace q4 := keep_same hh q4
    have E_ := E
    have zEw17 := E.size
    replace E := ext_same E eh
    have EO_ := EO
    have zEOw17 := EO.size
    replace EO := ext_same EO eh
    have EP_ := EP
    have zEPw17 := EP.size
    replace EP := ext_same EP eh
    have EL1_ := EL1
    have zEL1w17 := EL1.size
    replace EL1 := ext_same EL1 eh
    have eT := eh
    clear hh eh
    refine F.x (i := 0) rfl (fun w' => R_move rfl (F.at rfl)) (fun _ => eT) ?_; clear F fa; intro fa F
    refine F.xr (i := 1) rfl (fun w' hS => R_loadBlk rfl (F.at rfl) Try.underlying28 rfl (by kernel_rfl) (hS.keep q4_ (by simp))) (fun _ => eT) ?_; clear F fa; intro fa F
    refine F.x (i := 2) rfl (fun w' => R_move rfl (F.at rfl)) (fun _ => eT) ?_; clear F fa; intro fa F
    refine F.xr (i := 5) rfl (fun w' hS => R_loadBlk rfl (F.at rfl) Try.underlying28 rfl (by kernel_rfl) (hS.keep q4_ (by simp))) (fun _ => eT) ?_; clear F fa; intro fa F
    refine ax_only (i := 3) (by kernel_rfl) (op_new F rfl rfl (by decide) rfl (R_buildSliceV rfl (prS (F.at rfl) pr0) Try.underlying29 (size := 1) (by kernel_rfl) (by decide) (by decide) Try.zeroValue3 (cells := #[.int .i64 ((i : Nat) : Int)]) (by kernel_rfl)) ?_); clear F fa; intro fa w18 F hw
    obtain ⟨n67, hn⟩ : ∃ n, n = w17.heap.size := ⟨_, rfl⟩
    rw [← hn] at F
    have s67 : w17.heap.size ≤ n67 := Nat.le_of_eq hn.symm
    have l67_E : w.heap.size ≤ n67 := by rw [hn]; exact E.size
    have l67_EO : w13.heap.size ≤ n67 := by rw [hn]; exact EO.size
    have l67_EP : w14.heap.size ≤ n67 := by rw [hn]; exact EP.size
    have l67_EL1 : w14.heap.size ≤ n67 := by rw [hn]; exact EL1.size
    have lT67 : w16.heap.size ≤ n67 := by rw [hn]; exact eT.size
    have m67_4 : n4 < n67 := by rw [hn]; exact blk_lt q4
    replace q4 := keep_alloc hw q4
    replace E := ext_alloc E hw
    replace EO := ext_alloc EO hw
    replace EP := ext_alloc EP hw
    replace EL1 := ext_alloc EL1 hw
    replace eT := ext_alloc eT hw
    have q67 := new_block hw hn
    clear hw hn
    refine ⟨fun _ => eT, ?_⟩
    refine ax_only (i := 4) (by kernel_rfl) (op_call F rfl rfl (by decide) rfl (R_callV rfl rfl Try.call49 (mpS (F.at rfl) (mpS (F.at rfl) (mpS (ev_c fa _) mp0)))) (some_any u [(i : Int)] true ga rxa la gc rxc lc _ _ (HT.out.ext EO (by simp)) ⟨_, _, rfl, rows_lit [(i : Int)] 1 q67⟩ (by omega) (by simp) rfl) fun e w19 hR => ?_)
    obtain ⟨xa, xc, rfl, hTs, e9⟩ := hR
    refine ⟨_, rfl, ?_⟩; clear F fa; intro fa F
    replace q4 := (e9).keep0 q4
    replace q67 := (e9).keep0 q67
    replace E := ext_same E (e9)
    replace EO := ext_same EO (e9)
    replace EP := ext_same EP (e9)
    replace EL1 := ext_same EL1 (e9)
    replace eT := ext_same eT (e9)
    clear e9
    refine ⟨fun _ => eT, ?_⟩
    refine ax_only (i := 6) (by kernel_rfl) (op_call F rfl rfl (by decide) rfl (R_callV rfl rfl Try.call52 (mpS (F.at rfl) (mpS (F.at rfl) (mpS (ev_c fa _) mp0)))) (alike_any (some_live hUL (by omega)) hUL rfl rfl rfl true _ _ _ _ _ _ _ hTs (HT.out.ext EO (by simp))) fun e w20 hR => ?_)
    obtain ⟨r1, rfl, hr1, e9⟩ := hR
    refine ⟨_, rfl, ?_⟩; clear F fa; intro fa F
    replace q4 := (e9).keep0 q4
    replace q67 := (e9).keep0 q67
    replace E := ext_same E (e9)
    replace EO := ext_same EO (e9)
    replace EP := ext_same EP (e9)
    replace EL1 := ext_same EL1 (e9)
    replace eT := ext_same eT (e9)
    clear e9
    refine ⟨fun _ => eT, ?_⟩
    have hfin : (decide (0 ≤ atI R ((i : Nat) : Int)) != r1) = false := by rw [bne_eq_false_iff_eq, Bool.eq_iff_iff, decide_eq_true_iff, his, hr1]
    refine F.x (i := 7) rfl (fun w' => (R_neqBB rfl (F.at rfl) (F.at rfl) Try.underlying4)) (fun _ => eT) ?_; clear F fa; intro fa F
    replace F := F.re (k := 71) rfl (congrArg Value.bool hfin)
    refine ax_done (by kernel_rfl) ?_ _
    clear eT q4_ E_ EO_ EP_ EL1_
    refine hK18 _ _ ?_
    clear hK18
    refine cd_F F rfl ?_
    refine wp_skip ?_
    refine hK17 _ _ ?_
    clear hK17
    refine wp_seq_k fun K19 hK19 => ?_
    refine wp_region_lit ?_
    refine F.vl (R_assign rfl (ev_c fa _)) ?_; clear F fa; intro fa F
    refine wpList_nil ?_
    refine hK19 _ _ ?_
    clear hK19
    refine wp_block ?_
    have F0 := F.sub (.c 4 rfl (.c 8 rfl (.c 10 rfl (.c 11 rfl .n))))
    refine lp_for F0 (u.rd.length) (fun k Lv W => Lv = [(12, .int .i64 ((k : Nat) : Int))] ∧ Ext [] w20 W) ⟨_, ⟨rfl, Ext.refl _ _⟩, F.sub (.c 12 rfl (.c 4 rfl (.c 8 rfl (.c 10 rfl (.c 11 rfl .n)))))⟩ ?_
    clear F F0
    rintro k _ fa w21 hi2 ⟨rfl, EL2⟩ F
    have q4 := EL2.keep0 q4
    have q67 := EL2.keep0 q67
    have E := E.nil EL2
    have EO := EO.nil EL2
    have EP := EP.nil EL2
    have EL1 := EL1.nil EL2
    refine wp_seq_k fun K20 hK20 => ?_
    refine wp_seq_k fun K21 hK21 => ?_
    refine wp_region_lit ?_
    refine F.mv ?_; clear F fa; intro fa F
    refine F.vl (R_field rfl (F.at rfl) Try.underlying28 rfl (n := 9) (sz := 1) rfl (by kernel_rfl) (by decide)) ?_; clear F fa; intro fa F
    refine F.vl (R_load rfl (F.at rfl) Try.underlying25 rfl ((cells_of_block q4 9).trans (getS (getS (getS (getS (getS (getS (getS (getS (getS (get0)))))))))))) ?_; clear F fa; intro fa F
    refine F.vl (R_len rfl rfl (F.at rfl) Try.underlying25) ?_; clear F fa; intro fa F
    refine F.vl (R_lss rfl (F.at rfl) (F.at rfl)) ?_; clear F fa; intro fa F
    refine wpList_nil ?_
    refine hK21 _ _ ?_
    clear hK21
    refine cd_if F rfl (fun hc76 => ?_) (fun hc76 => ?_)
    · skip
      refine wp_skip ?_
      refine hK20 _ _ ?_
      clear hK20
      refine wp_seq_k fun K22 hK22 => ?_
      refine wp_block ?_
      refine wp_seq_k fun K23 hK23 => ?_
      by_cases hki : k = i
      · skip
        refine wp_region_st 19 follows (by kernel_rfl) fun w22 hh eh => ?_
        replace q4 := keep_same hh q4
        replace q67 := keep_same hh q67
        replace E := ext_same E eh
        replace EO := ext_same EO eh
        replace EP := ext_same EP eh
        replace EL1 := ext_same EL1 eh
        replace EL2 := ext_same EL2 eh
        clear hh eh
        refine F.smv ?_; clear F fa; intro fa F
        refine F.smv ?_; clear F fa; intro fa F
        refine F.sv (R_neqB (b := false) rfl (F.at rfl) (F.at rfl) (decide_eq_true ((by omega)))) ?_; clear F fa; intro fa F
        refine F.smv ?_; clear F fa; intro fa F
        refine st_no F rfl (by decide) (wantF F rfl rfl (by decide) rfl (by decide)) ?_; clear F fa; intro fa F
        refine st_no F rfl (by decide) (wantF F rfl rfl (by decide) rfl (by decide)) ?_; clear F fa; intro fa F
        refine st_no F rfl (by decide) (wantF F rfl rfl (by decide) rfl (by decide)) ?_; clear F fa; intro fa F
        refine st_no F rfl (by decide) (wantF F rfl rfl (by decide) rfl (by decide)) ?_; clear F fa; intro fa F
        refine st_no F rfl (by decide) (wantF F rfl rfl (by decide) rfl (by decide)) ?_; clear F fa; intro fa F
        refine st_no F rfl (by decide) (wantF F rfl rfl (by decide) rfl (by decide)) ?_; clear F fa; intro fa F
        refine st_no F rfl (by decide) (wantF F rfl rfl (by decide) rfl (by decide)) ?_; clear F fa; intro fa F
        refine st_no F rfl (by decide) (wantF F rfl rfl (by decide) rfl (by decide)) ?_; clear F fa; intro fa F
        refine st_no F rfl (by decide) (wantF F rfl rfl (by decide) rfl (by decide)) ?_; clear F fa; intro fa F
        refine st_no F rfl (by decide) (wantF F rfl rfl (by decide) rfl (by decide)) ?_; clear F fa; intro fa F
        refine st_no F rfl (by decide) (wantF F rfl rfl (by decide) rfl (by decide)) ?_; clear F fa; intro fa F
        refine F.sv (R_pickF rfl (F.at rfl) (ev_c fa _)) ?_; clear F fa; intro fa F
        refine F.smv ?_; clear F fa; intro fa F
        refine st_no F rfl (by decide) (wantF F rfl rfl (by decide) rfl (by decide)) ?_; clear F fa; intro fa F
        refine st_no F rfl (by decide) (wantF F rfl rfl (by decide) rfl (by decide)) ?_; clear F fa; intro fa F
        refine wpStill_nil ?_
        refine F.vl (R_pickF rfl (F.at rfl) (ev_c fa _)) ?_; clear F fa; intro fa F
        refine wpList_nil ?_
        refine hK23 _ _ ?_
        clear hK23
        refine cd_F F rfl ?_
        refine wp_skip ?_
        refine hK22 _ _ ?_
        clear hK22
        refine wp_region_lit ?_
        refine F.mv ?_; clear F fa; intro fa F
        refine F.vl (R_add rfl (F.at rfl) (ev_c fa _) (by omega) (by omega)) ?_; clear F fa; intro fa F
        refine F.as ?_; clear F fa; intro fa F
        refine wpList_nil ?_
        show _ ∧ _
        exact ⟨by omega, _, ⟨rfl, EL2⟩, F.sub (.c 12 rfl (.c 4 rfl (.c 8 rfl (.c 10 rfl (.c 11 rfl .n)))))⟩
      · skip
        by_cases heq : u.rd.getD k (0, 0, 0, 0) = u.rd.getD i (0, 0, 0, 0)
        · skip
          have hyes : 0 ≤ atI R ((i : Nat) : Int) := his.2 (idl_dup hUL (by omega) (by omega) hki heq)
          replace F := F.re (k := 11) rfl (congrArg Value.bool (decide_eq_true hyes))
          refine wp_region_st 19 follows (by kernel_rfl) fun w23 hh eh => ?_
          replace q4 := keep_same hh q4
          replace q67 := keep_same hh q67
          replace E := ext_same E eh
          replace EO := ext_same EO eh
          replace EP := ext_same EP eh
          replace EL1 := ext_same EL1 eh
          replace EL2 := ext_same EL2 eh
          clear hh eh
          refine F.smv ?_; clear F fa; intro fa F
          refine F.smv ?_; clear F fa; intro fa F
          refine F.sv (R_neqB (b := true) rfl (F.at rfl) (F.at rfl) (decide_eq_false ((by omega)))) ?_; clear F fa; intro fa F
          refine F.smv ?_; clear F fa; intro fa F
          refine F.sv (R_field rfl (F.at rfl) Try.underlying28 rfl (n := 9) (sz := 1) rfl (by kernel_rfl) (by decide)) ?_ (hw := (wantT F rfl rfl (by decide) rfl)); clear F fa; intro fa F
          refine F.sv (R_load rfl (F.at rfl) Try.underlying25 rfl ((cells_of_block q4 9).trans (getS (getS (getS (getS (getS (getS (getS (getS (getS (get0)))))))))))) ?_ (hw := (wantT F rfl rfl (by decide) rfl)); clear F fa; intro fa F
          refine F.smv ?_ (hw := (wantT F rfl rfl (by decide) rfl)); clear F fa; intro fa F
          obtain ⟨xb24, xo24, xa24, xr24⟩ := HRd.out k (by omega)
          refine F.sv (R_ixSlice (sz := 4) rfl ((F.at rfl).trans (xa24 _ _)) (F.at rfl) Try.underlying25 (by kernel_rfl) (by omega) (by omega)) ?_ (hw := (wantT F rfl rfl (by decide) rfl)); clear F fa; intro fa F
          refine F.sv (R_loadRow rfl (F.at rfl) Try.underlying66 rfl (by kernel_rfl) (xr24 _ EO)) ?_ (hw := (wantT F rfl rfl (by decide) rfl)); clear F fa; intro fa F
          refine F.sv (R_field rfl (F.at rfl) Try.underlying28 rfl (n := 9) (sz := 1) rfl (by kernel_rfl) (by decide)) ?_ (hw := (wantT F rfl rfl (by decide) rfl)); clear F fa; intro fa F
          refine F.sv (R_load rfl (F.at rfl) Try.underlying25 rfl ((cells_of_block q4 9).trans (getS (getS (getS (getS (getS (getS (getS (getS (getS (get0)))))))))))) ?_ (hw := (wantT F rfl rfl (by decide) rfl)); clear F fa; intro fa F
          refine F.smv ?_ (hw := (wantT F rfl rfl (by decide) rfl)); clear F fa; intro fa F
          obtain ⟨xb25, xo25, xa25, xr25⟩ := HRd.out i (by omega)
          refine F.sv (R_ixSlice (sz := 4) rfl ((F.at rfl).trans (xa25 _ _)) (F.at rfl) Try.underlying25 (by kernel_rfl) (by omega) (by omega)) ?_ (hw := (wantT F rfl rfl (by decide) rfl)); clear F fa; intro fa F
          refine F.sv (R_loadRow rfl (F.at rfl) Try.underlying66 rfl (by kernel_rfl) (xr25 _ EO)) ?_ (hw := (wantT F rfl rfl (by decide) rfl)); clear F fa; intro fa F
          refine F.sv (R_eqlRd (r := true) rfl (F.at rfl) (F.at rfl) (decide_eq_true ((by rw [heq])))) ?_ (hw := (wantT F rfl rfl (by decide) rfl)); clear F fa; intro fa F
          refine F.sv (R_pickT rfl (F.at rfl) (F.at rfl)) ?_; clear F fa; intro fa F
          refine F.smv ?_; clear F fa; intro fa F
          refine F.smv ?_ (hw := (wantT F rfl rfl (by decide) rfl)); clear F fa; intro fa F
          refine F.sv (R_not rfl (F.at rfl)) ?_ (hw := (wantT F rfl rfl (by decide) rfl)); clear F fa; intro fa F
          refine wpStill_nil ?_
          refine F.vl (R_pickT rfl (F.at rfl) (F.at rfl)) ?_; clear F fa; intro fa F
          refine wpList_nil ?_
          replace F := F.re (k := 11) rfl (congrArg Value.bool (decide_eq_true hyes).symm)
          refine hK23 _ _ ?_
          clear hK23
          refine cd_F F rfl ?_
          refine wp_skip ?_
          refine hK22 _ _ ?_
          clear hK22
          refine wp_region_lit ?_
          refine F.mv ?_; clear F fa; intro fa F
          refine F.vl (R_add rfl (F.at rfl) (ev_c fa _) (by omega) (by omega)) ?_; clear F fa; intro fa F
          refine F.as ?_; clear F fa; intro fa F
          refine wpList_nil ?_
          show _ ∧ _
          exact ⟨by omega, _, ⟨rfl, EL2⟩, F.sub (.c 12 rfl (.c 4 rfl (.c 8 rfl (.c 10 rfl (.c 11 rfl .n)))))⟩
        · skip
          refine wp_region_st 19 follows (by kernel_rfl) fun w24 hh eh => ?_
          replace q4 := keep_same hh q4
          replace q67 := keep_same hh q67
          replace E := ext_same E eh
          replace EO := ext_same EO eh
          replace EP := ext_same EP eh
          replace EL1 := ext_same EL1 eh
          replace EL2 := ext_same EL2 eh
          clear hh eh
          refine F.smv ?_; clear F fa; intro fa F
          refine F.smv ?_; clear F fa; intro fa F
          refine F.sv (R_neqB (b := true) rfl (F.at rfl) (F.at rfl) (decide_eq_false ((by omega)))) ?_; clear F fa; intro fa F
          refine F.smv ?_; clear F fa; intro fa F
          refine F.sv (R_field rfl (F.at rfl) Try.underlying28 rfl (n := 9) (sz := 1) rfl (by kernel_rfl) (by decide)) ?_ (hw := (wantT F rfl rfl (by decide) rfl)); clear F fa; intro fa F
          refine F.sv (R_load rfl (F.at rfl) Try.underlying25 rfl ((cells_of_block q4 9).trans (getS (getS (getS (getS (getS (getS (getS (getS (getS (get0)))))))))))) ?_ (hw := (wantT F rfl rfl (by decide) rfl)); clear F fa; intro fa F
          refine F.smv ?_ (hw := (wantT F rfl rfl (by decide) rfl)); clear F fa; intro fa F
          obtain ⟨xb26, xo26, xa26, xr26⟩ := HRd.out k (by omega)
          refine F.sv (R_ixSlice (sz := 4) rfl ((F.at rfl).trans (xa26 _ _)) (F.at rfl) Try.underlying25 (by kernel_rfl) (by omega) (by omega)) ?_ (hw := (wantT F rfl rfl (by decide) rfl)); clear F fa; intro fa F
          refine F.sv (R_loadRow rfl (F.at rfl) Try.underlying66 rfl (by kernel_rfl) (xr26 _ EO)) ?_ (hw := (wantT F rfl rfl (by decide) rfl)); clear F fa; intro fa F
          refine F.sv (R_field rfl (F.at rfl) Try.underlying28 rfl (n := 9) (sz := 1) rfl (by kernel_rfl) (by decide)) ?_ (hw := (wantT F rfl rfl (by decide) rfl)); clear F fa; intro fa F
          refine F.sv (R_load rfl (F.at rfl) Try.underlying25 rfl ((cells_of_block q4 9).trans (getS (getS (getS (getS (getS (getS (getS (getS (getS (get0)))))))))))) ?_ (hw := (wantT F rfl rfl (by decide) rfl)); clear F fa; intro fa F
          refine F.smv ?_ (hw := (wantT F rfl rfl (by decide) rfl)); clear F fa; intro fa F
          obtain ⟨xb27, xo27, xa27, xr27⟩ := HRd.out i (by omega)
          refine F.sv (R_ixSlice (sz := 4) rfl ((F.at rfl).trans (xa27 _ _)) (F.at rfl) Try.underlying25 (by kernel_rfl) (by omega) (by omega)) ?_ (hw := (wantT F rfl rfl (by decide) rfl)); clear F fa; intro fa F
          refine F.sv (R_loadRow rfl (F.at rfl) Try.underlying66 rfl (by kernel_rfl) (xr27 _ EO)) ?_ (hw := (wantT F rfl rfl (by decide) rfl)); clear F fa; intro fa F
          refine F.sv (R_eqlRd (r := false) rfl (F.at rfl) (F.at rfl) (decide_eq_false ((fun h => heq h)))) ?_ (hw := (wantT F rfl rfl (by decide) rfl)); clear F fa; intro fa F
          refine F.sv (R_pickT rfl (F.at rfl) (F.at rfl)) ?_; clear F fa; intro fa F
          refine F.smv ?_; clear F fa; intro fa F
          refine st_no F rfl (by decide) (wantF F rfl rfl (by decide) rfl (by decide)) ?_; clear F fa; intro fa F
          refine st_no F rfl (by decide) (wantF F rfl rfl (by decide) rfl (by decide)) ?_; clear F fa; intro fa F
          refine wpStill_nil ?_
          refine F.vl (R_pickF rfl (F.at rfl) (ev_c fa _)) ?_; clear F fa; intro fa F
          refine wpList_nil ?_
          refine hK23 _ _ ?_
          clear hK23
          refine cd_F F rfl ?_
          refine wp_skip ?_
          refine hK22 _ _ ?_
          clear hK22
          refine wp_region_lit ?_
          refine F.mv ?_; clear F fa; intro fa F
          refine F.vl (R_add rfl (F.at rfl) (ev_c fa _) (by omega) (by omega)) ?_; clear F fa; intro fa F
          refine F.as ?_; clear F fa; intro fa F
          refine wpList_nil ?_
          show _ ∧ _
          exact ⟨by omega, _, ⟨rfl, EL2⟩, F.sub (.c 12 rfl (.c 4 rfl (.c 8 rfl (.c 10 rfl (.c 11 rfl .n)))))⟩
    · skip
      refine wp_exit ?_
      refine hK15 _ _ ?_
      clear hK15
      refine wp_region_lit ?_
      refine F.mv ?_; clear F fa; intro fa F
      refine F.vl (R_add rfl (F.at rfl) (ev_c fa _) (by omega) (by omega)) ?_; clear F fa; intro fa F
      refine F.as ?_; clear F fa; intro fa F
      refine wpList_nil ?_
      show _ ∧ _
      exact ⟨by omega, _, ⟨rfl, EL1⟩, F.sub (.c 10 rfl (.c 4 rfl (.c 8 rfl .n)))⟩
  · skip
    refine wp_exit ?_
    refine hK11 _ _ ?_
    clear hK11
    refine wp_seq_k fun K28 hK28 => ?_
    refine wp_region_lit ?_
    refine sq_call F rfl (by decide) rfl (R_callV rfl rfl Try.call25 mp0) (taken_any _) fun e w25 hR => ?_
    obtain ⟨rfl, e9⟩ := hR
    refine ⟨_, rfl, ?_⟩; clear F fa; intro fa F
    replace q4 := (e9).keep0 q4
    replace E := ext_same E (e9)
    replace EO := ext_same EO (e9)
    replace EP := ext_same EP (e9)
    clear e9
    refine F.as ?_; clear F fa; intro fa F
    refine wpList_nil ?_
    refine hK28 _ _ ?_
    clear hK28
    refine wp_ret ?_
    (try simp only [Exit.inBlock, Exit.then])
    refine rt_v F (rs_1 F rfl rfl) ?_
    exact ⟨rfl, E⟩
end Go.Proofs.Ytholfdgebdlgjaa
