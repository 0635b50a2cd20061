/- The law MeasureLonger: if Body and all Tapes are greater by a number, so is each measure, and each pull is the same. No conditions. -/
import Derived.Test.YtholfdgebdlgjaaVd
namespace Go.Proofs.Ytholfdgebdlgjaa
open Go.RowKit
set_option linter.unusedVariables false
set_option linter.unusedSimpArgs false
/-- Longer tapes. -/
def lonR (c : Int) (r : Int × Int × Int × Int) : Int × Int × Int × Int := (r.1, r.2.1, r.2.2.1, r.2.2.2 + c)
def lonT (t : Tp) (c : Int) : Tp := { t with bl := t.bl + c, bm := t.bm + c, rd := t.rd.map (lonR c) }
/-- All measures greater by c. -/
def lonX (c : Int) (x : Nat → Int) : Nat → Int := fun i => if 0 < i ∧ i < 10 then x i + c else x i
theorem lonX_C (c : Int) (x : Nat → Int) {s a : Int} (s0 : 0 ≤ s) (s3 : s < 3) (a0 : 0 ≤ a) (a3 : a < 3) : lonX c x (nodeC s a) = x (nodeC s a) + c := by
  unfold lonX nodeC
  rw [if_pos (by omega)]
theorem lonX_T (c : Int) (x : Nat → Int) {i : Int} (h : 0 ≤ i) : lonX c x (nodeT i) = x (nodeT i) := by
  unfold lonX nodeT
  rw [if_neg (by omega)]
theorem lonX_0 (c : Int) (x : Nat → Int) : lonX c x 0 = x 0 := rfl
theorem lon_tr {t : Tp} (ok : t.Ok) {c : Int} {x : Nat → Int} (h : Tr t 0 x) : Tr (lonT t c) 0 (lonX c x) := by
  have o1 := ok.S3
  have o2 := ok.A3
  refine ⟨fun s a hs ha => ?_, fun i hi => ?_, fun i hi hb => ?_, fun i hi => ?_⟩
  · have q := h.cell s a hs ha
    have hs' : (s : Int) < t.S := hs
    have ha' : (a : Int) < t.A := ha
    have e := lonX_C c x (s := s) (a := a) (by omega) (by omega) (by omega) (by omega)
    refine ⟨?_, ?_, fun h0 => ?_, fun h0 => ?_⟩
    · rw [e, lonX_0]; have := q.lo; show t.bl + c ≤ _; omega
    · rw [e, lonX_0]; have := q.hi; show _ ≤ t.bm + c; omega
    · have e2 := lonX_C c x (s := s) (a := (a : Int) - 1) (by omega) (by omega) (by omega) (by omega)
      rw [e, e2]; have := q.glo h0; show (t.gr.getD s (0, 0)).1 ≤ _; omega
    · have e2 := lonX_C c x (s := s) (a := (a : Int) - 1) (by omega) (by omega) (by omega) (by omega)
      rw [e, e2]; have := q.ghi h0; show _ ≤ (t.gr.getD s (0, 0)).2; omega
  · have q := h.tail i hi
    have e := lonX_T c x (i := i) (by omega)
    exact ⟨by rw [e, lonX_0]; exact q.lo, by rw [e, lonX_0]; exact q.hi⟩
  · have hi' : i < t.rd.length := by simpa [lonT] using hi
    have q := h.read i hi' hb
    have hr := ok.rd _ (getD_mem (0, 0, 0, 0) hi')
    have hg : (lonT t c).rd.getD i (0, 0, 0, 0) = lonR c (t.rd.getD i (0, 0, 0, 0)) := by simp [lonT, hi']
    rw [hg]
    generalize t.rd.getD i (0, 0, 0, 0) = r at q hr
    have q1 := q.lo
    have q2 := q.hi
    have e := lonX_C c x (s := r.1) (a := r.2.1) (by omega) (by omega) (by omega) (by omega)
    have e2 := lonX_T c x (i := r.2.2.1) (by omega)
    refine ⟨?_, ?_⟩ <;> (simp only [lonR]; rw [e, e2]; simp only [lonT]; omega)
  · have hi' : i < t.lk.length := hi
    have q := h.link i hi'
    have hr := ok.lk _ (getD_mem (0, 0, 0, 0, 0, 0) hi')
    show LinkOk (t.lk.getD i (0, 0, 0, 0, 0, 0)) _
    generalize t.lk.getD i (0, 0, 0, 0, 0, 0) = r at q hr
    have q1 := q.lo
    have q2 := q.hi
    have e := lonX_C c x (s := r.1) (a := r.2.1) (by omega) (by omega) (by omega) (by omega)
    have e2 := lonX_C c x (s := r.2.2.1) (a := r.2.2.2.1) (by omega) (by omega) (by omega) (by omega)
    exact ⟨by rw [e, e2]; omega, by rw [e, e2]; omega⟩
theorem lon_back (t : Tp) (c : Int) : lonT (lonT t c) (-c) = t := by
  have h : ∀ r, lonR (-c) (lonR c r) = r := fun r => by simp only [lonR]; rw [show r.2.2.2 + c + -c = r.2.2.2 by omega]
  unfold lonT
  simp only [List.map_map]
  rw [show (lonR (-c) ∘ lonR c) = id from funext h, List.map_id]
  cases t
  simp only [Tp.mk.injEq, true_and, and_true]
  exact ⟨by omega, by omega⟩
theorem lonX_back (c : Int) (x : Nat → Int) : lonX (-c) (lonX c x) = x := by
  funext i
  unfold lonX
  split <;> omega
theorem Wild.lon {t : Tp} (h : Wild t) {c : Int} (h1 : -20 ≤ c) (h2 : c ≤ 20) : (lonT t c).Ok ∧ (lonT t c).rd.length ≤ 8 := by
  have o := h.ok
  have b1 := h.bl1
  have b2 := h.bl2
  have b3 := h.bm
  have b4 := o.b
  have hl : (lonT t c).rd.length = t.rd.length := by simp [lonT]
  have hrl := h.rdl
  refine ⟨⟨o.S1, o.S3, o.A1, o.A3, o.T1, o.T3, by simp only [lonT]; omega, by simp only [lonT]; omega, by simp only [lonT]; omega, o.pl1, o.pm1, o.p, o.sl0, o.sl5, o.grl, o.gr, by omega, fun r hm => ?_, o.lkl, o.lk⟩, by omega⟩
  obtain ⟨r, hr, rfl⟩ := List.mem_map.1 hm
  have a := o.rd r hr
  have b := h.rd r hr
  simp only [lonR, lonT]
  omega
/-- What the law says. -/
theorem lon_law {t : Tp} (h : Wild t) {c : Int} (h1 : -20 ≤ c) (h2 : c ≤ 20) : qe (lonT t c) = qe t ∧ (∀ s a : Int, 0 ≤ s → s < t.S → 0 ≤ a → a < t.A → qe t = 0 → qlo (lonT t c) s a = qlo t s a + c ∧ qhi (lonT t c) s a = qhi t s a + c) ∧
    (∀ i : Int, 0 ≤ i → i < t.T → rlo (lonT t c) i = rlo t i ∧ rhi (lonT t c) i = rhi t i) := by
  obtain ⟨uok, u8⟩ := h.lon h1 h2
  have ok := h.ok
  have t8 : t.rd.length ≤ 8 := by have := h.rdl; omega
  have F : ∀ x, Tr t 0 x → Tr (lonT t c) 0 (lonX c x) := fun x hx => lon_tr ok hx
  have B : ∀ y, Tr (lonT t c) 0 y → Tr t 0 (lonX (-c) y) := fun y hy => by
    have := lon_tr uok (c := -c) hy
    rwa [lon_back] at this
  have hbb : bdB (lonT t c) 0 = bdB t 0 := by
    have i1 := bdB_iff ok
    have i2 := bdB_iff uok
    rw [Bool.eq_iff_iff, i1, i2]
    exact ⟨fun ⟨y, hy⟩ => ⟨_, B y hy⟩, fun ⟨x, hx⟩ => ⟨_, F x hx⟩⟩
  refine ⟨by rw [qe, qe, hbb], fun s a s0 s1 a0 a1 he => ?_, fun i i0 i1 => ?_⟩
  · have hb := qe_zero.1 he
    have L := live_of ok t8 hb
    have M := live_of uok u8 (hbb.trans hb)
    have o1 := ok.S3
    have o2 := ok.A3
    have l := live_cellI (t := t) s0 s1 a0 a1
    have l' := live_cellI (t := lonT t c) s0 s1 a0 a1
    have e := fun x => lonX_C c x (s := s) (a := a) (by omega) (by omega) (by omega) (by omega)
    have e' := fun x => lonX_C (-c) x (s := s) (a := a) (by omega) (by omega) (by omega) (by omega)
    have m1 := bd_map (c := c) L M (live_zero t) l (live_zero _) l' (fun x hx => ⟨_, F x hx, by rw [e, lonX_0]; omega⟩) (fun y hy => ⟨_, B y hy, by rw [e', lonX_0]; omega⟩)
    have m2 := bd_map (c := -c) L M l (live_zero t) l' (live_zero _) (fun x hx => ⟨_, F x hx, by rw [e, lonX_0]; omega⟩) (fun y hy => ⟨_, B y hy, by rw [e', lonX_0]; omega⟩)
    rw [qlo, qlo, qhi, qhi, hbb, if_pos hb, if_pos hb, if_pos hb, if_pos hb]
    unfold mlo mhi
    omega
  · by_cases hb : bdB t 0 = true
    · have L := live_of ok t8 hb
      have M := live_of uok u8 (hbb.trans hb)
      have l := live_tailI (t := t) i0 i1
      have l' := live_tailI (t := lonT t c) i0 i1
      have e := fun x => lonX_T c x (i := i) i0
      have e' := fun x => lonX_T (-c) x (i := i) i0
      have m1 := bd_map (c := 0) L M (live_zero t) l (live_zero _) l' (fun x hx => ⟨_, F x hx, by rw [e, lonX_0]; omega⟩) (fun y hy => ⟨_, B y hy, by rw [e', lonX_0]; omega⟩)
      have m2 := bd_map (c := 0) L M l (live_zero t) l' (live_zero _) (fun x hx => ⟨_, F x hx, by rw [e, lonX_0]; omega⟩) (fun y hy => ⟨_, B y hy, by rw [e', lonX_0]; omega⟩)
      rw [rlo, rlo, rhi, rhi, hbb, if_pos hb, if_pos hb, if_pos hb, if_pos hb]
      unfold plo phi
      omega
    · rw [rlo, rlo, rhi, rhi, hbb, if_neg hb, if_neg hb, if_neg hb, if_neg hb]
      exact ⟨rfl, rfl⟩
set_option maxRecDepth 100000 in
theorem longer_walk (a0 : Option Addr) (len0 cap0 : Nat) (z0 : List Int) (w : World) (h0 : IsRow .i64 w a0 len0 cap0 z0) :
    Calls Try.prog 10 #[.slice a0 len0 cap0] w fun e w' => e = .returned (.bool true) ∧ Ext [] w w' := by
  have HN := Lib.hid (newLots_any w a0 len0 cap0 z0 h0)
  clear h0
  have E : Ext [] w w := Ext.refl _ _
  refine calls_has 140 Try.func10 rfl Try.ntmps10 (Nat.le_of_ble_eq_true rfl) ?_
  intro fa F
  refine wp_seq_k fun K1 hK1 => ?_
  refine wp_region_lit ?_
  refine sq_val F rfl (by decide) rfl (R_assign rfl (ev_c fa _)) ?_; clear F fa; intro fa F
  refine wpList_nil ?_
  refine hK1 _ _ ?_
  clear hK1
  refine wp_seq_k fun K2 hK2 => ?_
  refine wp_region_lit ?_
  refine sq_val F rfl (by decide) rfl (R_move rfl (F.at rfl)) ?_; clear F fa; intro fa F
  refine sq_call F rfl (by decide) rfl (R_callV rfl rfl Try.call27 (mpS (F.at rfl) mp0)) (HN.out) fun e w1 hR => ?_
  obtain ⟨b, rfl, hb, hb2, HL, e1⟩ := hR
  refine ⟨_, rfl, ?_⟩; clear F fa; intro fa F
  replace E := ext_same E (e1)
  clear e1
  refine sq_val F rfl (by decide) rfl (R_assign rfl (F.at rfl)) ?_; clear F fa; intro fa F
  refine wpList_nil ?_
  refine hK2 _ _ ?_
  clear hK2
  refine wp_seq_k fun K3 hK3 => ?_
  refine wp_region_lit ?_
  refine sq_val F rfl (by decide) rfl (R_move rfl (F.at rfl)) ?_; clear F fa; intro fa F
  have hbB := lots_lt HL
  obtain ⟨B0, hB0⟩ : ∃ B0, B0 = w1.heap.size := ⟨_, rfl⟩
  rw [← hB0] at hbB
  have hwB : w.heap.size ≤ B0 := by rw [hB0]; exact E.size
  refine sq_call F rfl (by decide) rfl (R_callV rfl rfl Try.call46 (mpS (F.at rfl) mp0)) (tapesOf_any w _ b _ _ HL (by omega)) fun e w2 hR => ?_
  obtain ⟨t, gv, rv, lv, rfl, hW, ⟨og, orr, olk⟩, HL, e2⟩ := hR
  refine ⟨_, rfl, ?_⟩; clear F fa; intro fa F
  replace E := E.trans' e2 (fun i hi hl => by simp only [List.mem_cons, List.not_mem_nil, or_false] at hi ⊢; omega)
  rw [← hB0] at og orr olk
  have hB1 : B0 ≤ w2.heap.size := by rw [hB0]; exact e2.size
  clear hB0 e2
  obtain ⟨ga, gc, rfl⟩ := owns_slice og
  obtain ⟨ra, rc, rfl⟩ := owns_slice orr
  obtain ⟨la, lc, rfl⟩ := owns_slice olk
  refine sq_new F rfl (by decide) rfl (R_alloc rfl Try.zeroValue28) ?_; clear F fa; intro fa w3 F hw
  obtain ⟨n4, hn⟩ : ∃ n, n = w2.heap.size := ⟨_, rfl⟩
  rw [← hn] at F
  have l4_E : w.heap.size ≤ n4 := by rw [hn]; exact E.size
  have b4_HL := Nat.lt_of_lt_of_eq (lots_lt HL) hn.symm
  have o4_og := Lib.hid (own_ne_new og hn)
  have o4_olk := Lib.hid (own_ne_new olk hn)
  have o4_orr := Lib.hid (own_ne_new orr hn)
  replace og := owns_alloc hw og
  replace olk := owns_alloc hw olk
  replace orr := owns_alloc hw orr
  replace E := ext_alloc E hw
  replace HL := lots_alloc hw HL
  have q4 := new_row hw hn
  clear hw hn
  refine sq_to rfl rfl (R_storeRow rfl (F.at rfl) (F.at rfl) (by kernel_rfl) (by simp [Value.oneCell']) q4 rfl) ?_; intro w4 hw
  replace og := owns_cellsX hw og (own_ne_type og q4 (by decide))
  replace olk := owns_cellsX hw olk (own_ne_type olk q4 (by decide))
  replace orr := owns_cellsX hw orr (own_ne_type orr q4 (by decide))
  replace q4 := put_row hw q4 rfl
  replace E := ext_cells E hw (fun h => by first | exact absurd h (by omega) | simp)
  replace HL := lots_cells hw HL (by omega) (by omega)
  clear hw
  refine wpList_nil ?_
  refine hK3 _ _ ?_
  clear hK3
  refine wp_seq_k fun K4 hK4 => ?_
  refine wp_region_lit ?_
  refine sq_val F rfl (by decide) rfl (R_move rfl (F.at rfl)) ?_; clear F fa; intro fa F
  refine sq_call F rfl (by decide) rfl (R_callV rfl rfl Try.call55 (mpS (F.at rfl) (mpS (ev_c fa _) (mpS (ev_c fa _) mp0)))) (in_any w _ b _ _ (-20) 20 HL (by omega) (by omega) (by omega) (by omega) (by omega)) fun e w5 hR => ?_
  obtain ⟨c, rfl, hc1, hc2, HL, e3⟩ := hR
  refine ⟨_, rfl, ?_⟩; clear F fa; intro fa F
  replace og := owns_ext og (e3) (by simp; omega)
  replace olk := owns_ext olk (e3) (by simp; omega)
  replace orr := owns_ext orr (e3) (by simp; omega)
  replace q4 := (e3).keep q4 (by simp; omega)
  replace E := E.trans' e3 (fun i hi hl => by simp only [List.mem_cons, List.not_mem_nil, or_false] at hi ⊢; omega)
  replace hc2 : c ≤ 20 := by omega
  clear e3
  have HT := Lib.hid (tp_of_owns og orr olk)
  clear og orr olk
  have EO : Ext [] w5 w5 := Ext.refl _ _
  have HRd := Lib.hid (slAt_of_rows HT.out.rd (0, 0, 0, 0))
  have HGr := Lib.hid (slAt_of_rows HT.out.gr (0, 0))
  have HLk := Lib.hid (slAt_of_rows HT.out.lk (0, 0, 0, 0, 0, 0))
  have hokT := hW.ok
  have hS1 := hokT.S1
  have hS3 := hokT.S3
  have hA1 := hokT.A1
  have hA3 := hokT.A3
  have hT1 := hokT.T1
  have hT3 := hokT.T3
  have hgl := hokT.grl
  have hrl := hW.rdl
  have hkl := hW.lkl
  obtain ⟨hP1, hP2⟩ := ok_prod hokT
  refine sq_val F rfl (by decide) rfl (R_assign rfl (F.at rfl)) ?_; clear F fa; intro fa F
  refine wpList_nil ?_
  obtain ⟨hlq, hlm, hlp⟩ := lon_law hW hc1 hc2
  obtain ⟨uok, u8⟩ := hW.lon hc1 hc2
  have t8 : t.rd.length ≤ 8 := by omega
  refine hK4 _ _ ?_
  clear hK4
  refine wp_seq_k fun K5 hK5 => ?_
  refine wp_region_lit ?_
  refine sq_val F rfl (by decide) rfl (R_loadBlk rfl (F.at rfl) Try.underlying28 rfl (by kernel_rfl) q4) ?_; clear F fa; intro fa F
  obtain ⟨Bx, hBx⟩ : ∃ Bx, Bx = w5.heap.size := ⟨_, rfl⟩
  have hOx2 := Nat.le_trans EO.size (Nat.le_of_eq hBx.symm)
  have hwx := Nat.le_trans E.size (Nat.le_of_eq hBx.symm)
  refine sq_call F rfl (by decide) rfl (R_callV rfl rfl Try.call28 (mpS (F.at rfl) mp0)) (copyTapes_any t ga ra la gc rc lc _ (HT.out.ext EO (by simp)) (by omega) (by omega) (by omega)) fun e w6 hR => ?_
  obtain ⟨gx, rx, lx, rfl, ⟨ogx, orx, olx⟩, eX⟩ := hR
  refine ⟨_, rfl, ?_⟩; clear F fa; intro fa F
  replace q4 := (eX).keep0 q4
  replace E := ext_same E (eX)
  replace EO := ext_same EO (eX)
  rw [← hBx] at ogx orx olx
  have hBx1 : Bx ≤ w6.heap.size := by rw [hBx]; exact eX.size
  clear hBx eX
  obtain ⟨gxa, gxc, rfl⟩ := owns_slice ogx
  obtain ⟨rxa, rxc, rfl⟩ := owns_slice orx
  obtain ⟨lxa, lxc, rfl⟩ := owns_slice olx
  refine sq_new F rfl (by decide) rfl (R_alloc rfl Try.zeroValue28) ?_; clear F fa; intro fa w7 F hw
  obtain ⟨n6, hn⟩ : ∃ n, n = w6.heap.size := ⟨_, rfl⟩
  rw [← hn] at F
  have l6_E : w.heap.size ≤ n6 := by rw [hn]; exact E.size
  have l6_EO : w5.heap.size ≤ n6 := by rw [hn]; exact EO.size
  have m6_4 : n4 < n6 := by rw [hn]; exact blk_lt q4
  have o6_ogx := Lib.hid (own_ne_new ogx hn)
  have o6_olx := Lib.hid (own_ne_new olx hn)
  have o6_orx := Lib.hid (own_ne_new orx hn)
  replace ogx := owns_alloc hw ogx
  replace olx := owns_alloc hw olx
  replace orx := owns_alloc hw orx
  replace q4 := keep_alloc hw q4
  replace E := ext_alloc E hw
  replace EO := ext_alloc EO hw
  have q6 := new_row hw hn
  clear hw hn
  refine sq_to rfl rfl (R_storeRow rfl (F.at rfl) (F.at rfl) (by kernel_rfl) (by simp [Value.oneCell']) q6 rfl) ?_; intro w8 hw
  replace ogx := owns_cellsX hw ogx (own_ne_type ogx q6 (by decide))
  replace olx := owns_cellsX hw olx (own_ne_type olx q6 (by decide))
  replace orx := owns_cellsX hw orx (own_ne_type orx q6 (by decide))
  replace q4 := keep_cells hw q4 (by omega)
  replace q6 := put_row hw q6 rfl
  replace E := ext_cells E hw (fun h => by first | exact absurd h (by omega) | simp)
  replace EO := ext_cells EO hw (fun h => by first | exact absurd h (by omega) | simp)
  clear hw
  refine wpList_nil ?_
  refine hK5 _ _ ?_
  clear hK5
  refine wp_seq_k fun K6 hK6 => ?_
  have hbl1 := hW.bl1
  have hbl2 := hW.bl2
  have hbm1 := hW.bm
  have hbm2 := hokT.b
  refine wp_region_lit ?_
  refine sq_val F rfl (by decide) rfl (R_field rfl (F.at rfl) Try.underlying28 rfl (n := 3) (sz := 2) rfl (by kernel_rfl) (by decide)) ?_; clear F fa; intro fa F
  refine sq_val F rfl (by decide) rfl (R_field rfl (F.at rfl) Try.underlying23 rfl (n := 3) (sz := 1) rfl (by kernel_rfl) (by decide)) ?_; clear F fa; intro fa F
  refine sq_val F rfl (by decide) rfl (R_load rfl (F.at rfl) Try.underlying3 rfl ((cells_of_block q4 3).trans (getS (getS (getS (get0)))))) ?_; clear F fa; intro fa F
  refine sq_val F rfl (by decide) rfl (R_move rfl (F.at rfl)) ?_; clear F fa; intro fa F
  refine sq_val F rfl (by decide) rfl (R_add rfl (F.at rfl) (F.at rfl) (by omega) (by omega)) ?_; clear F fa; intro fa F
  refine sq_val F rfl (by decide) rfl (R_field rfl (F.at rfl) Try.underlying28 rfl (n := 3) (sz := 2) rfl (by kernel_rfl) (by decide)) ?_; clear F fa; intro fa F
  refine sq_val F rfl (by decide) rfl (R_field rfl (F.at rfl) Try.underlying23 rfl (n := 4) (sz := 1) rfl (by kernel_rfl) (by decide)) ?_; clear F fa; intro fa F
  refine sq_val F rfl (by decide) rfl (R_load rfl (F.at rfl) Try.underlying3 rfl ((cells_of_block q4 4).trans (getS (getS (getS (getS (get0))))))) ?_; clear F fa; intro fa F
  refine sq_val F rfl (by decide) rfl (R_move rfl (F.at rfl)) ?_; clear F fa; intro fa F
  refine sq_val F rfl (by decide) rfl (R_add rfl (F.at rfl) (F.at rfl) (by omega) (by omega)) ?_; clear F fa; intro fa F
  refine sq_val F rfl (by decide) rfl (R_buildV rfl (prS (F.at rfl) (prS (F.at rfl) pr0)) (cells := #[.int .i64 (t.bl + c), .int .i64 (t.bm + c)]) (by kernel_rfl)) ?_; clear F fa; intro fa F
  refine sq_val F rfl (by decide) rfl (R_field rfl (F.at rfl) Try.underlying28 rfl (n := 3) (sz := 2) rfl (by kernel_rfl) (by decide)) ?_; clear F fa; intro fa F
  refine sq_to rfl rfl (R_storeMid rfl (F.at rfl) (F.at rfl) (by kernel_rfl) (by simp [Value.oneCell']) q6 (by simp)) ?_; intro w9 hw
  replace ogx := owns_cellsX hw ogx (own_ne_type ogx q6 (by decide))
  replace olx := owns_cellsX hw olx (own_ne_type olx q6 (by decide))
  replace orx := owns_cellsX hw orx (own_ne_type orx q6 (by decide))
  replace q4 := keep_cells hw q4 (by omega)
  replace q6 := put_mid2 hw q6 (by simp only [List.setIfInBounds_toArray, List.set_cons_succ, List.set_cons_zero]; exact rfl)
  replace E := ext_cells E hw (fun h => by first | exact absurd h (by omega) | simp)
  replace EO := ext_cells EO hw (fun h => by first | exact absurd h (by omega) | simp)
  clear hw
  refine wpList_nil ?_
  refine hK6 _ _ ?_
  clear hK6
  refine wp_seq_k fun K7 hK7 => ?_
  refine wp_seq_k fun K8 hK8 => ?_
  refine wp_region_lit ?_
  refine sq_val F rfl (by decide) rfl (R_assign rfl (ev_c fa _)) ?_; clear F fa; intro fa F
  refine wpList_nil ?_
  refine hK8 _ _ ?_
  clear hK8
  refine wp_block ?_
  have F0 := F.sub (.c 4 rfl (.c 5 rfl (.c 6 rfl .n)))
  refine lp_for F0 (t.rd.length) (fun i Lv W => Lv = [(7, .int .i64 ((i : Nat) : Int))] ∧ Ext [] w W ∧ Ext [] w5 W ∧ W.heap[n4]? = some (.cells #[.int .i64 t.S, .int .i64 t.A, .int .i64 t.T, .int .i64 t.bl, .int .i64 t.bm, .int .i64 t.pl, .int .i64 t.pm, .int .i64 t.sl, .slice ga t.gr.length gc, .slice ra t.rd.length rc, .slice la t.lk.length lc] 28 (0, 0)) ∧ W.heap[n6]? = some (.cells #[.int .i64 t.S, .int .i64 t.A, .int .i64 t.T, .int .i64 (t.bl + c), .int .i64 (t.bm + c), .int .i64 t.pl, .int .i64 t.pm, .int .i64 t.sl, .slice gxa t.gr.length gxc, .slice rxa t.rd.length rxc, .slice lxa t.lk.length lxc] 28 (0, 0)) ∧ W.ownsRow Bx 23 2 (.slice gxa t.gr.length gxc) t.gr.length (flatG t.gr) ∧ W.ownsRow Bx 75 6 (.slice lxa t.lk.length lxc) t.lk.length (flatK t.lk) ∧ W.ownsRow Bx 66 4 (.slice rxa t.rd.length rxc) t.rd.length (flatR (mapTo (lonR c) i t.rd))) ⟨_, ⟨rfl, E, EO, q4, q6, ogx, olx, (by rw [mapTo_0]; exact orx)⟩, F.sub (.c 7 rfl (.c 4 rfl (.c 5 rfl (.c 6 rfl .n))))⟩ ?_
  clear F F0
  clear E EO q4 q6 ogx olx
  clear orx
  rintro i _ fa w10 hi1 ⟨rfl, E, EO, q4, q6, ogx, olx, orx⟩ F
  refine wp_seq_k fun K9 hK9 => ?_
  refine wp_seq_k fun K10 hK10 => ?_
  refine wp_region_lit ?_
  refine sq_val F rfl (by decide) rfl (R_move rfl (F.at rfl)) ?_; clear F fa; intro fa F
  refine sq_val F rfl (by decide) rfl (R_field rfl (F.at rfl) Try.underlying28 rfl (n := 9) (sz := 1) rfl (by kernel_rfl) (by decide)) ?_; clear F fa; intro fa F
  refine sq_val F rfl (by decide) rfl (R_load rfl (F.at rfl) Try.underlying25 rfl ((cells_of_block q6 9).trans (getS (getS (getS (getS (getS (getS (getS (getS (getS (get0)))))))))))) ?_; clear F fa; intro fa F
  refine sq_val F rfl (by decide) rfl (R_len rfl rfl (F.at rfl) Try.underlying25) ?_; clear F fa; intro fa F
  refine sq_val F rfl (by decide) rfl (R_lss rfl (F.at rfl) (F.at rfl)) ?_; clear F fa; intro fa F
  refine wpList_nil ?_
  refine hK10 _ _ ?_
  clear hK10
  refine cd_if F rfl (fun hc42 => ?_) (fun hc42 => ?_)
  · skip
    refine wp_skip ?_
    refine hK9 _ _ ?_
    clear hK9
    refine wp_seq_k fun K11 hK11 => ?_
    refine wp_block ?_
    have hfl : (flatR (mapTo (lonR c) i t.rd)).length = t.rd.length * 4 := (flat_len (row := rdRow) (sz := 4) (fun _ => rfl) _).trans (by rw [mapTo_len])
    have HX := Lib.hid (slAt_of_owns orx (mapTo_len _ _ _).symm (fun _ => rfl) [] (by simp) (0, 0, 0, 0))
    have hlx := mapTo_len (lonR c) i t.rd
    have hrw := hW.rd _ (getD_mem (0, 0, 0, 0) (show i < t.rd.length by omega))
    refine wp_region_st 13 follows (by kernel_rfl) fun w11 hh eh => ?_
    replace q4 := keep_same hh q4
    replace q6 := keep_same hh q6
    replace E := ext_same E eh
    replace EO := ext_same EO eh
    replace ogx := owns_same hh ogx
    replace olx := owns_same hh olx
    replace orx := owns_same hh orx
    clear hh eh
    refine st_val F rfl (by decide) rfl (R_field rfl (F.at rfl) Try.underlying28 rfl (n := 9) (sz := 1) rfl (by kernel_rfl) (by decide)) ?_; clear F fa; intro fa F
    refine st_val F rfl (by decide) rfl (R_load rfl (F.at rfl) Try.underlying25 rfl ((cells_of_block q6 9).trans (getS (getS (getS (getS (getS (getS (getS (getS (getS (get0)))))))))))) ?_; clear F fa; intro fa F
    refine st_val F rfl (by decide) rfl (R_move rfl (F.at rfl)) ?_; clear F fa; intro fa F
    refine st_val F rfl (by decide) rfl (R_field rfl (F.at rfl) Try.underlying28 rfl (n := 9) (sz := 1) rfl (by kernel_rfl) (by decide)) ?_; clear F fa; intro fa F
    refine st_val F rfl (by decide) rfl (R_load rfl (F.at rfl) Try.underlying25 rfl ((cells_of_block q4 9).trans (getS (getS (getS (getS (getS (getS (getS (getS (getS (get0)))))))))))) ?_; clear F fa; intro fa F
    refine st_val F rfl (by decide) rfl (R_move rfl (F.at rfl)) ?_; clear F fa; intro fa F
    obtain ⟨xb12, xo12, xa12, xr12⟩ := HRd.out i (by omega)
    refine st_val F rfl (by decide) rfl (R_ixSlice (sz := 4) rfl ((F.at rfl).trans (xa12 _ _)) (F.at rfl) Try.underlying25 (by kernel_rfl) (by omega) (by omega)) ?_; clear F fa; intro fa F
    refine st_val F rfl (by decide) rfl (R_field rfl (F.at rfl) Try.underlying66 rfl (n := xo12 + ((i : Nat) : Int).toNat * 4 + 3) (sz := 1) rfl (by kernel_rfl) (by decide)) ?_; clear F fa; intro fa F
    refine st_val F rfl (by decide) rfl (R_load rfl (F.at rfl) Try.underlying3 rfl (xr12 _ EO 3 _ rfl)) ?_; clear F fa; intro fa F
    refine st_val F rfl (by decide) rfl (R_move rfl (F.at rfl)) ?_; clear F fa; intro fa F
    refine st_val F rfl (by decide) rfl (R_add rfl (F.at rfl) (F.at rfl) (by omega) (by omega)) ?_; clear F fa; intro fa F
    obtain ⟨xb13, xo13, xa13, xr13⟩ := HX.out i (by omega)
    refine st_val F rfl (by decide) rfl (R_ixSlice (sz := 4) rfl ((F.at rfl).trans (xa13 _ _)) (F.at rfl) Try.underlying25 (by kernel_rfl) (by omega) (by omega)) ?_; clear F fa; intro fa F
    refine st_val F rfl (by decide) rfl (R_field rfl (F.at rfl) Try.underlying66 rfl (n := xo13 + ((i : Nat) : Int).toNat * 4 + 3) (sz := 1) rfl (by kernel_rfl) (by decide)) ?_; clear F fa; intro fa F
    refine wpStill_nil ?_
    obtain ⟨⟨u0, hcu⟩, hfu, hst⟩ := owns_at orx xa13 (j := i * 4 + 3) (p := xo13 + ((i : Nat) : Int).toNat * 4 + 3) (by first | omega | (simp; omega)) (by omega)
    refine sq_to rfl rfl (R_store rfl (F.at rfl) (F.at rfl) rfl (by kernel_rfl) hcu hfu) ?_; intro w12 hw
    obtain ⟨hown', hg⟩ := hst _ _ hw
    clear hst hcu hfu hw
    replace q4 := keep_type orx hg q4 (by decide)
    replace q6 := (hg.block n6 (blk_lt q6) o6_orx.out).trans q6
    replace ogx := owns_other ogx orx hg (by decide)
    replace olx := owns_other olx orx hg (by decide)
    replace E := ext_appendX E orx hg (by omega)
    replace EO := ext_appendX EO orx hg (by omega)
    replace orx := hown'
    clear hg
    rw [flatR_set _ _ _ (by omega), mapTo_get _ _ _ (by omega)] at orx
    rw [show (mapTo (lonR c) i t.rd).set i ((t.rd.getD i (0, 0, 0, 0)).1, (t.rd.getD i (0, 0, 0, 0)).2.1, (t.rd.getD i (0, 0, 0, 0)).2.2.1, (t.rd.getD i (0, 0, 0, 0)).2.2.2 + c) = mapTo (lonR c) (i + 1) t.rd from mapTo_step (lonR c) (0, 0, 0, 0) t.rd (by omega)] at orx
    refine wpList_nil ?_
    refine hK11 _ _ ?_
    clear hK11
    refine wp_region_lit ?_
    refine sq_val F rfl (by decide) rfl (R_move rfl (F.at rfl)) ?_; clear F fa; intro fa F
    refine sq_val F rfl (by decide) rfl (R_add rfl (F.at rfl) (ev_c fa _) (by omega) (by omega)) ?_; clear F fa; intro fa F
    refine sq_val F rfl (by decide) rfl (R_assign rfl (F.at rfl)) ?_; clear F fa; intro fa F
    refine wpList_nil ?_
    show _ ∧ _
    exact ⟨by omega, _, ⟨rfl, E, EO, q4, q6, ogx, olx, orx⟩, F.sub (.c 7 rfl (.c 4 rfl (.c 5 rfl (.c 6 rfl .n))))⟩
  · skip
    refine wp_exit ?_
    rw [mapTo_all _ _ (by omega), show w10.ownsRow Bx 66 4 (.slice rxa t.rd.length rxc) t.rd.length (flatR (t.rd.map (lonR c))) = w10.ownsRow Bx 66 4 (.slice rxa t.rd.length rxc) (lonT t c).rd.length (flatR (lonT t c).rd) by simp [lonT]] at orx
    have HU := Lib.hid (tp_of_owns (t := lonT t c) ogx orx olx)
    clear ogx orx olx
    have EU : Ext [] w10 w10 := Ext.refl _ _
    refine hK7 _ _ ?_
    clear hK7
    refine wp_seq_k fun K14 hK14 => ?_
    refine wp_seq_k fun K15 hK15 => ?_
    refine wp_region_lit ?_
    refine sq_val F rfl (by decide) rfl (R_assign rfl (ev_c fa _)) ?_; clear F fa; intro fa F
    refine wpList_nil ?_
    refine hK15 _ _ ?_
    clear hK15
    refine wp_block ?_
    have F0 := F.sub (.c 4 rfl (.c 5 rfl (.c 6 rfl .n)))
    refine lp_for F0 ((t.S * t.A).toNat) (fun i Lv W => Lv = [(8, .int .i64 ((i : Nat) : Int))] ∧ Ext [] w10 W) ⟨_, ⟨rfl, Ext.refl _ _⟩, F.sub (.c 8 rfl (.c 4 rfl (.c 5 rfl (.c 6 rfl .n))))⟩ ?_
    clear F F0
    rintro i _ fa w13 hi2 ⟨rfl, EL2⟩ F
    have q4 := EL2.keep0 q4
    have q6 := EL2.keep0 q6
    have E := E.nil EL2
    have EO := EO.nil EL2
    have EU := EU.nil EL2
    refine wp_seq_k fun K16 hK16 => ?_
    refine wp_seq_k fun K17 hK17 => ?_
    refine wp_region_lit ?_
    refine sq_val F rfl (by decide) rfl (R_move rfl (F.at rfl)) ?_; clear F fa; intro fa F
    refine sq_val F rfl (by decide) rfl (R_field rfl (F.at rfl) Try.underlying28 rfl (n := 0) (sz := 1) rfl (by kernel_rfl) (by decide)) ?_; clear F fa; intro fa F
    refine sq_val F rfl (by decide) rfl (R_load rfl (F.at rfl) Try.underlying3 rfl ((cells_of_block q4 0).trans (get0))) ?_; clear F fa; intro fa F
    refine sq_val F rfl (by decide) rfl (R_field rfl (F.at rfl) Try.underlying28 rfl (n := 1) (sz := 1) rfl (by kernel_rfl) (by decide)) ?_; clear F fa; intro fa F
    refine sq_val F rfl (by decide) rfl (R_load rfl (F.at rfl) Try.underlying3 rfl ((cells_of_block q4 1).trans (getS (get0)))) ?_; clear F fa; intro fa F
    refine sq_val F rfl (by decide) rfl (R_mul rfl (F.at rfl) (F.at rfl) (by omega) (by omega)) ?_; clear F fa; intro fa F
    refine sq_val F rfl (by decide) rfl (R_lss rfl (F.at rfl) (F.at rfl)) ?_; clear F fa; intro fa F
    refine wpList_nil ?_
    refine hK17 _ _ ?_
    clear hK17
    refine cd_if F rfl (fun hc64 => ?_) (fun hc64 => ?_)
    · skip
      refine wp_skip ?_
      refine hK16 _ _ ?_
      clear hK16
      refine wp_seq_k fun K18 hK18 => ?_
      refine wp_block ?_
      refine wp_seq_k fun K19 hK19 => ?_
      obtain ⟨y1, y2, y3, y4⟩ := nd_in2 (S := t.S) (A := t.A) (x := i) (by omega) (by omega)
      have hqb := qbd hokT t8 y1 y2 y3 y4
      have hqm := hlm _ _ y1 y2 y3 y4
      suffices hcut : ∀ (n9 : Nat) (fa : Act) (w21 : World), Has 140 fa [(4, .pointer (some ⟨n4, 0, none⟩)), (5, .int .i64 c), (6, .pointer (some ⟨n6, 0, none⟩)), (8, .int .i64 ((i : Nat) : Int)), (9, .pointer (some ⟨n9, 0, none⟩)), (10, .int .i64 (qe t))] → w21.heap[n4]? = some (.cells #[.int .i64 t.S, .int .i64 t.A, .int .i64 t.T, .int .i64 t.bl, .int .i64 t.bm, .int .i64 t.pl, .int .i64 t.pm, .int .i64 t.sl, .slice ga t.gr.length gc, .slice ra t.rd.length rc, .slice la t.lk.length lc] 28 (0, 0)) → w21.heap[n6]? = some (.cells #[.int .i64 t.S, .int .i64 t.A, .int .i64 t.T, .int .i64 (t.bl + c), .int .i64 (t.bm + c), .int .i64 t.pl, .int .i64 t.pm, .int .i64 t.sl, .slice gxa t.gr.length gxc, .slice rxa t.rd.length rxc, .slice lxa t.lk.length lxc] 28 (0, 0)) → w21.heap[n9]? = some (.cells #[.int .i64 (qlo t ((i : Int) / t.A) ((i : Int) % t.A)), .int .i64 (qhi t ((i : Int) / t.A) ((i : Int) % t.A))] 23 (0, 0)) → Ext [] w w21 → Ext [] w5 w21 → Ext [] w10 w21 → Ext [] w10 w21 → w.heap.size ≤ n9 → w5.heap.size ≤ n9 → w10.heap.size ≤ n9 → w10.heap.size ≤ n9 → n4 ≠ n9 → n6 ≠ n9 → K19 fa w21 by
        refine region_x (Ext [] w13) none follows fun w14 hh eh => ?_
        have q4_ := q4
        replace q4 := keep_same hh q4
        have q6_ := q6
        replace q6 := keep_same hh q6
        have E_ := E
        replace E := ext_same E eh
        have EO_ := EO
        replace EO := ext_same EO eh
        have EU_ := EU
        replace EU := ext_same EU eh
        have EL2_ := EL2
        replace EL2 := ext_same EL2 eh
        have eT := eh
        clear hh eh
        refine ax_read (i := 0) F rfl rfl (by decide) (by kernel_rfl) (fun _ _ _ h => h) rfl (fun w' hS => R_loadBlk rfl (F.at rfl) Try.underlying28 rfl (by kernel_rfl) (hS.keep q4_ (by simp))) (fun _ => eT) ?_; clear F fa; intro fa F
        refine ax_val (i := 1) F rfl rfl (by decide) (by kernel_rfl) (fun _ _ _ h => h) rfl (fun w' => R_move rfl (F.at rfl)) (fun _ => eT) ?_; clear F fa; intro fa F
        refine ax_val (i := 2) F rfl rfl (by decide) (by kernel_rfl) (fun _ _ _ h => h) rfl (fun w' => R_field rfl (F.at rfl) Try.underlying28 rfl (n := 1) (sz := 1) rfl (by kernel_rfl) (by decide)) (fun _ => eT) ?_; clear F fa; intro fa F
        refine ax_read (i := 3) F rfl rfl (by decide) (by kernel_rfl) (fun _ _ _ h => h) rfl (fun w' hS => R_load rfl (F.at rfl) Try.underlying3 rfl ((cells_of_block (hS.keep q4_ (by simp)) 1).trans (getS (get0)))) (fun _ => eT) ?_; clear F fa; intro fa F
        refine ax_val (i := 4) F rfl rfl (by decide) (by kernel_rfl) (fun _ _ _ h => h) rfl (fun w' => R_quoP rfl (F.at rfl) (F.at rfl) (by omega) (by omega) (by omega)) (fun _ => eT) ?_; clear F fa; intro fa F
        refine ax_val (i := 5) F rfl rfl (by decide) (by kernel_rfl) (fun _ _ _ h => h) rfl (fun w' => R_move rfl (F.at rfl)) (fun _ => eT) ?_; clear F fa; intro fa F
        refine ax_val (i := 6) F rfl rfl (by decide) (by kernel_rfl) (fun _ _ _ h => h) rfl (fun w' => R_field rfl (F.at rfl) Try.underlying28 rfl (n := 1) (sz := 1) rfl (by kernel_rfl) (by decide)) (fun _ => eT) ?_; clear F fa; intro fa F
        refine ax_read (i := 7) F rfl rfl (by decide) (by kernel_rfl) (fun _ _ _ h => h) rfl (fun w' hS => R_load rfl (F.at rfl) Try.underlying3 rfl ((cells_of_block (hS.keep q4_ (by simp)) 1).trans (getS (get0)))) (fun _ => eT) ?_; clear F fa; intro fa F
        refine ax_val (i := 8) F rfl rfl (by decide) (by kernel_rfl) (fun _ _ _ h => h) rfl (fun w' => R_remP rfl (F.at rfl) (F.at rfl) (by omega) (by omega)) (fun _ => eT) ?_; clear F fa; intro fa F
        refine ax_pair (i := 9) (j := 13) (by kernel_rfl) ?_ ?_
        · skip
          refine (op_call F rfl rfl (by decide) rfl (R_callV rfl rfl Try.call33 (mpS (F.at rfl) (mpS (F.at rfl) (mpS (F.at rfl) mp0)))) (meas_q hokT t8 ((HT).out.ext EO (by simp)) y1 y2 y3 y4) fun e w15 hR => ?_)
          obtain ⟨rfl, e9⟩ := hR
          refine ⟨_, rfl, ?_⟩; clear F fa; intro fa F
          replace q4 := (e9).keep0 q4
          replace q6 := (e9).keep0 q6
          replace E := ext_same E (e9)
          replace EO := ext_same EO (e9)
          replace EU := ext_same EU (e9)
          replace EL2 := ext_same EL2 (e9)
          replace eT := ext_same eT (e9)
          clear e9
          refine ⟨fun _ => eT, ?_⟩
          refine ax_val (i := 10) F rfl rfl (by decide) (by kernel_rfl) (fun _ _ _ h => h) rfl (fun w' => R_move rfl (F.at rfl)) (fun _ => eT) ?_; clear F fa; intro fa F
          refine ax_val (i := 11) F rfl rfl (by decide) (by kernel_rfl) (fun _ _ _ h => h) rfl (fun w' => R_extract rfl (F.at rfl) (get0)) (fun _ => eT) ?_; clear F fa; intro fa F
          refine ax_val (i := 12) F rfl rfl (by decide) (by kernel_rfl) (fun _ _ _ h => h) rfl (fun w' => R_extract rfl (F.at rfl) (getS (get0))) (fun _ => eT) ?_; clear F fa; intro fa F
          refine ax_only (i := 13) (by kernel_rfl) (op_new F rfl rfl (by decide) rfl (R_alloc rfl Try.zeroValue23) ?_); clear F fa; intro fa w16 F hw
          obtain ⟨n9, hn⟩ : ∃ n, n = w15.heap.size := ⟨_, rfl⟩
          rw [← hn] at F
          have l9_E : w.heap.size ≤ n9 := by rw [hn]; exact E.size
          have l9_EO : w5.heap.size ≤ n9 := by rw [hn]; exact EO.size
          have l9_EU : w10.heap.size ≤ n9 := by rw [hn]; exact EU.size
          have l9_EL2 : w10.heap.size ≤ n9 := by rw [hn]; exact EL2.size
          have lT9 : w13.heap.size ≤ n9 := by rw [hn]; exact eT.size
          have m9_4 : n4 < n9 := by rw [hn]; exact blk_lt q4
          have m9_6 : n6 < n9 := by rw [hn]; exact blk_lt q6
          replace q4 := keep_alloc hw q4
          replace q6 := keep_alloc hw q6
          replace E := ext_alloc E hw
          replace EO := ext_alloc EO hw
          replace EU := ext_alloc EU hw
          replace EL2 := ext_alloc EL2 hw
          replace eT := ext_alloc eT hw
          have q9 := new_row hw hn
          clear hw hn
          refine ⟨fun _ => eT, ?_⟩
          refine ax_only (i := 14) (by kernel_rfl) (op_to rfl rfl rfl (R_storeRow rfl (F.at rfl) (F.at rfl) (by kernel_rfl) (by simp [Value.oneCell']) q9 rfl) ?_); intro w17 hw
          replace q4 := keep_cells hw q4 (by omega)
          replace q6 := keep_cells hw q6 (by omega)
          replace q9 := put_row hw q9 rfl
          replace E := ext_cells E hw (fun h => by first | exact absurd h (by omega) | simp)
          replace EO := ext_cells EO hw (fun h => by first | exact absurd h (by omega) | simp)
          replace EU := ext_cells EU hw (fun h => by first | exact absurd h (by omega) | simp)
          replace EL2 := ext_cells EL2 hw (fun h => by first | exact absurd h (by omega) | simp)
          replace eT := ext_cells eT hw (fun h => by first | exact absurd h (by omega) | simp)
          clear hw
          refine ⟨fun _ => eT, ?_⟩
          refine ax_val (i := 15) F rfl rfl (by decide) (by kernel_rfl) (fun _ _ _ h => h) rfl (fun w' => R_assign rfl (F.at rfl)) (fun _ => eT) ?_; clear F fa; intro fa F
          refine ax_done (by kernel_rfl) ?_ _
          exact hcut _ _ _ (F.sub (.c 4 rfl (.c 5 rfl (.c 6 rfl (.c 8 rfl (.c 9 rfl (.c 10 rfl .n))))))) q4 q6 q9 E EO EU EL2 (by omega) (by omega) (by omega) (by omega) (by omega) (by omega)
        · skip
          refine (op_new F rfl rfl (by decide) rfl (R_alloc rfl Try.zeroValue23) ?_); clear F fa; intro fa w18 F hw
          obtain ⟨n9, hn⟩ : ∃ n, n = w14.heap.size := ⟨_, rfl⟩
          rw [← hn] at F
          have l9_E : w.heap.size ≤ n9 := by rw [hn]; exact E.size
          have l9_EO : w5.heap.size ≤ n9 := by rw [hn]; exact EO.size
          have l9_EU : w10.heap.size ≤ n9 := by rw [hn]; exact EU.size
          have l9_EL2 : w10.heap.size ≤ n9 := by rw [hn]; exact EL2.size
          have lT9 : w13.heap.size ≤ n9 := by rw [hn]; exact eT.size
          have m9_4 : n4 < n9 := by rw [hn]; exact blk_lt q4
          have m9_6 : n6 < n9 := by rw [hn]; exact blk_lt q6
          replace q4 := keep_alloc hw q4
          replace q6 := keep_alloc hw q6
          replace E := ext_alloc E hw
          replace EO := ext_alloc EO hw
          replace EU := ext_alloc EU hw
          replace EL2 := ext_alloc EL2 hw
          replace eT := ext_alloc eT hw
          have q9 := new_row hw hn
          clear hw hn
          refine ⟨fun _ => eT, ?_⟩
          refine ax_only (i := 9) (by kernel_rfl) (op_call F rfl rfl (by decide) rfl (R_callV rfl rfl Try.call33 (mpS (F.at rfl) (mpS (F.at rfl) (mpS (F.at rfl) mp0)))) (meas_q hokT t8 ((HT).out.ext EO (by simp)) y1 y2 y3 y4) fun e w19 hR => ?_)
          obtain ⟨rfl, e9⟩ := hR
          refine ⟨_, rfl, ?_⟩; clear F fa; intro fa F
          replace q4 := (e9).keep0 q4
          replace q6 := (e9).keep0 q6
          replace q9 := (e9).keep0 q9
          replace E := ext_same E (e9)
          replace EO := ext_same EO (e9)
          replace EU := ext_same EU (e9)
          replace EL2 := ext_same EL2 (e9)
          replace eT := ext_same eT (e9)
          clear e9
          refine ⟨fun _ => eT, ?_⟩
          refine ax_val (i := 10) F rfl rfl (by decide) (by kernel_rfl) (fun _ _ _ h => h) rfl (fun w' => R_move rfl (F.at rfl)) (fun _ => eT) ?_; clear F fa; intro fa F
          refine ax_val (i := 11) F rfl rfl (by decide) (by kernel_rfl) (fun _ _ _ h => h) rfl (fun w' => R_extract rfl (F.at rfl) (get0)) (fun _ => eT) ?_; clear F fa; intro fa F
          refine ax_val (i := 12) F rfl rfl (by decide) (by kernel_rfl) (fun _ _ _ h => h) rfl (fun w' => R_extract rfl (F.at rfl) (getS (get0))) (fun _ => eT) ?_; clear F fa; intro fa F
          refine ax_only (i := 14) (by kernel_rfl) (op_to rfl rfl rfl (R_storeRow rfl (F.at rfl) (F.at rfl) (by kernel_rfl) (by simp [Value.oneCell']) q9 rfl) ?_); intro w20 hw
          replace q4 := keep_cells hw q4 (by omega)
          replace q6 := keep_cells hw q6 (by omega)
          replace q9 := put_row hw q9 rfl
          replace E := ext_cells E hw (fun h => by first | exact absurd h (by omega) | simp)
          replace EO := ext_cells EO hw (fun h => by first | exact absurd h (by omega) | simp)
          replace EU := ext_cells EU hw (fun h => by first | exact absurd h (by omega) | simp)
          replace EL2 := ext_cells EL2 hw (fun h => by first | exact absurd h (by omega) | simp)
          replace eT := ext_cells eT hw (fun h => by first | exact absurd h (by omega) | simp)
          clear hw
          refine ⟨fun _ => eT, ?_⟩
          refine ax_val (i := 15) F rfl rfl (by decide) (by kernel_rfl) (fun _ _ _ h => h) rfl (fun w' => R_assign rfl (F.at rfl)) (fun _ => eT) ?_; clear F fa; intro fa F
          refine ax_done (by kernel_rfl) ?_ _
          exact hcut _ _ _ (F.sub (.c 4 rfl (.c 5 rfl (.c 6 rfl (.c 8 rfl (.c 9 rfl (.c 10 rfl .n))))))) q4 q6 q9 E EO EU EL2 (by omega) (by omega) (by omega) (by omega) (by omega) (by omega)
      clear F q4 q6 E EO EU EL2 fa
      intro n9  fa w21 F q4 q6 q9 E EO EU EL2 l9_E l9_EO l9_EU l9_EL2 m9_4 m9_6
      refine hK19 _ _ ?_
      clear hK19
      refine wp_seq_k fun K20 hK20 => ?_
      suffices hcut : ∀ (n11 : Nat) (fa : Act) (w29 : World), Has 140 fa [(4, .pointer (some ⟨n4, 0, none⟩)), (5, .int .i64 c), (6, .pointer (some ⟨n6, 0, none⟩)), (8, .int .i64 ((i : Nat) : Int)), (9, .pointer (some ⟨n9, 0, none⟩)), (10, .int .i64 (qe t)), (11, .pointer (some ⟨n11, 0, none⟩)), (12, .int .i64 (qe t))] → w29.heap[n4]? = some (.cells #[.int .i64 t.S, .int .i64 t.A, .int .i64 t.T, .int .i64 t.bl, .int .i64 t.bm, .int .i64 t.pl, .int .i64 t.pm, .int .i64 t.sl, .slice ga t.gr.length gc, .slice ra t.rd.length rc, .slice la t.lk.length lc] 28 (0, 0)) → w29.heap[n6]? = some (.cells #[.int .i64 t.S, .int .i64 t.A, .int .i64 t.T, .int .i64 (t.bl + c), .int .i64 (t.bm + c), .int .i64 t.pl, .int .i64 t.pm, .int .i64 t.sl, .slice gxa t.gr.length gxc, .slice rxa t.rd.length rxc, .slice lxa t.lk.length lxc] 28 (0, 0)) → w29.heap[n9]? = some (.cells #[.int .i64 (qlo t ((i : Int) / t.A) ((i : Int) % t.A)), .int .i64 (qhi t ((i : Int) / t.A) ((i : Int) % t.A))] 23 (0, 0)) → w29.heap[n11]? = some (.cells #[.int .i64 (qlo (lonT t c) ((i : Int) / t.A) ((i : Int) % t.A)), .int .i64 (qhi (lonT t c) ((i : Int) / t.A) ((i : Int) % t.A))] 23 (0, 0)) → Ext [] w w29 → Ext [] w5 w29 → Ext [] w10 w29 → Ext [] w10 w29 → w.heap.size ≤ n11 → w5.heap.size ≤ n11 → w10.heap.size ≤ n11 → w10.heap.size ≤ n11 → n4 ≠ n11 → n6 ≠ n11 → n9 ≠ n11 → K20 fa w29 by
        refine region_x (Ext [] w21) none follows fun w22 hh eh => ?_
        have q4_ := q4
        replace q4 := keep_same hh q4
        have q6_ := q6
        replace q6 := keep_same hh q6
        have q9_ := q9
        replace q9 := keep_same hh q9
        have E_ := E
        replace E := ext_same E eh
        have EO_ := EO
        replace EO := ext_same EO eh
        have EU_ := EU
        replace EU := ext_same EU eh
        have EL2_ := EL2
        replace EL2 := ext_same EL2 eh
        have eT := eh
        clear hh eh
        refine ax_read (i := 0) F rfl rfl (by decide) (by kernel_rfl) (fun _ _ _ h => h) rfl (fun w' hS => R_loadBlk rfl (F.at rfl) Try.underlying28 rfl (by kernel_rfl) (hS.keep q6_ (by simp))) (fun _ => eT) ?_; clear F fa; intro fa F
        refine ax_val (i := 1) F rfl rfl (by decide) (by kernel_rfl) (fun _ _ _ h => h) rfl (fun w' => R_move rfl (F.at rfl)) (fun _ => eT) ?_; clear F fa; intro fa F
        refine ax_val (i := 2) F rfl rfl (by decide) (by kernel_rfl) (fun _ _ _ h => h) rfl (fun w' => R_field rfl (F.at rfl) Try.underlying28 rfl (n := 1) (sz := 1) rfl (by kernel_rfl) (by decide)) (fun _ => eT) ?_; clear F fa; intro fa F
        refine ax_read (i := 3) F rfl rfl (by decide) (by kernel_rfl) (fun _ _ _ h => h) rfl (fun w' hS => R_load rfl (F.at rfl) Try.underlying3 rfl ((cells_of_block (hS.keep q4_ (by simp)) 1).trans (getS (get0)))) (fun _ => eT) ?_; clear F fa; intro fa F
        refine ax_val (i := 4) F rfl rfl (by decide) (by kernel_rfl) (fun _ _ _ h => h) rfl (fun w' => R_quoP rfl (F.at rfl) (F.at rfl) (by omega) (by omega) (by omega)) (fun _ => eT) ?_; clear F fa; intro fa F
        refine ax_val (i := 5) F rfl rfl (by decide) (by kernel_rfl) (fun _ _ _ h => h) rfl (fun w' => R_move rfl (F.at rfl)) (fun _ => eT) ?_; clear F fa; intro fa F
        refine ax_val (i := 6) F rfl rfl (by decide) (by kernel_rfl) (fun _ _ _ h => h) rfl (fun w' => R_field rfl (F.at rfl) Try.underlying28 rfl (n := 1) (sz := 1) rfl (by kernel_rfl) (by decide)) (fun _ => eT) ?_; clear F fa; intro fa F
        refine ax_read (i := 7) F rfl rfl (by decide) (by kernel_rfl) (fun _ _ _ h => h) rfl (fun w' hS => R_load rfl (F.at rfl) Try.underlying3 rfl ((cells_of_block (hS.keep q4_ (by simp)) 1).trans (getS (get0)))) (fun _ => eT) ?_; clear F fa; intro fa F
        refine ax_val (i := 8) F rfl rfl (by decide) (by kernel_rfl) (fun _ _ _ h => h) rfl (fun w' => R_remP rfl (F.at rfl) (F.at rfl) (by omega) (by omega)) (fun _ => eT) ?_; clear F fa; intro fa F
        refine ax_pair (i := 9) (j := 13) (by kernel_rfl) ?_ ?_
        · skip
          refine (op_call F rfl rfl (by decide) rfl (R_callV rfl rfl Try.call33 (mpS (F.at rfl) (mpS (F.at rfl) (mpS (F.at rfl) mp0)))) (meas_q uok u8 ((HU).out.ext EU (by simp)) y1 y2 y3 y4) fun e w23 hR => ?_)
          obtain ⟨rfl, e9⟩ := hR
          refine ⟨_, rfl, ?_⟩; clear F fa; intro fa F
          replace q4 := (e9).keep0 q4
          replace q6 := (e9).keep0 q6
          replace q9 := (e9).keep0 q9
          replace E := ext_same E (e9)
          replace EO := ext_same EO (e9)
          replace EU := ext_same EU (e9)
          replace EL2 := ext_same EL2 (e9)
          replace eT := ext_same eT (e9)
          clear e9
          refine ⟨fun _ => eT, ?_⟩
          rw [hlq] at F
          refine ax_val (i := 10) F rfl rfl (by decide) (by kernel_rfl) (fun _ _ _ h => h) rfl (fun w' => R_move rfl (F.at rfl)) (fun _ => eT) ?_; clear F fa; intro fa F
          refine ax_val (i := 11) F rfl rfl (by decide) (by kernel_rfl) (fun _ _ _ h => h) rfl (fun w' => R_extract rfl (F.at rfl) (get0)) (fun _ => eT) ?_; clear F fa; intro fa F
          refine ax_val (i := 12) F rfl rfl (by decide) (by kernel_rfl) (fun _ _ _ h => h) rfl (fun w' => R_extract rfl (F.at rfl) (getS (get0))) (fun _ => eT) ?_; clear F fa; intro fa F
          refine ax_only (i := 13) (by kernel_rfl) (op_new F rfl rfl (by decide) rfl (R_alloc rfl Try.zeroValue23) ?_); clear F fa; intro fa w24 F hw
          obtain ⟨n11, hn⟩ : ∃ n, n = w23.heap.size := ⟨_, rfl⟩
          rw [← hn] at F
          have l11_E : w.heap.size ≤ n11 := by rw [hn]; exact E.size
          have l11_EO : w5.heap.size ≤ n11 := by rw [hn]; exact EO.size
          have l11_EU : w10.heap.size ≤ n11 := by rw [hn]; exact EU.size
          have l11_EL2 : w10.heap.size ≤ n11 := by rw [hn]; exact EL2.size
          have lT11 : w21.heap.size ≤ n11 := by rw [hn]; exact eT.size
          have m11_4 : n4 < n11 := by rw [hn]; exact blk_lt q4
          have m11_6 : n6 < n11 := by rw [hn]; exact blk_lt q6
          have m11_9 : n9 < n11 := by rw [hn]; exact blk_lt q9
          replace q4 := keep_alloc hw q4
          replace q6 := keep_alloc hw q6
          replace q9 := keep_alloc hw q9
          replace E := ext_alloc E hw
          replace EO := ext_alloc EO hw
          replace EU := ext_alloc EU hw
          replace EL2 := ext_alloc EL2 hw
          replace eT := ext_alloc eT hw
          have q11 := new_row hw hn
          clear hw hn
          refine ⟨fun _ => eT, ?_⟩
          refine ax_only (i := 14) (by kernel_rfl) (op_to rfl rfl rfl (R_storeRow rfl (F.at rfl) (F.at rfl) (by kernel_rfl) (by simp [Value.oneCell']) q11 rfl) ?_); intro w25 hw
          replace q4 := keep_cells hw q4 (by omega)
          replace q6 := keep_cells hw q6 (by omega)
          replace q9 := keep_cells hw q9 (by omega)
          replace q11 := put_row hw q11 rfl
          replace E := ext_cells E hw (fun h => by first | exact absurd h (by omega) | simp)
          replace EO := ext_cells EO hw (fun h => by first | exact absurd h (by omega) | simp)
          replace EU := ext_cells EU hw (fun h => by first | exact absurd h (by omega) | simp)
          replace EL2 := ext_cells EL2 hw (fun h => by first | exact absurd h (by omega) | simp)
          replace eT := ext_cells eT hw (fun h => by first | exact absurd h (by omega) | simp)
          clear hw
          refine ⟨fun _ => eT, ?_⟩
          refine ax_val (i := 15) F rfl rfl (by decide) (by kernel_rfl) (fun _ _ _ h => h) rfl (fun w' => R_assign rfl (F.at rfl)) (fun _ => eT) ?_; clear F fa; intro fa F
          refine ax_done (by kernel_rfl) ?_ _
          exact hcut _ _ _ (F.sub (.c 4 rfl (.c 5 rfl (.c 6 rfl (.c 8 rfl (.c 9 rfl (.c 10 rfl (.c 11 rfl (.c 12 rfl .n))))))))) q4 q6 q9 q11 E EO EU EL2 (by omega) (by omega) (by omega) (by omega) (by omega) (by omega) (by omega)
        · skip
          refine (op_new F rfl rfl (by decide) rfl (R_alloc rfl Try.zeroValue23) ?_); clear F fa; intro fa w26 F hw
          obtain ⟨n11, hn⟩ : ∃ n, n = w22.heap.size := ⟨_, rfl⟩
          rw [← hn] at F
          have l11_E : w.heap.size ≤ n11 := by rw [hn]; exact E.size
          have l11_EO : w5.heap.size ≤ n11 := by rw [hn]; exact EO.size
          have l11_EU : w10.heap.size ≤ n11 := by rw [hn]; exact EU.size
          have l11_EL2 : w10.heap.size ≤ n11 := by rw [hn]; exact EL2.size
          have lT11 : w21.heap.size ≤ n11 := by rw [hn]; exact eT.size
          have m11_4 : n4 < n11 := by rw [hn]; exact blk_lt q4
          have m11_6 : n6 < n11 := by rw [hn]; exact blk_lt q6
          have m11_9 : n9 < n11 := by rw [hn]; exact blk_lt q9
          replace q4 := keep_alloc hw q4
          replace q6 := keep_alloc hw q6
          replace q9 := keep_alloc hw q9
          replace E := ext_alloc E hw
          replace EO := ext_alloc EO hw
          replace EU := ext_alloc EU hw
          replace EL2 := ext_alloc EL2 hw
          replace eT := ext_alloc eT hw
          have q11 := new_row hw hn
          clear hw hn
          refine ⟨fun _ => eT, ?_⟩
          refine ax_only (i := 9) (by kernel_rfl) (op_call F rfl rfl (by decide) rfl (R_callV rfl rfl Try.call33 (mpS (F.at rfl) (mpS (F.at rfl) (mpS (F.at rfl) mp0)))) (meas_q uok u8 ((HU).out.ext EU (by simp)) y1 y2 y3 y4) fun e w27 hR => ?_)
          obtain ⟨rfl, e9⟩ := hR
          refine ⟨_, rfl, ?_⟩; clear F fa; intro fa F
          replace q4 := (e9).keep0 q4
          replace q6 := (e9).keep0 q6
          replace q9 := (e9).keep0 q9
          replace q11 := (e9).keep0 q11
          replace E := ext_same E (e9)
          replace EO := ext_same EO (e9)
          replace EU := ext_same EU (e9)
          replace EL2 := ext_same EL2 (e9)
          replace eT := ext_same eT (e9)
          clear e9
          refine ⟨fun _ => eT, ?_⟩
          rw [hlq] at F
          refine ax_val (i := 10) F rfl rfl (by decide) (by kernel_rfl) (fun _ _ _ h => h) rfl (fun w' => R_move rfl (F.at rfl)) (fun _ => eT) ?_; clear F fa; intro fa F
          refine ax_val (i := 11) F rfl rfl (by decide) (by kernel_rfl) (fun _ _ _ h => h) rfl (fun w' => R_extract rfl (F.at rfl) (get0)) (fun _ => eT) ?_; clear F fa; intro fa F
          refine ax_val (i := 12) F rfl rfl (by decide) (by kernel_rfl) (fun _ _ _ h => h) rfl (fun w' => R_extract rfl (F.at rfl) (getS (get0))) (fun _ => eT) ?_; clear F fa; intro fa F
          refine ax_only (i := 14) (by kernel_rfl) (op_to rfl rfl rfl (R_storeRow rfl (F.at rfl) (F.at rfl) (by kernel_rfl) (by simp [Value.oneCell']) q11 rfl) ?_); intro w28 hw
          replace q4 := keep_cells hw q4 (by omega)
          replace q6 := keep_cells hw q6 (by omega)
          replace q9 := keep_cells hw q9 (by omega)
          replace q11 := put_row hw q11 rfl
          replace E := ext_cells E hw (fun h => by first | exact absurd h (by omega) | simp)
          replace EO := ext_cells EO hw (fun h => by first | exact absurd h (by omega) | simp)
          replace EU := ext_cells EU hw (fun h => by first | exact absurd h (by omega) | simp)
          replace EL2 := ext_cells EL2 hw (fun h => by first | exact absurd h (by omega) | simp)
          replace eT := ext_cells eT hw (fun h => by first | exact absurd h (by omega) | simp)
          clear hw
          refine ⟨fun _ => eT, ?_⟩
          refine ax_val (i := 15) F rfl rfl (by decide) (by kernel_rfl) (fun _ _ _ h => h) rfl (fun w' => R_assign rfl (F.at rfl)) (fun _ => eT) ?_; clear F fa; intro fa F
          refine ax_done (by kernel_rfl) ?_ _
          exact hcut _ _ _ (F.sub (.c 4 rfl (.c 5 rfl (.c 6 rfl (.c 8 rfl (.c 9 rfl (.c 10 rfl (.c 11 rfl (.c 12 rfl .n))))))))) q4 q6 q9 q11 E EO EU EL2 (by omega) (by omega) (by omega) (by omega) (by omega) (by omega) (by omega)
      clear F q4 q6 q9 E EO EU EL2 fa
      intro n11  fa w29 F q4 q6 q9 q11 E EO EU EL2 l11_E l11_EO l11_EU l11_EL2 m11_4 m11_6 m11_9
      refine hK20 _ _ ?_
      clear hK20
      refine wp_seq_k fun K21 hK21 => ?_
      refine wp_region_lit ?_
      refine sq_val F rfl (by decide) rfl (R_move rfl (F.at rfl)) ?_; clear F fa; intro fa F
      refine sq_val F rfl (by decide) rfl (R_move rfl (F.at rfl)) ?_; clear F fa; intro fa F
      refine sq_val F rfl (by decide) rfl (R_neqB (b := false) rfl (F.at rfl) (F.at rfl) (decide_eq_true rfl)) ?_; clear F fa; intro fa F
      refine sq_val F rfl (by decide) rfl (R_move rfl (F.at rfl)) ?_; clear F fa; intro fa F
      refine sq_val F rfl (by decide) (wantT F rfl rfl (by decide) rfl) (R_move rfl (F.at rfl)) ?_; clear F fa; intro fa F
      refine sq_val F rfl (by decide) (wantT F rfl rfl (by decide) rfl) (R_eqlD rfl (F.at rfl) (ev_c fa _)) ?_; clear F fa; intro fa F
      refine sq_val F rfl (by decide) (wantT F rfl rfl (by decide) rfl) (R_move rfl (F.at rfl)) ?_; clear F fa; intro fa F
      by_cases hg1 : ((qe t) = 0)
      · skip
        replace F := F.re (k := 99) rfl (congrArg Value.bool (decide_eq_true hg1))
        refine sq_val F rfl (by decide) (wantT F rfl rfl (by decide) rfl) (R_loadBlk rfl (F.at rfl) Try.underlying23 rfl (by kernel_rfl) q11) ?_; clear F fa; intro fa F
        refine sq_val F rfl (by decide) (wantT F rfl rfl (by decide) rfl) (R_field rfl (F.at rfl) Try.underlying23 rfl (n := 0) (sz := 1) rfl (by kernel_rfl) (by decide)) ?_; clear F fa; intro fa F
        refine sq_val F rfl (by decide) (wantT F rfl rfl (by decide) rfl) (R_load rfl (F.at rfl) Try.underlying3 rfl ((cells_of_block q9 0).trans (get0))) ?_; clear F fa; intro fa F
        refine sq_val F rfl (by decide) (wantT F rfl rfl (by decide) rfl) (R_move rfl (F.at rfl)) ?_; clear F fa; intro fa F
        refine sq_val F rfl (by decide) (wantT F rfl rfl (by decide) rfl) (R_add rfl (F.at rfl) (F.at rfl) (by omega) (by omega)) ?_; clear F fa; intro fa F
        refine sq_val F rfl (by decide) (wantT F rfl rfl (by decide) rfl) (R_field rfl (F.at rfl) Try.underlying23 rfl (n := 1) (sz := 1) rfl (by kernel_rfl) (by decide)) ?_; clear F fa; intro fa F
        refine sq_val F rfl (by decide) (wantT F rfl rfl (by decide) rfl) (R_load rfl (F.at rfl) Try.underlying3 rfl ((cells_of_block q9 1).trans (getS (get0)))) ?_; clear F fa; intro fa F
        refine sq_val F rfl (by decide) (wantT F rfl rfl (by decide) rfl) (R_move rfl (F.at rfl)) ?_; clear F fa; intro fa F
        refine sq_val F rfl (by decide) (wantT F rfl rfl (by decide) rfl) (R_add rfl (F.at rfl) (F.at rfl) (by omega) (by omega)) ?_; clear F fa; intro fa F
        refine sq_val F rfl (by decide) (wantT F rfl rfl (by decide) rfl) (R_buildV rfl (prS (F.at rfl) (prS (F.at rfl) pr0)) (cells := #[.int .i64 ((qlo t ((i : Int) / t.A) ((i : Int) % t.A)) + c), .int .i64 ((qhi t ((i : Int) / t.A) ((i : Int) % t.A)) + c)]) (by kernel_rfl)) ?_; clear F fa; intro fa F
        refine sq_val F rfl (by decide) (wantT F rfl rfl (by decide) rfl) (R_neqBt (r := false) rfl (F.at rfl) (F.at rfl) (decide_eq_true (hqm hg1))) ?_; clear F fa; intro fa F
        refine sq_val F rfl (by decide) (wantT F rfl rfl (by decide) rfl) (R_pickT rfl (F.at rfl) (F.at rfl)) ?_; clear F fa; intro fa F
        refine sq_val F rfl (by decide) rfl (R_pickF rfl (F.at rfl) (F.at rfl)) ?_; clear F fa; intro fa F
        refine wpList_nil ?_
        refine hK21 _ _ ?_
        clear hK21
        refine cd_F F rfl ?_
        refine wp_skip ?_
        refine hK18 _ _ ?_
        clear hK18
        refine wp_region_lit ?_
        refine sq_val F rfl (by decide) rfl (R_move rfl (F.at rfl)) ?_; clear F fa; intro fa F
        refine sq_val F rfl (by decide) rfl (R_add rfl (F.at rfl) (ev_c fa _) (by omega) (by omega)) ?_; clear F fa; intro fa F
        refine sq_val F rfl (by decide) rfl (R_assign rfl (F.at rfl)) ?_; clear F fa; intro fa F
        refine wpList_nil ?_
        show _ ∧ _
        exact ⟨by omega, _, ⟨rfl, EL2⟩, F.sub (.c 8 rfl (.c 4 rfl (.c 5 rfl (.c 6 rfl .n))))⟩
      · skip
        replace F := F.re (k := 99) rfl (congrArg Value.bool (decide_eq_false hg1))
        refine sq_no F rfl (by decide) (wantF F rfl rfl (by decide) rfl (by decide)) ?_; clear F fa; intro fa F
        refine sq_no F rfl (by decide) (wantF F rfl rfl (by decide) rfl (by decide)) ?_; clear F fa; intro fa F
        refine sq_no F rfl (by decide) (wantF F rfl rfl (by decide) rfl (by decide)) ?_; clear F fa; intro fa F
        refine sq_no F rfl (by decide) (wantF F rfl rfl (by decide) rfl (by decide)) ?_; clear F fa; intro fa F
        refine sq_no F rfl (by decide) (wantF F rfl rfl (by decide) rfl (by decide)) ?_; clear F fa; intro fa F
        refine sq_no F rfl (by decide) (wantF F rfl rfl (by decide) rfl (by decide)) ?_; clear F fa; intro fa F
        refine sq_no F rfl (by decide) (wantF F rfl rfl (by decide) rfl (by decide)) ?_; clear F fa; intro fa F
        refine sq_no F rfl (by decide) (wantF F rfl rfl (by decide) rfl (by decide)) ?_; clear F fa; intro fa F
        refine sq_no F rfl (by decide) (wantF F rfl rfl (by decide) rfl (by decide)) ?_; clear F fa; intro fa F
        refine sq_no F rfl (by decide) (wantF F rfl rfl (by decide) rfl (by decide)) ?_; clear F fa; intro fa F
        refine sq_no F rfl (by decide) (wantF F rfl rfl (by decide) rfl (by decide)) ?_; clear F fa; intro fa F
        refine sq_val F rfl (by decide) (wantT F rfl rfl (by decide) rfl) (R_pickF rfl (F.at rfl) (ev_c fa _)) ?_; clear F fa; intro fa F
        refine sq_val F rfl (by decide) rfl (R_pickF rfl (F.at rfl) (F.at rfl)) ?_; clear F fa; intro fa F
        refine wpList_nil ?_
        refine hK21 _ _ ?_
        clear hK21
        refine cd_F F rfl ?_
        refine wp_skip ?_
        refine hK18 _ _ ?_
        clear hK18
        refine wp_region_lit ?_
        refine sq_val F rfl (by decide) rfl (R_move rfl (F.at rfl)) ?_; clear F fa; intro fa F
        refine sq_val F rfl (by decide) rfl (R_add rfl (F.at rfl) (ev_c fa _) (by omega) (by omega)) ?_; clear F fa; intro fa F
        refine sq_val F rfl (by decide) rfl (R_assign rfl (F.at rfl)) ?_; clear F fa; intro fa F
        refine wpList_nil ?_
        show _ ∧ _
        exact ⟨by omega, _, ⟨rfl, EL2⟩, F.sub (.c 8 rfl (.c 4 rfl (.c 5 rfl (.c 6 rfl .n))))⟩
    · skip
      refine wp_exit ?_
      refine hK14 _ _ ?_
      clear hK14
      refine wp_seq_k fun K22 hK22 => ?_
      refine wp_seq_k fun K23 hK23 => ?_
      refine wp_region_lit ?_
      refine sq_val F rfl (by decide) rfl (R_assign rfl (ev_c fa _)) ?_; clear F fa; intro fa F
      refine wpList_nil ?_
      refine hK23 _ _ ?_
      clear hK23
      refine wp_block ?_
      have F0 := F.sub (.c 4 rfl (.c 6 rfl .n))
      refine lp_for F0 (t.T.toNat) (fun i Lv W => Lv = [(13, .int .i64 ((i : Nat) : Int))] ∧ Ext [] w13 W) ⟨_, ⟨rfl, Ext.refl _ _⟩, F.sub (.c 13 rfl (.c 4 rfl (.c 6 rfl .n)))⟩ ?_
      clear F F0
      rintro i _ fa w30 hi3 ⟨rfl, EL3⟩ F
      have q4 := EL3.keep0 q4
      have q6 := EL3.keep0 q6
      have E := E.nil EL3
      have EO := EO.nil EL3
      have EU := EU.nil EL3
      refine wp_seq_k fun K24 hK24 => ?_
      refine wp_seq_k fun K25 hK25 => ?_
      refine wp_region_lit ?_
      refine sq_val F rfl (by decide) rfl (R_move rfl (F.at rfl)) ?_; clear F fa; intro fa F
      refine sq_val F rfl (by decide) rfl (R_field rfl (F.at rfl) Try.underlying28 rfl (n := 2) (sz := 1) rfl (by kernel_rfl) (by decide)) ?_; clear F fa; intro fa F
      refine sq_val F rfl (by decide) rfl (R_load rfl (F.at rfl) Try.underlying3 rfl ((cells_of_block q4 2).trans (getS (getS (get0))))) ?_; clear F fa; intro fa F
      refine sq_val F rfl (by decide) rfl (R_lss rfl (F.at rfl) (F.at rfl)) ?_; clear F fa; intro fa F
      refine wpList_nil ?_
      refine hK25 _ _ ?_
      clear hK25
      refine cd_if F rfl (fun hc116 => ?_) (fun hc116 => ?_)
      · skip
        refine wp_skip ?_
        refine hK24 _ _ ?_
        clear hK24
        refine wp_seq_k fun K26 hK26 => ?_
        refine wp_block ?_
        refine wp_seq_k fun K27 hK27 => ?_
        have hqp := hlp i (by omega) (by omega)
        refine wp_region_lit ?_
        refine sq_val F rfl (by decide) rfl (R_loadBlk rfl (F.at rfl) Try.underlying28 rfl (by kernel_rfl) q4) ?_; clear F fa; intro fa F
        refine sq_val F rfl (by decide) rfl (R_move rfl (F.at rfl)) ?_; clear F fa; intro fa F
        refine sq_call F rfl (by decide) rfl (R_callV rfl rfl Try.call35 (mpS (F.at rfl) (mpS (F.at rfl) mp0))) (pull_q hokT t8 ((HT).out.ext EO (by simp)) (show (0 : Int) ≤ (i : Int) by omega) (show (i : Int) < t.T by omega)) fun e w31 hR => ?_
        obtain ⟨rfl, e9⟩ := hR
        refine ⟨_, rfl, ?_⟩; clear F fa; intro fa F
        replace q4 := (e9).keep0 q4
        replace q6 := (e9).keep0 q6
        replace E := ext_same E (e9)
        replace EO := ext_same EO (e9)
        replace EU := ext_same EU (e9)
        replace EL3 := ext_same EL3 (e9)
        clear e9
        refine sq_val F rfl (by decide) rfl (R_move rfl (F.at rfl)) ?_; clear F fa; intro fa F
        refine sq_val F rfl (by decide) rfl (R_extract rfl (F.at rfl) (get0)) ?_; clear F fa; intro fa F
        refine sq_val F rfl (by decide) rfl (R_extract rfl (F.at rfl) (getS (get0))) ?_; clear F fa; intro fa F
        refine sq_new F rfl (by decide) rfl (R_alloc rfl Try.zeroValue23) ?_; clear F fa; intro fa w32 F hw
        obtain ⟨n14, hn⟩ : ∃ n, n = w31.heap.size := ⟨_, rfl⟩
        rw [← hn] at F
        have l14_E : w.heap.size ≤ n14 := by rw [hn]; exact E.size
        have l14_EO : w5.heap.size ≤ n14 := by rw [hn]; exact EO.size
        have l14_EU : w10.heap.size ≤ n14 := by rw [hn]; exact EU.size
        have l14_EL3 : w13.heap.size ≤ n14 := by rw [hn]; exact EL3.size
        have m14_4 : n4 < n14 := by rw [hn]; exact blk_lt q4
        have m14_6 : n6 < n14 := by rw [hn]; exact blk_lt q6
        replace q4 := keep_alloc hw q4
        replace q6 := keep_alloc hw q6
        replace E := ext_alloc E hw
        replace EO := ext_alloc EO hw
        replace EU := ext_alloc EU hw
        replace EL3 := ext_alloc EL3 hw
        have q14 := new_row hw hn
        clear hw hn
        refine sq_to rfl rfl (R_storeRow rfl (F.at rfl) (F.at rfl) (by kernel_rfl) (by simp [Value.oneCell']) q14 rfl) ?_; intro w33 hw
        replace q4 := keep_cells hw q4 (by omega)
        replace q6 := keep_cells hw q6 (by omega)
        replace q14 := put_row hw q14 rfl
        replace E := ext_cells E hw (fun h => by first | exact absurd h (by omega) | simp)
        replace EO := ext_cells EO hw (fun h => by first | exact absurd h (by omega) | simp)
        replace EU := ext_cells EU hw (fun h => by first | exact absurd h (by omega) | simp)
        replace EL3 := ext_cells EL3 hw (fun h => by first | exact absurd h (by omega) | simp)
        clear hw
        refine sq_val F rfl (by decide) rfl (R_assign rfl (F.at rfl)) ?_; clear F fa; intro fa F
        refine wpList_nil ?_
        refine hK27 _ _ ?_
        clear hK27
        refine wp_seq_k fun K28 hK28 => ?_
        refine wp_region_lit ?_
        refine sq_val F rfl (by decide) rfl (R_loadBlk rfl (F.at rfl) Try.underlying28 rfl (by kernel_rfl) q6) ?_; clear F fa; intro fa F
        refine sq_val F rfl (by decide) rfl (R_move rfl (F.at rfl)) ?_; clear F fa; intro fa F
        refine sq_call F rfl (by decide) rfl (R_callV rfl rfl Try.call35 (mpS (F.at rfl) (mpS (F.at rfl) mp0))) (pull_q uok u8 ((HU).out.ext EU (by simp)) (show (0 : Int) ≤ (i : Int) by omega) (show (i : Int) < t.T by omega)) fun e w34 hR => ?_
        obtain ⟨rfl, e9⟩ := hR
        refine ⟨_, rfl, ?_⟩; clear F fa; intro fa F
        replace q4 := (e9).keep0 q4
        replace q6 := (e9).keep0 q6
        replace q14 := (e9).keep0 q14
        replace E := ext_same E (e9)
        replace EO := ext_same EO (e9)
        replace EU := ext_same EU (e9)
        replace EL3 := ext_same EL3 (e9)
        clear e9
        rw [hlq] at F
        refine sq_val F rfl (by decide) rfl (R_move rfl (F.at rfl)) ?_; clear F fa; intro fa F
        refine sq_val F rfl (by decide) rfl (R_extract rfl (F.at rfl) (get0)) ?_; clear F fa; intro fa F
        refine sq_val F rfl (by decide) rfl (R_extract rfl (F.at rfl) (getS (get0))) ?_; clear F fa; intro fa F
        refine sq_new F rfl (by decide) rfl (R_alloc rfl Try.zeroValue23) ?_; clear F fa; intro fa w35 F hw
        obtain ⟨n16, hn⟩ : ∃ n, n = w34.heap.size := ⟨_, rfl⟩
        rw [← hn] at F
        have l16_E : w.heap.size ≤ n16 := by rw [hn]; exact E.size
        have l16_EO : w5.heap.size ≤ n16 := by rw [hn]; exact EO.size
        have l16_EU : w10.heap.size ≤ n16 := by rw [hn]; exact EU.size
        have l16_EL3 : w13.heap.size ≤ n16 := by rw [hn]; exact EL3.size
        have m16_4 : n4 < n16 := by rw [hn]; exact blk_lt q4
        have m16_6 : n6 < n16 := by rw [hn]; exact blk_lt q6
        have m16_14 : n14 < n16 := by rw [hn]; exact blk_lt q14
        replace q4 := keep_alloc hw q4
        replace q6 := keep_alloc hw q6
        replace q14 := keep_alloc hw q14
        replace E := ext_alloc E hw
        replace EO := ext_alloc EO hw
        replace EU := ext_alloc EU hw
        replace EL3 := ext_alloc EL3 hw
        have q16 := new_row hw hn
        clear hw hn
        refine sq_to rfl rfl (R_storeRow rfl (F.at rfl) (F.at rfl) (by kernel_rfl) (by simp [Value.oneCell']) q16 rfl) ?_; intro w36 hw
        replace q4 := keep_cells hw q4 (by omega)
        replace q6 := keep_cells hw q6 (by omega)
        replace q14 := keep_cells hw q14 (by omega)
        replace q16 := put_row hw q16 rfl
        replace E := ext_cells E hw (fun h => by first | exact absurd h (by omega) | simp)
        replace EO := ext_cells EO hw (fun h => by first | exact absurd h (by omega) | simp)
        replace EU := ext_cells EU hw (fun h => by first | exact absurd h (by omega) | simp)
        replace EL3 := ext_cells EL3 hw (fun h => by first | exact absurd h (by omega) | simp)
        clear hw
        refine sq_val F rfl (by decide) rfl (R_assign rfl (F.at rfl)) ?_; clear F fa; intro fa F
        refine wpList_nil ?_
        refine hK28 _ _ ?_
        clear hK28
        refine wp_seq_k fun K29 hK29 => ?_
        refine wp_region_lit ?_
        refine sq_val F rfl (by decide) rfl (R_move rfl (F.at rfl)) ?_; clear F fa; intro fa F
        refine sq_val F rfl (by decide) rfl (R_move rfl (F.at rfl)) ?_; clear F fa; intro fa F
        refine sq_val F rfl (by decide) rfl (R_neqB (b := false) rfl (F.at rfl) (F.at rfl) (decide_eq_true rfl)) ?_; clear F fa; intro fa F
        refine sq_val F rfl (by decide) rfl (R_move rfl (F.at rfl)) ?_; clear F fa; intro fa F
        refine sq_val F rfl (by decide) (wantT F rfl rfl (by decide) rfl) (R_loadBlk rfl (F.at rfl) Try.underlying23 rfl (by kernel_rfl) q14) ?_; clear F fa; intro fa F
        refine sq_val F rfl (by decide) (wantT F rfl rfl (by decide) rfl) (R_loadBlk rfl (F.at rfl) Try.underlying23 rfl (by kernel_rfl) q16) ?_; clear F fa; intro fa F
        refine sq_val F rfl (by decide) (wantT F rfl rfl (by decide) rfl) (R_neqBt (r := false) rfl (F.at rfl) (F.at rfl) (decide_eq_true (⟨hqp.1.symm, hqp.2.symm⟩))) ?_; clear F fa; intro fa F
        refine sq_val F rfl (by decide) rfl (R_pickF rfl (F.at rfl) (F.at rfl)) ?_; clear F fa; intro fa F
        refine wpList_nil ?_
        refine hK29 _ _ ?_
        clear hK29
        refine cd_F F rfl ?_
        refine wp_skip ?_
        refine hK26 _ _ ?_
        clear hK26
        refine wp_region_lit ?_
        refine sq_val F rfl (by decide) rfl (R_move rfl (F.at rfl)) ?_; clear F fa; intro fa F
        refine sq_val F rfl (by decide) rfl (R_add rfl (F.at rfl) (ev_c fa _) (by omega) (by omega)) ?_; clear F fa; intro fa F
        refine sq_val F rfl (by decide) rfl (R_assign rfl (F.at rfl)) ?_; clear F fa; intro fa F
        refine wpList_nil ?_
        show _ ∧ _
        exact ⟨by omega, _, ⟨rfl, EL3⟩, F.sub (.c 13 rfl (.c 4 rfl (.c 6 rfl .n)))⟩
      · skip
        refine wp_exit ?_
        refine hK22 _ _ ?_
        clear hK22
        refine wp_seq_k fun K30 hK30 => ?_
        refine wp_region_lit ?_
        refine sq_call F rfl (by decide) rfl (R_callV rfl rfl Try.call25 mp0) (taken_any _) fun e w37 hR => ?_
        obtain ⟨rfl, e9⟩ := hR
        refine ⟨_, rfl, ?_⟩; clear F fa; intro fa F
        replace q4 := (e9).keep0 q4
        replace q6 := (e9).keep0 q6
        replace E := ext_same E (e9)
        replace EO := ext_same EO (e9)
        replace EU := ext_same EU (e9)
        clear e9
        refine sq_val F rfl (by decide) rfl (R_assign rfl (F.at rfl)) ?_; clear F fa; intro fa F
        refine wpList_nil ?_
        refine hK30 _ _ ?_
        clear hK30
        refine wp_ret ?_
        (try simp only [Exit.inBlock, Exit.then])
        refine rt_v F (rs_1 F rfl rfl) ?_
        exact ⟨rfl, E⟩
end Go.Proofs.Ytholfdgebdlgjaa
