/- The law MeasureTurned: if Body and Tapes are replaced by a number less them, and Pull, Grow and Apart by their negatives, so is each measure, and each pull is its negative. No conditions. -/
import Derived.Test.YtholfdgebdlgjaaVd
namespace Go.Proofs.Ytholfdgebdlgjaa
open Go.RowKit
set_option linter.unusedVariables false
set_option linter.unusedSimpArgs false
def negG (g : Int × Int) : Int × Int := (-g.2, -g.1)
def turR (c : Int) (r : Int × Int × Int × Int) : Int × Int × Int × Int := (r.1, r.2.1, r.2.2.1, c - r.2.2.2)
def turK (l : Int × Int × Int × Int × Int × Int) : Int × Int × Int × Int × Int × Int := (l.1, l.2.1, l.2.2.1, l.2.2.2.1, -l.2.2.2.2.2, -l.2.2.2.2.1)
/-- Tapes turned about. -/
def turT (t : Tp) : Tp := { t with pl := -t.pm, pm := -t.pl, gr := t.gr.map negG, rd := t.rd.map (turR (t.bl + t.bm)), lk := t.lk.map turK }
def turX (c : Int) (x : Nat → Int) : Nat → Int := fun i => if i = 0 then x 0 else if i < 10 then x 0 + c - (x i - x 0) else x 0 - (x i - x 0)
theorem turX_C (c : Int) (x : Nat → Int) {s a : Int} (s0 : 0 ≤ s) (s3 : s < 3) (a0 : 0 ≤ a) (a3 : a < 3) : turX c x (nodeC s a) = x 0 + c - (x (nodeC s a) - x 0) := by
  unfold turX nodeC
  rw [if_neg (by omega), if_pos (by omega)]
theorem turX_T (c : Int) (x : Nat → Int) {i : Int} (h : 0 ≤ i) : turX c x (nodeT i) = x 0 - (x (nodeT i) - x 0) := by
  unfold turX nodeT
  rw [if_neg (by omega), if_neg (by omega)]
theorem turX_0 (c : Int) (x : Nat → Int) : turX c x 0 = x 0 := rfl
theorem getD_map {α β : Type} (f : α → β) (d : α) (e : β) (l : List α) {i : Nat} (h : i < l.length) : (l.map f).getD i e = f (l.getD i d) := by simp [h]
theorem tur_tr {t : Tp} (ok : t.Ok) {x : Nat → Int} (h : Tr t 0 x) : Tr (turT t) 0 (turX (t.bl + t.bm) x) := by
  have o1 := ok.S3
  have o2 := ok.A3
  have gl := ok.grl
  refine ⟨fun s a hs ha => ?_, fun i hi => ?_, fun i hi hb => ?_, fun i hi => ?_⟩
  · have q := h.cell s a hs ha
    have hs' : (s : Int) < t.S := hs
    have ha' : (a : Int) < t.A := ha
    have e := turX_C (t.bl + t.bm) x (s := s) (a := a) (by omega) (by omega) (by omega) (by omega)
    have hg : (turT t).gr.getD s (0, 0) = negG (t.gr.getD s (0, 0)) := getD_map negG (0, 0) (0, 0) t.gr (by omega)
    refine ⟨?_, ?_, fun h0 => ?_, fun h0 => ?_⟩
    · rw [e, turX_0]; have := q.hi; show t.bl ≤ _; omega
    · rw [e, turX_0]; have := q.lo; show _ ≤ t.bm; omega
    · have e2 := turX_C (t.bl + t.bm) x (s := s) (a := (a : Int) - 1) (by omega) (by omega) (by omega) (by omega)
      rw [e, e2, hg]; have := q.ghi h0; simp only [negG]; omega
    · have e2 := turX_C (t.bl + t.bm) x (s := s) (a := (a : Int) - 1) (by omega) (by omega) (by omega) (by omega)
      rw [e, e2, hg]; have := q.glo h0; simp only [negG]; omega
  · have q := h.tail i hi
    have e := turX_T (t.bl + t.bm) x (i := i) (by omega)
    have q1 := q.lo
    have q2 := q.hi
    exact ⟨by rw [e, turX_0]; simp only [turT]; omega, by rw [e, turX_0]; simp only [turT]; omega⟩
  · have hi' : i < t.rd.length := by simpa [turT] using hi
    have q := h.read i hi' hb
    have hr := ok.rd _ (getD_mem (0, 0, 0, 0) hi')
    have hg : (turT t).rd.getD i (0, 0, 0, 0) = turR (t.bl + t.bm) (t.rd.getD i (0, 0, 0, 0)) := getD_map _ _ _ t.rd hi'
    rw [hg]
    generalize t.rd.getD i (0, 0, 0, 0) = r at q hr
    have q1 := q.lo
    have q2 := q.hi
    have e := turX_C (t.bl + t.bm) x (s := r.1) (a := r.2.1) (by omega) (by omega) (by omega) (by omega)
    have e2 := turX_T (t.bl + t.bm) x (i := r.2.2.1) (by omega)
    refine ⟨?_, ?_⟩ <;> (simp only [turR]; rw [e, e2]; simp only [turT]; omega)
  · have hi' : i < t.lk.length := by simpa [turT] using hi
    have q := h.link i hi'
    have hr := ok.lk _ (getD_mem (0, 0, 0, 0, 0, 0) hi')
    have hg : (turT t).lk.getD i (0, 0, 0, 0, 0, 0) = turK (t.lk.getD i (0, 0, 0, 0, 0, 0)) := getD_map _ _ _ t.lk hi'
    rw [hg]
    generalize t.lk.getD i (0, 0, 0, 0, 0, 0) = r at q hr
    have q1 := q.lo
    have q2 := q.hi
    have e := turX_C (t.bl + t.bm) x (s := r.1) (a := r.2.1) (by omega) (by omega) (by omega) (by omega)
    have e2 := turX_C (t.bl + t.bm) x (s := r.2.2.1) (a := r.2.2.2.1) (by omega) (by omega) (by omega) (by omega)
    refine ⟨?_, ?_⟩ <;> (simp only [turK]; rw [e, e2]; omega)
theorem map_idem {α : Type} {f : α → α} (h : ∀ x, f (f x) = x) (l : List α) : (l.map f).map f = l := by
  rw [List.map_map, show f ∘ f = id from funext h, List.map_id]
theorem tur_back (t : Tp) : turT (turT t) = t := by
  have h1 : ∀ g, negG (negG g) = g := fun g => by simp only [negG, Int.neg_neg]
  have h2 : ∀ r, turR (t.bl + t.bm) (turR (t.bl + t.bm) r) = r := fun r => by simp only [turR]; rw [show t.bl + t.bm - (t.bl + t.bm - r.2.2.2) = r.2.2.2 by omega]
  have h3 : ∀ l, turK (turK l) = l := fun l => by simp only [turK, Int.neg_neg]
  unfold turT
  simp only [map_idem h1, map_idem h2, map_idem h3, Int.neg_neg]
theorem Wild.tur {t : Tp} (h : Wild t) : (turT t).Ok ∧ (turT t).rd.length ≤ 8 := by
  have o := h.ok
  have b1 := h.bl1
  have b2 := h.bl2
  have b3 := h.bm
  have b4 := o.b
  have p1 := o.pl1
  have p2 := o.pm1
  have p3 := o.p
  have hl : (turT t).rd.length = t.rd.length := by simp [turT]
  have hk : (turT t).lk.length = t.lk.length := by simp [turT]
  have hgl : (turT t).gr.length = t.gr.length := by simp [turT]
  have hrl := h.rdl
  have hkl := h.lkl
  have hg := o.grl
  refine ⟨⟨o.S1, o.S3, o.A1, o.A3, o.T1, o.T3, o.bl1, o.bm1, o.b, by simp only [turT]; omega, by simp only [turT]; omega, by simp only [turT]; omega, o.sl0, o.sl5, by rw [hgl]; exact hg, fun g hm => ?_, by omega, fun r hm => ?_, by omega, fun r hm => ?_⟩, by omega⟩
  · obtain ⟨r, hr, rfl⟩ := List.mem_map.1 hm
    have a := o.gr r hr
    simp only [negG]
    omega
  · obtain ⟨r, hr, rfl⟩ := List.mem_map.1 hm
    have a := o.rd r hr
    have b := h.rd r hr
    simp only [turR, turT]
    omega
  · obtain ⟨r, hr, rfl⟩ := List.mem_map.1 hm
    have a := o.lk r hr
    simp only [turK, turT]
    omega
/-- What the law says. -/
theorem tur_law {t : Tp} (h : Wild t) : qe (turT t) = qe t ∧ (∀ s a : Int, 0 ≤ s → s < t.S → 0 ≤ a → a < t.A → qe t = 0 → qlo (turT t) s a = t.bl + t.bm - qhi t s a ∧ qhi (turT t) s a = t.bl + t.bm - qlo t s a) ∧
    (∀ i : Int, 0 ≤ i → i < t.T → qe t = 0 → rlo (turT t) i = -(rhi t i) ∧ rhi (turT t) i = -(rlo t i)) := by
  obtain ⟨uok, u8⟩ := h.tur
  have ok := h.ok
  have t8 : t.rd.length ≤ 8 := by have := h.rdl; omega
  have F : ∀ x, Tr t 0 x → Tr (turT t) 0 (turX (t.bl + t.bm) x) := fun x hx => tur_tr ok hx
  have B : ∀ y, Tr (turT t) 0 y → Tr t 0 (turX (t.bl + t.bm) y) := fun y hy => by
    have := tur_tr uok hy
    rwa [tur_back] at this
  have hbb : bdB (turT t) 0 = bdB t 0 := by
    have i1 := bdB_iff ok
    have i2 := bdB_iff uok
    rw [Bool.eq_iff_iff, i1, i2]
    exact ⟨fun ⟨y, hy⟩ => ⟨_, B y hy⟩, fun ⟨x, hx⟩ => ⟨_, F x hx⟩⟩
  refine ⟨by rw [qe, qe, hbb], fun s a s0 s1 a0 a1 he => ?_, fun i i0 i1 he => ?_⟩
  · have hb := qe_zero.1 he
    have L := live_of ok t8 hb
    have M := live_of uok u8 (hbb.trans hb)
    have o1 := ok.S3
    have o2 := ok.A3
    have l := live_cellI (t := t) s0 s1 a0 a1
    have l' := live_cellI (t := turT t) s0 s1 a0 a1
    have e := fun x => turX_C (t.bl + t.bm) x (s := s) (a := a) (by omega) (by omega) (by omega) (by omega)
    have m1 := bd_map (c := t.bl + t.bm) L M l (live_zero t) (live_zero _) l' (fun x hx => ⟨_, F x hx, by rw [e, turX_0]; omega⟩) (fun y hy => ⟨_, B y hy, by rw [e, turX_0]; omega⟩)
    have m2 := bd_map (c := -(t.bl + t.bm)) L M (live_zero t) l l' (live_zero _) (fun x hx => ⟨_, F x hx, by rw [e, turX_0]; omega⟩) (fun y hy => ⟨_, B y hy, by rw [e, turX_0]; omega⟩)
    rw [qlo, qlo, qhi, qhi, hbb, if_pos hb, if_pos hb, if_pos hb, if_pos hb]
    unfold mlo mhi
    omega
  · have hb := qe_zero.1 he
    have L := live_of ok t8 hb
    have M := live_of uok u8 (hbb.trans hb)
    have l := live_tailI (t := t) i0 i1
    have l' := live_tailI (t := turT t) i0 i1
    have e := fun x => turX_T (t.bl + t.bm) x (i := i) i0
    have m1 := bd_map (c := 0) L M l (live_zero t) (live_zero _) l' (fun x hx => ⟨_, F x hx, by rw [e, turX_0]; omega⟩) (fun y hy => ⟨_, B y hy, by rw [e, turX_0]; omega⟩)
    have m2 := bd_map (c := 0) L M (live_zero t) l l' (live_zero _) (fun x hx => ⟨_, F x hx, by rw [e, turX_0]; omega⟩) (fun y hy => ⟨_, B y hy, by rw [e, turX_0]; omega⟩)
    rw [rlo, rlo, rhi, rhi, hbb, if_pos hb, if_pos hb, if_pos hb, if_pos hb]
    unfold plo phi
    omega
set_option maxRecDepth 100000 in
theorem turned_walk (a0 : Option Addr) (len0 cap0 : Nat) (z0 : List Int) (w : World) (h0 : IsRow .i64 w a0 len0 cap0 z0) :
    Calls Try.prog 11 #[.slice a0 len0 cap0] w fun e w' => e = .returned (.bool true) ∧ Ext [] w w' := by
  have HN := Lib.hid (newLots_any w a0 len0 cap0 z0 h0)
  clear h0
  have E : Ext [] w w := Ext.refl _ _
  refine calls_has 178 Try.func11 rfl Try.ntmps11 (Nat.le_of_ble_eq_true rfl) ?_
  intro fa F
  refine wp_seq_k fun K1 hK1 => ?_
  refine wp_region_lit ?_
  refine sq_val F rfl (by decide) rfl (R_assign rfl (ev_c fa _)) ?_; clear F fa; intro fa F
  refine wpList_nil ?_
  refine hK1 _ _ ?_
  clear hK1
  refine wp_seq_k fun K2 hK2 => ?_
  refine wp_region_lit ?_
  refine sq_val F rfl (by decide) rfl (R_move rfl (F.at rfl)) ?_; clear F fa; intro fa F
  refine sq_call F rfl (by decide) rfl (R_callV rfl rfl Try.call27 (mpS (F.at rfl) mp0)) (HN.out) fun e w1 hR => ?_
  obtain ⟨b, rfl, hb, hb2, HL, e1⟩ := hR
  refine ⟨_, rfl, ?_⟩; clear F fa; intro fa F
  replace E := ext_same E (e1)
  clear e1
  have hbB := lots_lt HL
  obtain ⟨B0, hB0⟩ : ∃ B0, B0 = w1.heap.size := ⟨_, rfl⟩
  rw [← hB0] at hbB
  have hwB : w.heap.size ≤ B0 := by rw [hB0]; exact E.size
  refine sq_call F rfl (by decide) rfl (R_callV rfl rfl Try.call46 (mpS (F.at rfl) mp0)) (tapesOf_any w _ b _ _ HL (by omega)) fun e w2 hR => ?_
  obtain ⟨t, gv, rv, lv, rfl, hW, ⟨og, orr, olk⟩, HL, e2⟩ := hR
  refine ⟨_, rfl, ?_⟩; clear F fa; intro fa F
  replace E := E.trans' e2 (fun i hi hl => by simp only [List.mem_cons, List.not_mem_nil, or_false] at hi ⊢; omega)
  rw [← hB0] at og orr olk
  have hB1 : B0 ≤ w2.heap.size := by rw [hB0]; exact e2.size
  clear hB0 e2
  obtain ⟨ga, gc, rfl⟩ := owns_slice og
  obtain ⟨ra, rc, rfl⟩ := owns_slice orr
  obtain ⟨la, lc, rfl⟩ := owns_slice olk
  have HT := Lib.hid (tp_of_owns og orr olk)
  clear og orr olk
  have EO : Ext [] w2 w2 := Ext.refl _ _
  have HRd := Lib.hid (slAt_of_rows HT.out.rd (0, 0, 0, 0))
  have HGr := Lib.hid (slAt_of_rows HT.out.gr (0, 0))
  have HLk := Lib.hid (slAt_of_rows HT.out.lk (0, 0, 0, 0, 0, 0))
  have hokT := hW.ok
  have hS1 := hokT.S1
  have hS3 := hokT.S3
  have hA1 := hokT.A1
  have hA3 := hokT.A3
  have hT1 := hokT.T1
  have hT3 := hokT.T3
  have hgl := hokT.grl
  have hrl := hW.rdl
  have hkl := hW.lkl
  obtain ⟨hP1, hP2⟩ := ok_prod hokT
  refine sq_new F rfl (by decide) rfl (R_alloc rfl Try.zeroValue28) ?_; clear F fa; intro fa w3 F hw
  obtain ⟨n3, hn⟩ : ∃ n, n = w2.heap.size := ⟨_, rfl⟩
  rw [← hn] at F
  have l3_E : w.heap.size ≤ n3 := by rw [hn]; exact E.size
  have l3_EO : w2.heap.size ≤ n3 := by rw [hn]; exact EO.size
  replace E := ext_alloc E hw
  replace EO := ext_alloc EO hw
  have q3 := new_row hw hn
  clear hw hn
  refine sq_to rfl rfl (R_storeRow rfl (F.at rfl) (F.at rfl) (by kernel_rfl) (by simp [Value.oneCell']) q3 rfl) ?_; intro w4 hw
  replace q3 := put_row hw q3 rfl
  replace E := ext_cells E hw (fun h => by first | exact absurd h (by omega) | simp)
  replace EO := ext_cells EO hw (fun h => by first | exact absurd h (by omega) | simp)
  clear hw
  refine wpList_nil ?_
  obtain ⟨hlq, hlm, hlp⟩ := tur_law hW
  obtain ⟨uok, u8⟩ := hW.tur
  have t8 : t.rd.length ≤ 8 := by omega
  have hbl1 := hW.bl1
  have hbl2 := hW.bl2
  have hbm1 := hW.bm
  have hbm2 := hokT.b
  have hp1 := hokT.pl1
  have hp2 := hokT.pm1
  have hp3 := hokT.p
  refine hK2 _ _ ?_
  clear hK2
  refine wp_seq_k fun K3 hK3 => ?_
  refine wp_region_lit ?_
  refine sq_val F rfl (by decide) rfl (R_field rfl (F.at rfl) Try.underlying28 rfl (n := 3) (sz := 2) rfl (by kernel_rfl) (by decide)) ?_; clear F fa; intro fa F
  refine sq_val F rfl (by decide) rfl (R_field rfl (F.at rfl) Try.underlying23 rfl (n := 3) (sz := 1) rfl (by kernel_rfl) (by decide)) ?_; clear F fa; intro fa F
  refine sq_val F rfl (by decide) rfl (R_load rfl (F.at rfl) Try.underlying3 rfl ((cells_of_block q3 3).trans (getS (getS (getS (get0)))))) ?_; clear F fa; intro fa F
  refine sq_val F rfl (by decide) rfl (R_field rfl (F.at rfl) Try.underlying28 rfl (n := 3) (sz := 2) rfl (by kernel_rfl) (by decide)) ?_; clear F fa; intro fa F
  refine sq_val F rfl (by decide) rfl (R_field rfl (F.at rfl) Try.underlying23 rfl (n := 4) (sz := 1) rfl (by kernel_rfl) (by decide)) ?_; clear F fa; intro fa F
  refine sq_val F rfl (by decide) rfl (R_load rfl (F.at rfl) Try.underlying3 rfl ((cells_of_block q3 4).trans (getS (getS (getS (getS (get0))))))) ?_; clear F fa; intro fa F
  refine sq_val F rfl (by decide) rfl (R_add rfl (F.at rfl) (F.at rfl) (by omega) (by omega)) ?_; clear F fa; intro fa F
  refine sq_val F rfl (by decide) rfl (R_assign rfl (F.at rfl)) ?_; clear F fa; intro fa F
  refine wpList_nil ?_
  refine hK3 _ _ ?_
  clear hK3
  refine wp_seq_k fun K4 hK4 => ?_
  refine wp_region_lit ?_
  refine sq_val F rfl (by decide) rfl (R_loadBlk rfl (F.at rfl) Try.underlying28 rfl (by kernel_rfl) q3) ?_; clear F fa; intro fa F
  obtain ⟨Bx, hBx⟩ : ∃ Bx, Bx = w4.heap.size := ⟨_, rfl⟩
  have hOx2 := Nat.le_trans EO.size (Nat.le_of_eq hBx.symm)
  have hwx := Nat.le_trans E.size (Nat.le_of_eq hBx.symm)
  refine sq_call F rfl (by decide) rfl (R_callV rfl rfl Try.call28 (mpS (F.at rfl) mp0)) (copyTapes_any t ga ra la gc rc lc _ (HT.out.ext EO (by simp)) (by omega) (by omega) (by omega)) fun e w5 hR => ?_
  obtain ⟨gx, rx, lx, rfl, ⟨ogx, orx, olx⟩, eX⟩ := hR
  refine ⟨_, rfl, ?_⟩; clear F fa; intro fa F
  replace q3 := (eX).keep0 q3
  replace E := ext_same E (eX)
  replace EO := ext_same EO (eX)
  rw [← hBx] at ogx orx olx
  have hBx1 : Bx ≤ w5.heap.size := by rw [hBx]; exact eX.size
  clear hBx eX
  obtain ⟨gxa, gxc, rfl⟩ := owns_slice ogx
  obtain ⟨rxa, rxc, rfl⟩ := owns_slice orx
  obtain ⟨lxa, lxc, rfl⟩ := owns_slice olx
  refine sq_new F rfl (by decide) rfl (R_alloc rfl Try.zeroValue28) ?_; clear F fa; intro fa w6 F hw
  obtain ⟨n5, hn⟩ : ∃ n, n = w5.heap.size := ⟨_, rfl⟩
  rw [← hn] at F
  have l5_E : w.heap.size ≤ n5 := by rw [hn]; exact E.size
  have l5_EO : w2.heap.size ≤ n5 := by rw [hn]; exact EO.size
  have m5_3 : n3 < n5 := by rw [hn]; exact blk_lt q3
  have o5_ogx := Lib.hid (own_ne_new ogx hn)
  have o5_olx := Lib.hid (own_ne_new olx hn)
  have o5_orx := Lib.hid (own_ne_new orx hn)
  replace ogx := owns_alloc hw ogx
  replace olx := owns_alloc hw olx
  replace orx := owns_alloc hw orx
  replace q3 := keep_alloc hw q3
  replace E := ext_alloc E hw
  replace EO := ext_alloc EO hw
  have q5 := new_row hw hn
  clear hw hn
  refine sq_to rfl rfl (R_storeRow rfl (F.at rfl) (F.at rfl) (by kernel_rfl) (by simp [Value.oneCell']) q5 rfl) ?_; intro w7 hw
  replace ogx := owns_cellsX hw ogx (own_ne_type ogx q5 (by decide))
  replace olx := owns_cellsX hw olx (own_ne_type olx q5 (by decide))
  replace orx := owns_cellsX hw orx (own_ne_type orx q5 (by decide))
  replace q3 := keep_cells hw q3 (by omega)
  replace q5 := put_row hw q5 rfl
  replace E := ext_cells E hw (fun h => by first | exact absurd h (by omega) | simp)
  replace EO := ext_cells EO hw (fun h => by first | exact absurd h (by omega) | simp)
  clear hw
  refine wpList_nil ?_
  refine hK4 _ _ ?_
  clear hK4
  refine wp_seq_k fun K5 hK5 => ?_
  refine wp_region_lit ?_
  refine sq_val F rfl (by decide) rfl (R_field rfl (F.at rfl) Try.underlying28 rfl (n := 5) (sz := 2) rfl (by kernel_rfl) (by decide)) ?_; clear F fa; intro fa F
  refine sq_val F rfl (by decide) rfl (R_loadRow rfl (F.at rfl) Try.underlying23 rfl (by kernel_rfl) (range_mid' (n := 2) q3 rfl (midS (getS (getS (getS (getS (getS (get0)))))) (midS (getS (getS (getS (getS (getS (getS (get0))))))) mid0)))) ?_; clear F fa; intro fa F
  refine sq_call F rfl (by decide) rfl (R_callV rfl rfl Try.call56 (mpS (F.at rfl) mp0)) (negative_any (t.pl) (t.pm) _ (by omega) (by omega) (by omega) (by omega)) fun e w8 hR => ?_
  obtain ⟨rfl, e9⟩ := hR
  refine ⟨_, rfl, ?_⟩; clear F fa; intro fa F
  replace ogx := owns_ext ogx (e9) (by simp)
  replace olx := owns_ext olx (e9) (by simp)
  replace orx := owns_ext orx (e9) (by simp)
  replace q3 := (e9).keep0 q3
  replace q5 := (e9).keep0 q5
  replace E := ext_same E (e9)
  replace EO := ext_same EO (e9)
  clear e9
  refine sq_val F rfl (by decide) rfl (R_field rfl (F.at rfl) Try.underlying28 rfl (n := 5) (sz := 2) rfl (by kernel_rfl) (by decide)) ?_; clear F fa; intro fa F
  refine sq_to rfl rfl (R_storeMid rfl (F.at rfl) (F.at rfl) (by kernel_rfl) (by simp [Value.oneCell']) q5 (by simp)) ?_; intro w9 hw
  replace ogx := owns_cellsX hw ogx (own_ne_type ogx q5 (by decide))
  replace olx := owns_cellsX hw olx (own_ne_type olx q5 (by decide))
  replace orx := owns_cellsX hw orx (own_ne_type orx q5 (by decide))
  replace q3 := keep_cells hw q3 (by omega)
  replace q5 := put_mid2 hw q5 (by simp only [List.setIfInBounds_toArray, List.set_cons_succ, List.set_cons_zero]; exact rfl)
  replace E := ext_cells E hw (fun h => by first | exact absurd h (by omega) | simp)
  replace EO := ext_cells EO hw (fun h => by first | exact absurd h (by omega) | simp)
  clear hw
  refine wpList_nil ?_
  refine hK5 _ _ ?_
  clear hK5
  refine wp_seq_k fun K6 hK6 => ?_
  refine wp_seq_k fun K7 hK7 => ?_
  refine wp_region_lit ?_
  refine sq_val F rfl (by decide) rfl (R_assign rfl (ev_c fa _)) ?_; clear F fa; intro fa F
  refine wpList_nil ?_
  refine hK7 _ _ ?_
  clear hK7
  refine wp_block ?_
  have F0 := F.sub (.c 3 rfl (.c 4 rfl (.c 5 rfl .n)))
  refine lp_for F0 (t.gr.length) (fun i Lv W => Lv = [(6, .int .i64 ((i : Nat) : Int))] ∧ Ext [] w W ∧ Ext [] w2 W ∧ W.heap[n3]? = some (.cells #[.int .i64 t.S, .int .i64 t.A, .int .i64 t.T, .int .i64 t.bl, .int .i64 t.bm, .int .i64 t.pl, .int .i64 t.pm, .int .i64 t.sl, .slice ga t.gr.length gc, .slice ra t.rd.length rc, .slice la t.lk.length lc] 28 (0, 0)) ∧ W.heap[n5]? = some (.cells #[.int .i64 t.S, .int .i64 t.A, .int .i64 t.T, .int .i64 t.bl, .int .i64 t.bm, .int .i64 (-(t.pm)), .int .i64 (-(t.pl)), .int .i64 t.sl, .slice gxa t.gr.length gxc, .slice rxa t.rd.length rxc, .slice lxa t.lk.length lxc] 28 (0, 0)) ∧ W.ownsRow Bx 75 6 (.slice lxa t.lk.length lxc) t.lk.length (flatK t.lk) ∧ W.ownsRow Bx 66 4 (.slice rxa t.rd.length rxc) t.rd.length (flatR t.rd) ∧ W.ownsRow Bx 23 2 (.slice gxa t.gr.length gxc) t.gr.length (flatG (mapTo negG i t.gr))) ⟨_, ⟨rfl, E, EO, q3, q5, olx, orx, (by rw [mapTo_0]; exact ogx)⟩, F.sub (.c 6 rfl (.c 3 rfl (.c 4 rfl (.c 5 rfl .n))))⟩ ?_
  clear F F0
  clear E EO q3 q5 olx orx
  clear ogx
  rintro i _ fa w10 hi1 ⟨rfl, E, EO, q3, q5, olx, orx, ogx⟩ F
  refine wp_seq_k fun K8 hK8 => ?_
  refine wp_seq_k fun K9 hK9 => ?_
  refine wp_region_lit ?_
  refine sq_val F rfl (by decide) rfl (R_move rfl (F.at rfl)) ?_; clear F fa; intro fa F
  refine sq_val F rfl (by decide) rfl (R_field rfl (F.at rfl) Try.underlying28 rfl (n := 8) (sz := 1) rfl (by kernel_rfl) (by decide)) ?_; clear F fa; intro fa F
  refine sq_val F rfl (by decide) rfl (R_load rfl (F.at rfl) Try.underlying24 rfl ((cells_of_block q5 8).trans (getS (getS (getS (getS (getS (getS (getS (getS (get0))))))))))) ?_; clear F fa; intro fa F
  refine sq_val F rfl (by decide) rfl (R_len rfl rfl (F.at rfl) Try.underlying24) ?_; clear F fa; intro fa F
  refine sq_val F rfl (by decide) rfl (R_lss rfl (F.at rfl) (F.at rfl)) ?_; clear F fa; intro fa F
  refine wpList_nil ?_
  refine hK9 _ _ ?_
  clear hK9
  refine cd_if F rfl (fun hc39 => ?_) (fun hc39 => ?_)
  · skip
    refine wp_skip ?_
    refine hK8 _ _ ?_
    clear hK8
    refine wp_seq_k fun K10 hK10 => ?_
    refine wp_block ?_
    have hfl : (flatG (mapTo negG i t.gr)).length = t.gr.length * 2 := (flat_len (row := grRow) (sz := 2) (fun _ => rfl) _).trans (by rw [mapTo_len])
    have HX := Lib.hid (slAt_of_owns ogx (mapTo_len _ _ _).symm (fun _ => rfl) [] (by simp) (0, 0))
    have hlx := mapTo_len negG i t.gr
    have hrw := hokT.gr _ (getD_mem (0, 0) (show i < t.gr.length by omega))
    refine region_x (Ext [] w10) (some 10) follows fun w11 hh eh => ?_
    have q3_ := q3
    replace q3 := keep_same hh q3
    have q5_ := q5
    replace q5 := keep_same hh q5
    have E_ := E
    replace E := ext_same E eh
    have EO_ := EO
    replace EO := ext_same EO eh
    replace ogx := owns_same hh ogx
    replace olx := owns_same hh olx
    replace orx := owns_same hh orx
    have eT := eh
    clear hh eh
    refine ax_val (i := 0) F rfl rfl (by decide) (by kernel_rfl) (fun _ _ _ h => h) rfl (fun w' => R_field rfl (F.at rfl) Try.underlying28 rfl (n := 8) (sz := 1) rfl (by kernel_rfl) (by decide)) (fun _ => eT) ?_; clear F fa; intro fa F
    refine ax_read (i := 1) F rfl rfl (by decide) (by kernel_rfl) (fun _ _ _ h => h) rfl (fun w' hS => R_load rfl (F.at rfl) Try.underlying24 rfl ((cells_of_block (hS.keep q5_ (by simp)) 8).trans (getS (getS (getS (getS (getS (getS (getS (getS (get0))))))))))) (fun _ => eT) ?_; clear F fa; intro fa F
    refine ax_val (i := 2) F rfl rfl (by decide) (by kernel_rfl) (fun _ _ _ h => h) rfl (fun w' => R_move rfl (F.at rfl)) (fun _ => eT) ?_; clear F fa; intro fa F
    refine ax_val (i := 3) F rfl rfl (by decide) (by kernel_rfl) (fun _ _ _ h => h) rfl (fun w' => R_field rfl (F.at rfl) Try.underlying28 rfl (n := 8) (sz := 1) rfl (by kernel_rfl) (by decide)) (fun _ => eT) ?_; clear F fa; intro fa F
    refine ax_read (i := 4) F rfl rfl (by decide) (by kernel_rfl) (fun _ _ _ h => h) rfl (fun w' hS => R_load rfl (F.at rfl) Try.underlying24 rfl ((cells_of_block (hS.keep q3_ (by simp)) 8).trans (getS (getS (getS (getS (getS (getS (getS (getS (get0))))))))))) (fun _ => eT) ?_; clear F fa; intro fa F
    refine ax_val (i := 5) F rfl rfl (by decide) (by kernel_rfl) (fun _ _ _ h => h) rfl (fun w' => R_move rfl (F.at rfl)) (fun _ => eT) ?_; clear F fa; intro fa F
    obtain ⟨xb11, xo11, xa11, xr11⟩ := HGr.out i (by omega)
    refine ax_val (i := 6) F rfl rfl (by decide) (by kernel_rfl) (fun _ _ _ h => h) rfl (fun w' => R_ixSlice (sz := 2) rfl ((F.at rfl).trans (xa11 _ _)) (F.at rfl) Try.underlying24 (by kernel_rfl) (by omega) (by omega)) (fun _ => eT) ?_; clear F fa; intro fa F
    refine ax_read (i := 7) F rfl rfl (by decide) (by kernel_rfl) (fun _ _ _ h => h) rfl (fun w' hS => R_loadRow rfl (F.at rfl) Try.underlying23 rfl (by kernel_rfl) (xr11 _ (EO_.nil hS))) (fun _ => eT) ?_; clear F fa; intro fa F
    refine ax_only (i := 8) (by kernel_rfl) (op_call F rfl rfl (by decide) rfl (R_callV rfl rfl Try.call56 (mpS (F.at rfl) mp0)) (negative_any ((t.gr.getD i (0, 0)).1) ((t.gr.getD i (0, 0)).2) _ (by omega) (by omega) (by omega) (by omega)) fun e w12 hR => ?_)
    obtain ⟨rfl, e9⟩ := hR
    refine ⟨_, rfl, ?_⟩; clear F fa; intro fa F
    replace ogx := owns_ext ogx (e9) (by simp)
    replace olx := owns_ext olx (e9) (by simp)
    replace orx := owns_ext orx (e9) (by simp)
    replace q3 := (e9).keep0 q3
    replace q5 := (e9).keep0 q5
    replace E := ext_same E (e9)
    replace EO := ext_same EO (e9)
    replace eT := ext_same eT (e9)
    clear e9
    refine ⟨fun _ => eT, ?_⟩
    obtain ⟨xb12, xo12, xa12, xr12⟩ := HX.out i (by omega)
    refine ax_val (i := 9) F rfl rfl (by decide) (by kernel_rfl) (fun _ _ _ h => h) rfl (fun w' => R_ixSlice (sz := 2) rfl ((F.at rfl).trans (xa12 _ _)) (F.at rfl) Try.underlying24 (by kernel_rfl) (by omega) (by omega)) (fun _ => eT) ?_; clear F fa; intro fa F
    obtain ⟨htr, hst⟩ := owns_at2 ogx xa12 (j := i * 2) (p := xo12 + ((i : Nat) : Int).toNat * 2) (by first | omega | (simp; omega)) (by omega)
    refine ax_only (i := 10) (by kernel_rfl) (op_to rfl rfl rfl (R_storeThere rfl (F.at rfl) (F.at rfl) (by kernel_rfl) (by simp [Value.oneCell']) htr) ?_); intro w13 hw
    obtain ⟨hown', hg⟩ := hst _ _ _ hw
    clear hst htr hw
    replace q3 := keep_type ogx hg q3 (by decide)
    replace q5 := (hg.block n5 (blk_lt q5) o5_ogx.out).trans q5
    replace olx := owns_other olx ogx hg (by decide)
    replace orx := owns_other orx ogx hg (by decide)
    replace E := ext_appendX E ogx hg (by omega)
    replace EO := ext_appendX EO ogx hg (by omega)
    replace ogx := hown'
    clear hg
    refine ⟨gone (by kernel_rfl), ?_⟩
    rw [flatG_set2 _ _ _ _ (by omega), show (mapTo negG i t.gr).set i (-(t.gr.getD i (0, 0)).2, -(t.gr.getD i (0, 0)).1) = mapTo negG (i + 1) t.gr from mapTo_step negG (0, 0) t.gr (by omega)] at ogx
    refine ax_done (by kernel_rfl) ?_ _
    clear eT q3_ q5_ E_ EO_
    refine hK10 _ _ ?_
    clear hK10
    refine wp_region_lit ?_
    refine sq_val F rfl (by decide) rfl (R_move rfl (F.at rfl)) ?_; clear F fa; intro fa F
    refine sq_val F rfl (by decide) rfl (R_add rfl (F.at rfl) (ev_c fa _) (by omega) (by omega)) ?_; clear F fa; intro fa F
    refine sq_val F rfl (by decide) rfl (R_assign rfl (F.at rfl)) ?_; clear F fa; intro fa F
    refine wpList_nil ?_
    show _ ∧ _
    exact ⟨by omega, _, ⟨rfl, E, EO, q3, q5, olx, orx, ogx⟩, F.sub (.c 6 rfl (.c 3 rfl (.c 4 rfl (.c 5 rfl .n))))⟩
  · skip
    refine wp_exit ?_
    rw [mapTo_all _ _ (by omega)] at ogx
    refine hK6 _ _ ?_
    clear hK6
    refine wp_seq_k fun K13 hK13 => ?_
    refine wp_seq_k fun K14 hK14 => ?_
    refine wp_region_lit ?_
    refine sq_val F rfl (by decide) rfl (R_assign rfl (ev_c fa _)) ?_; clear F fa; intro fa F
    refine wpList_nil ?_
    refine hK14 _ _ ?_
    clear hK14
    refine wp_block ?_
    have F0 := F.sub (.c 3 rfl (.c 4 rfl (.c 5 rfl .n)))
    refine lp_for F0 (t.rd.length) (fun i Lv W => Lv = [(7, .int .i64 ((i : Nat) : Int))] ∧ Ext [] w W ∧ Ext [] w2 W ∧ W.heap[n3]? = some (.cells #[.int .i64 t.S, .int .i64 t.A, .int .i64 t.T, .int .i64 t.bl, .int .i64 t.bm, .int .i64 t.pl, .int .i64 t.pm, .int .i64 t.sl, .slice ga t.gr.length gc, .slice ra t.rd.length rc, .slice la t.lk.length lc] 28 (0, 0)) ∧ W.heap[n5]? = some (.cells #[.int .i64 t.S, .int .i64 t.A, .int .i64 t.T, .int .i64 t.bl, .int .i64 t.bm, .int .i64 (-(t.pm)), .int .i64 (-(t.pl)), .int .i64 t.sl, .slice gxa t.gr.length gxc, .slice rxa t.rd.length rxc, .slice lxa t.lk.length lxc] 28 (0, 0)) ∧ W.ownsRow Bx 23 2 (.slice gxa t.gr.length gxc) t.gr.length (flatG (t.gr.map negG)) ∧ W.ownsRow Bx 75 6 (.slice lxa t.lk.length lxc) t.lk.length (flatK t.lk) ∧ W.ownsRow Bx 66 4 (.slice rxa t.rd.length rxc) t.rd.length (flatR (mapTo (turR (t.bl + t.bm)) i t.rd))) ⟨_, ⟨rfl, E, EO, q3, q5, ogx, olx, (by rw [mapTo_0]; exact orx)⟩, F.sub (.c 7 rfl (.c 3 rfl (.c 4 rfl (.c 5 rfl .n))))⟩ ?_
    clear F F0
    clear E EO q3 q5 ogx olx
    clear orx
    rintro i _ fa w14 hi2 ⟨rfl, E, EO, q3, q5, ogx, olx, orx⟩ F
    refine wp_seq_k fun K15 hK15 => ?_
    refine wp_seq_k fun K16 hK16 => ?_
    refine wp_region_lit ?_
    refine sq_val F rfl (by decide) rfl (R_move rfl (F.at rfl)) ?_; clear F fa; intro fa F
    refine sq_val F rfl (by decide) rfl (R_field rfl (F.at rfl) Try.underlying28 rfl (n := 9) (sz := 1) rfl (by kernel_rfl) (by decide)) ?_; clear F fa; intro fa F
    refine sq_val F rfl (by decide) rfl (R_load rfl (F.at rfl) Try.underlying25 rfl ((cells_of_block q5 9).trans (getS (getS (getS (getS (getS (getS (getS (getS (getS (get0)))))))))))) ?_; clear F fa; intro fa F
    refine sq_val F rfl (by decide) rfl (R_len rfl rfl (F.at rfl) Try.underlying25) ?_; clear F fa; intro fa F
    refine sq_val F rfl (by decide) rfl (R_lss rfl (F.at rfl) (F.at rfl)) ?_; clear F fa; intro fa F
    refine wpList_nil ?_
    refine hK16 _ _ ?_
    clear hK16
    refine cd_if F rfl (fun hc56 => ?_) (fun hc56 => ?_)
    · skip
      refine wp_skip ?_
      refine hK15 _ _ ?_
      clear hK15
      refine wp_seq_k fun K17 hK17 => ?_
      refine wp_block ?_
      have hfl : (flatR (mapTo (turR (t.bl + t.bm)) i t.rd)).length = t.rd.length * 4 := (flat_len (row := rdRow) (sz := 4) (fun _ => rfl) _).trans (by rw [mapTo_len])
      have HX := Lib.hid (slAt_of_owns orx (mapTo_len _ _ _).symm (fun _ => rfl) [] (by simp) (0, 0, 0, 0))
      have hlx := mapTo_len (turR (t.bl + t.bm)) i t.rd
      have hrw := hW.rd _ (getD_mem (0, 0, 0, 0) (show i < t.rd.length by omega))
      refine wp_region_st 13 follows (by kernel_rfl) fun w15 hh eh => ?_
      replace q3 := keep_same hh q3
      replace q5 := keep_same hh q5
      replace E := ext_same E eh
      replace EO := ext_same EO eh
      replace ogx := owns_same hh ogx
      replace olx := owns_same hh olx
      replace orx := owns_same hh orx
      clear hh eh
      refine st_val F rfl (by decide) rfl (R_field rfl (F.at rfl) Try.underlying28 rfl (n := 9) (sz := 1) rfl (by kernel_rfl) (by decide)) ?_; clear F fa; intro fa F
      refine st_val F rfl (by decide) rfl (R_load rfl (F.at rfl) Try.underlying25 rfl ((cells_of_block q5 9).trans (getS (getS (getS (getS (getS (getS (getS (getS (getS (get0)))))))))))) ?_; clear F fa; intro fa F
      refine st_val F rfl (by decide) rfl (R_move rfl (F.at rfl)) ?_; clear F fa; intro fa F
      refine st_val F rfl (by decide) rfl (R_move rfl (F.at rfl)) ?_; clear F fa; intro fa F
      refine st_val F rfl (by decide) rfl (R_field rfl (F.at rfl) Try.underlying28 rfl (n := 9) (sz := 1) rfl (by kernel_rfl) (by decide)) ?_; clear F fa; intro fa F
      refine st_val F rfl (by decide) rfl (R_load rfl (F.at rfl) Try.underlying25 rfl ((cells_of_block q3 9).trans (getS (getS (getS (getS (getS (getS (getS (getS (getS (get0)))))))))))) ?_; clear F fa; intro fa F
      refine st_val F rfl (by decide) rfl (R_move rfl (F.at rfl)) ?_; clear F fa; intro fa F
      obtain ⟨xb18, xo18, xa18, xr18⟩ := HRd.out i (by omega)
      refine st_val F rfl (by decide) rfl (R_ixSlice (sz := 4) rfl ((F.at rfl).trans (xa18 _ _)) (F.at rfl) Try.underlying25 (by kernel_rfl) (by omega) (by omega)) ?_; clear F fa; intro fa F
      refine st_val F rfl (by decide) rfl (R_field rfl (F.at rfl) Try.underlying66 rfl (n := xo18 + ((i : Nat) : Int).toNat * 4 + 3) (sz := 1) rfl (by kernel_rfl) (by decide)) ?_; clear F fa; intro fa F
      refine st_val F rfl (by decide) rfl (R_load rfl (F.at rfl) Try.underlying3 rfl (xr18 _ EO 3 _ rfl)) ?_; clear F fa; intro fa F
      refine st_val F rfl (by decide) rfl (R_sub rfl (F.at rfl) (F.at rfl) (by omega) (by omega)) ?_; clear F fa; intro fa F
      obtain ⟨xb19, xo19, xa19, xr19⟩ := HX.out i (by omega)
      refine st_val F rfl (by decide) rfl (R_ixSlice (sz := 4) rfl ((F.at rfl).trans (xa19 _ _)) (F.at rfl) Try.underlying25 (by kernel_rfl) (by omega) (by omega)) ?_; clear F fa; intro fa F
      refine st_val F rfl (by decide) rfl (R_field rfl (F.at rfl) Try.underlying66 rfl (n := xo19 + ((i : Nat) : Int).toNat * 4 + 3) (sz := 1) rfl (by kernel_rfl) (by decide)) ?_; clear F fa; intro fa F
      refine wpStill_nil ?_
      obtain ⟨⟨u0, hcu⟩, hfu, hst⟩ := owns_at orx xa19 (j := i * 4 + 3) (p := xo19 + ((i : Nat) : Int).toNat * 4 + 3) (by first | omega | (simp; omega)) (by omega)
      refine sq_to rfl rfl (R_store rfl (F.at rfl) (F.at rfl) rfl (by kernel_rfl) hcu hfu) ?_; intro w16 hw
      obtain ⟨hown', hg⟩ := hst _ _ hw
      clear hst hcu hfu hw
      replace q3 := keep_type orx hg q3 (by decide)
      replace q5 := (hg.block n5 (blk_lt q5) o5_orx.out).trans q5
      replace ogx := owns_other ogx orx hg (by decide)
      replace olx := owns_other olx orx hg (by decide)
      replace E := ext_appendX E orx hg (by omega)
      replace EO := ext_appendX EO orx hg (by omega)
      replace orx := hown'
      clear hg
      rw [flatR_set _ _ _ (by omega), mapTo_get _ _ _ (by omega)] at orx
      rw [show (mapTo (turR (t.bl + t.bm)) i t.rd).set i ((t.rd.getD i (0, 0, 0, 0)).1, (t.rd.getD i (0, 0, 0, 0)).2.1, (t.rd.getD i (0, 0, 0, 0)).2.2.1, t.bl + t.bm - (t.rd.getD i (0, 0, 0, 0)).2.2.2) = mapTo (turR (t.bl + t.bm)) (i + 1) t.rd from mapTo_step (turR (t.bl + t.bm)) (0, 0, 0, 0) t.rd (by omega)] at orx
      refine wpList_nil ?_
      refine hK17 _ _ ?_
      clear hK17
      refine wp_region_lit ?_
      refine sq_val F rfl (by decide) rfl (R_move rfl (F.at rfl)) ?_; clear F fa; intro fa F
      refine sq_val F rfl (by decide) rfl (R_add rfl (F.at rfl) (ev_c fa _) (by omega) (by omega)) ?_; clear F fa; intro fa F
      refine sq_val F rfl (by decide) rfl (R_assign rfl (F.at rfl)) ?_; clear F fa; intro fa F
      refine wpList_nil ?_
      show _ ∧ _
      exact ⟨by omega, _, ⟨rfl, E, EO, q3, q5, ogx, olx, orx⟩, F.sub (.c 7 rfl (.c 3 rfl (.c 4 rfl (.c 5 rfl .n))))⟩
    · skip
      refine wp_exit ?_
      rw [mapTo_all _ _ (by omega)] at orx
      refine hK13 _ _ ?_
      clear hK13
      refine wp_seq_k fun K20 hK20 => ?_
      refine wp_seq_k fun K21 hK21 => ?_
      refine wp_region_lit ?_
      refine sq_val F rfl (by decide) rfl (R_assign rfl (ev_c fa _)) ?_; clear F fa; intro fa F
      refine wpList_nil ?_
      refine hK21 _ _ ?_
      clear hK21
      refine wp_block ?_
      have F0 := F.sub (.c 3 rfl (.c 4 rfl (.c 5 rfl .n)))
      refine lp_for F0 (t.lk.length) (fun i Lv W => Lv = [(8, .int .i64 ((i : Nat) : Int))] ∧ Ext [] w W ∧ Ext [] w2 W ∧ W.heap[n3]? = some (.cells #[.int .i64 t.S, .int .i64 t.A, .int .i64 t.T, .int .i64 t.bl, .int .i64 t.bm, .int .i64 t.pl, .int .i64 t.pm, .int .i64 t.sl, .slice ga t.gr.length gc, .slice ra t.rd.length rc, .slice la t.lk.length lc] 28 (0, 0)) ∧ W.heap[n5]? = some (.cells #[.int .i64 t.S, .int .i64 t.A, .int .i64 t.T, .int .i64 t.bl, .int .i64 t.bm, .int .i64 (-(t.pm)), .int .i64 (-(t.pl)), .int .i64 t.sl, .slice gxa t.gr.length gxc, .slice rxa t.rd.length rxc, .slice lxa t.lk.length lxc] 28 (0, 0)) ∧ W.ownsRow Bx 23 2 (.slice gxa t.gr.length gxc) t.gr.length (flatG (t.gr.map negG)) ∧ W.ownsRow Bx 66 4 (.slice rxa t.rd.length rxc) t.rd.length (flatR (t.rd.map (turR (t.bl + t.bm)))) ∧ W.ownsRow Bx 75 6 (.slice lxa t.lk.length lxc) t.lk.length (flatK (mapTo turK i t.lk))) ⟨_, ⟨rfl, E, EO, q3, q5, ogx, orx, (by rw [mapTo_0]; exact olx)⟩, F.sub (.c 8 rfl (.c 3 rfl (.c 4 rfl (.c 5 rfl .n))))⟩ ?_
      clear F F0
      clear E EO q3 q5 ogx orx
      clear olx
      rintro i _ fa w17 hi3 ⟨rfl, E, EO, q3, q5, ogx, orx, olx⟩ F
      refine wp_seq_k fun K22 hK22 => ?_
      refine wp_seq_k fun K23 hK23 => ?_
      refine wp_region_lit ?_
      refine sq_val F rfl (by decide) rfl (R_move rfl (F.at rfl)) ?_; clear F fa; intro fa F
      refine sq_val F rfl (by decide) rfl (R_field rfl (F.at rfl) Try.underlying28 rfl (n := 10) (sz := 1) rfl (by kernel_rfl) (by decide)) ?_; clear F fa; intro fa F
      refine sq_val F rfl (by decide) rfl (R_load rfl (F.at rfl) Try.underlying26 rfl ((cells_of_block q5 10).trans (getS (getS (getS (getS (getS (getS (getS (getS (getS (getS (get0))))))))))))) ?_; clear F fa; intro fa F
      refine sq_val F rfl (by decide) rfl (R_len rfl rfl (F.at rfl) Try.underlying26) ?_; clear F fa; intro fa F
      refine sq_val F rfl (by decide) rfl (R_lss rfl (F.at rfl) (F.at rfl)) ?_; clear F fa; intro fa F
      refine wpList_nil ?_
      refine hK23 _ _ ?_
      clear hK23
      refine cd_if F rfl (fun hc76 => ?_) (fun hc76 => ?_)
      · skip
        refine wp_skip ?_
        refine hK22 _ _ ?_
        clear hK22
        refine wp_seq_k fun K24 hK24 => ?_
        refine wp_block ?_
        have hfl : (flatK (mapTo turK i t.lk)).length = t.lk.length * 6 := (flat_len (row := lkRow) (sz := 6) (fun _ => rfl) _).trans (by rw [mapTo_len])
        have HX := Lib.hid (slAt_of_owns olx (mapTo_len _ _ _).symm (fun _ => rfl) [] (by simp) (0, 0, 0, 0, 0, 0))
        have hlx := mapTo_len turK i t.lk
        have hrw := hokT.lk _ (getD_mem (0, 0, 0, 0, 0, 0) (show i < t.lk.length by omega))
        refine region_x (Ext [] w17) (some 12) follows fun w18 hh eh => ?_
        have q3_ := q3
        replace q3 := keep_same hh q3
        have q5_ := q5
        replace q5 := keep_same hh q5
        have E_ := E
        replace E := ext_same E eh
        have EO_ := EO
        replace EO := ext_same EO eh
        replace ogx := owns_same hh ogx
        replace olx := owns_same hh olx
        replace orx := owns_same hh orx
        have eT := eh
        clear hh eh
        refine ax_val (i := 0) F rfl rfl (by decide) (by kernel_rfl) (fun _ _ _ h => h) rfl (fun w' => R_field rfl (F.at rfl) Try.underlying28 rfl (n := 10) (sz := 1) rfl (by kernel_rfl) (by decide)) (fun _ => eT) ?_; clear F fa; intro fa F
        refine ax_read (i := 1) F rfl rfl (by decide) (by kernel_rfl) (fun _ _ _ h => h) rfl (fun w' hS => R_load rfl (F.at rfl) Try.underlying26 rfl ((cells_of_block (hS.keep q5_ (by simp)) 10).trans (getS (getS (getS (getS (getS (getS (getS (getS (getS (getS (get0))))))))))))) (fun _ => eT) ?_; clear F fa; intro fa F
        refine ax_val (i := 2) F rfl rfl (by decide) (by kernel_rfl) (fun _ _ _ h => h) rfl (fun w' => R_move rfl (F.at rfl)) (fun _ => eT) ?_; clear F fa; intro fa F
        refine ax_val (i := 3) F rfl rfl (by decide) (by kernel_rfl) (fun _ _ _ h => h) rfl (fun w' => R_field rfl (F.at rfl) Try.underlying28 rfl (n := 10) (sz := 1) rfl (by kernel_rfl) (by decide)) (fun _ => eT) ?_; clear F fa; intro fa F
        refine ax_read (i := 4) F rfl rfl (by decide) (by kernel_rfl) (fun _ _ _ h => h) rfl (fun w' hS => R_load rfl (F.at rfl) Try.underlying26 rfl ((cells_of_block (hS.keep q3_ (by simp)) 10).trans (getS (getS (getS (getS (getS (getS (getS (getS (getS (getS (get0))))))))))))) (fun _ => eT) ?_; clear F fa; intro fa F
        refine ax_val (i := 5) F rfl rfl (by decide) (by kernel_rfl) (fun _ _ _ h => h) rfl (fun w' => R_move rfl (F.at rfl)) (fun _ => eT) ?_; clear F fa; intro fa F
        obtain ⟨xb25, xo25, xa25, xr25⟩ := HLk.out i (by omega)
        refine ax_val (i := 6) F rfl rfl (by decide) (by kernel_rfl) (fun _ _ _ h => h) rfl (fun w' => R_ixSlice (sz := 6) rfl ((F.at rfl).trans (xa25 _ _)) (F.at rfl) Try.underlying26 (by kernel_rfl) (by omega) (by omega)) (fun _ => eT) ?_; clear F fa; intro fa F
        refine ax_val (i := 7) F rfl rfl (by decide) (by kernel_rfl) (fun _ _ _ h => h) rfl (fun w' => R_field rfl (F.at rfl) Try.underlying75 rfl (n := xo25 + ((i : Nat) : Int).toNat * 6 + 4) (sz := 2) rfl (by kernel_rfl) (by decide)) (fun _ => eT) ?_; clear F fa; intro fa F
        refine ax_read (i := 8) F rfl rfl (by decide) (by kernel_rfl) (fun _ _ _ h => h) rfl (fun w' hS => R_loadRow rfl (F.at rfl) Try.underlying23 rfl (by kernel_rfl) (range_sub (pre := [.int .i64 ((t.lk.getD i (0, 0, 0, 0, 0, 0)).1), .int .i64 ((t.lk.getD i (0, 0, 0, 0, 0, 0)).2.1), .int .i64 ((t.lk.getD i (0, 0, 0, 0, 0, 0)).2.2.1), .int .i64 ((t.lk.getD i (0, 0, 0, 0, 0, 0)).2.2.2.1)]) (cs := [.int .i64 ((t.lk.getD i (0, 0, 0, 0, 0, 0)).2.2.2.2.1), .int .i64 ((t.lk.getD i (0, 0, 0, 0, 0, 0)).2.2.2.2.2)]) (post := []) (xr25 _ (EO_.nil hS)))) (fun _ => eT) ?_; clear F fa; intro fa F
        refine ax_only (i := 9) (by kernel_rfl) (op_call F rfl rfl (by decide) rfl (R_callV rfl rfl Try.call56 (mpS (F.at rfl) mp0)) (negative_any ((t.lk.getD i (0, 0, 0, 0, 0, 0)).2.2.2.2.1) ((t.lk.getD i (0, 0, 0, 0, 0, 0)).2.2.2.2.2) _ (by omega) (by omega) (by omega) (by omega)) fun e w19 hR => ?_)
        obtain ⟨rfl, e9⟩ := hR
        refine ⟨_, rfl, ?_⟩; clear F fa; intro fa F
        replace ogx := owns_ext ogx (e9) (by simp)
        replace olx := owns_ext olx (e9) (by simp)
        replace orx := owns_ext orx (e9) (by simp)
        replace q3 := (e9).keep0 q3
        replace q5 := (e9).keep0 q5
        replace E := ext_same E (e9)
        replace EO := ext_same EO (e9)
        replace eT := ext_same eT (e9)
        clear e9
        refine ⟨fun _ => eT, ?_⟩
        obtain ⟨xb26, xo26, xa26, xr26⟩ := HX.out i (by omega)
        refine ax_val (i := 10) F rfl rfl (by decide) (by kernel_rfl) (fun _ _ _ h => h) rfl (fun w' => R_ixSlice (sz := 6) rfl ((F.at rfl).trans (xa26 _ _)) (F.at rfl) Try.underlying26 (by kernel_rfl) (by omega) (by omega)) (fun _ => eT) ?_; clear F fa; intro fa F
        refine ax_val (i := 11) F rfl rfl (by decide) (by kernel_rfl) (fun _ _ _ h => h) rfl (fun w' => R_field rfl (F.at rfl) Try.underlying75 rfl (n := xo26 + ((i : Nat) : Int).toNat * 6 + 4) (sz := 2) rfl (by kernel_rfl) (by decide)) (fun _ => eT) ?_; clear F fa; intro fa F
        obtain ⟨htr, hst⟩ := owns_at2 olx xa26 (j := i * 6 + 4) (p := xo26 + ((i : Nat) : Int).toNat * 6 + 4) (by first | omega | (simp; omega)) (by omega)
        refine ax_only (i := 12) (by kernel_rfl) (op_to rfl rfl rfl (R_storeThere rfl (F.at rfl) (F.at rfl) (by kernel_rfl) (by simp [Value.oneCell']) htr) ?_); intro w20 hw
        obtain ⟨hown', hg⟩ := hst _ _ _ hw
        clear hst htr hw
        replace q3 := keep_type olx hg q3 (by decide)
        replace q5 := (hg.block n5 (blk_lt q5) o5_olx.out).trans q5
        replace ogx := owns_other ogx olx hg (by decide)
        replace orx := owns_other orx olx hg (by decide)
        replace E := ext_appendX E olx hg (by omega)
        replace EO := ext_appendX EO olx hg (by omega)
        replace olx := hown'
        clear hg
        refine ⟨gone (by kernel_rfl), ?_⟩
        rw [flatK_set2 _ _ _ _ (by omega), mapTo_get _ _ _ (by omega)] at olx
        rw [show (mapTo turK i t.lk).set i ((t.lk.getD i (0, 0, 0, 0, 0, 0)).1, (t.lk.getD i (0, 0, 0, 0, 0, 0)).2.1, (t.lk.getD i (0, 0, 0, 0, 0, 0)).2.2.1, (t.lk.getD i (0, 0, 0, 0, 0, 0)).2.2.2.1, -(t.lk.getD i (0, 0, 0, 0, 0, 0)).2.2.2.2.2, -(t.lk.getD i (0, 0, 0, 0, 0, 0)).2.2.2.2.1) = mapTo turK (i + 1) t.lk from mapTo_step turK (0, 0, 0, 0, 0, 0) t.lk (by omega)] at olx
        refine ax_done (by kernel_rfl) ?_ _
        clear eT q3_ q5_ E_ EO_
        refine hK24 _ _ ?_
        clear hK24
        refine wp_region_lit ?_
        refine sq_val F rfl (by decide) rfl (R_move rfl (F.at rfl)) ?_; clear F fa; intro fa F
        refine sq_val F rfl (by decide) rfl (R_add rfl (F.at rfl) (ev_c fa _) (by omega) (by omega)) ?_; clear F fa; intro fa F
        refine sq_val F rfl (by decide) rfl (R_assign rfl (F.at rfl)) ?_; clear F fa; intro fa F
        refine wpList_nil ?_
        show _ ∧ _
        exact ⟨by omega, _, ⟨rfl, E, EO, q3, q5, ogx, orx, olx⟩, F.sub (.c 8 rfl (.c 3 rfl (.c 4 rfl (.c 5 rfl .n))))⟩
      · skip
        refine wp_exit ?_
        rw [mapTo_all _ _ (by omega)] at olx
        rw [show w17.ownsRow Bx 23 2 (.slice gxa t.gr.length gxc) t.gr.length (flatG (t.gr.map negG)) = w17.ownsRow Bx 23 2 (.slice gxa t.gr.length gxc) (turT t).gr.length (flatG (turT t).gr) by simp [turT]] at ogx
        rw [show w17.ownsRow Bx 66 4 (.slice rxa t.rd.length rxc) t.rd.length (flatR (t.rd.map (turR (t.bl + t.bm)))) = w17.ownsRow Bx 66 4 (.slice rxa t.rd.length rxc) (turT t).rd.length (flatR (turT t).rd) by simp [turT]] at orx
        rw [show w17.ownsRow Bx 75 6 (.slice lxa t.lk.length lxc) t.lk.length (flatK (t.lk.map turK)) = w17.ownsRow Bx 75 6 (.slice lxa t.lk.length lxc) (turT t).lk.length (flatK (turT t).lk) by simp [turT]] at olx
        have HU := Lib.hid (tp_of_owns (t := turT t) ogx orx olx)
        clear ogx orx olx
        have EU : Ext [] w17 w17 := Ext.refl _ _
        refine hK20 _ _ ?_
        clear hK20
        refine wp_seq_k fun K27 hK27 => ?_
        refine wp_seq_k fun K28 hK28 => ?_
        refine wp_region_lit ?_
        refine sq_val F rfl (by decide) rfl (R_assign rfl (ev_c fa _)) ?_; clear F fa; intro fa F
        refine wpList_nil ?_
        refine hK28 _ _ ?_
        clear hK28
        refine wp_block ?_
        have F0 := F.sub (.c 3 rfl (.c 4 rfl (.c 5 rfl .n)))
        refine lp_for F0 ((t.S * t.A).toNat) (fun i Lv W => Lv = [(9, .int .i64 ((i : Nat) : Int))] ∧ Ext [] w17 W) ⟨_, ⟨rfl, Ext.refl _ _⟩, F.sub (.c 9 rfl (.c 3 rfl (.c 4 rfl (.c 5 rfl .n))))⟩ ?_
        clear F F0
        rintro i _ fa w21 hi4 ⟨rfl, EL4⟩ F
        have q3 := EL4.keep0 q3
        have q5 := EL4.keep0 q5
        have E := E.nil EL4
        have EO := EO.nil EL4
        have EU := EU.nil EL4
        refine wp_seq_k fun K29 hK29 => ?_
        refine wp_seq_k fun K30 hK30 => ?_
        refine wp_region_lit ?_
        refine sq_val F rfl (by decide) rfl (R_move rfl (F.at rfl)) ?_; clear F fa; intro fa F
        refine sq_val F rfl (by decide) rfl (R_field rfl (F.at rfl) Try.underlying28 rfl (n := 0) (sz := 1) rfl (by kernel_rfl) (by decide)) ?_; clear F fa; intro fa F
        refine sq_val F rfl (by decide) rfl (R_load rfl (F.at rfl) Try.underlying3 rfl ((cells_of_block q3 0).trans (get0))) ?_; clear F fa; intro fa F
        refine sq_val F rfl (by decide) rfl (R_field rfl (F.at rfl) Try.underlying28 rfl (n := 1) (sz := 1) rfl (by kernel_rfl) (by decide)) ?_; clear F fa; intro fa F
        refine sq_val F rfl (by decide) rfl (R_load rfl (F.at rfl) Try.underlying3 rfl ((cells_of_block q3 1).trans (getS (get0)))) ?_; clear F fa; intro fa F
        refine sq_val F rfl (by decide) rfl (R_mul rfl (F.at rfl) (F.at rfl) (by omega) (by omega)) ?_; clear F fa; intro fa F
        refine sq_val F rfl (by decide) rfl (R_lss rfl (F.at rfl) (F.at rfl)) ?_; clear F fa; intro fa F
        refine wpList_nil ?_
        refine hK30 _ _ ?_
        clear hK30
        refine cd_if F rfl (fun hc97 => ?_) (fun hc97 => ?_)
        · skip
          refine wp_skip ?_
          refine hK29 _ _ ?_
          clear hK29
          refine wp_seq_k fun K31 hK31 => ?_
          refine wp_block ?_
          refine wp_seq_k fun K32 hK32 => ?_
          obtain ⟨y1, y2, y3, y4⟩ := nd_in2 (S := t.S) (A := t.A) (x := i) (by omega) (by omega)
          have hqb := qbd hokT t8 y1 y2 y3 y4
          have hqm := hlm _ _ y1 y2 y3 y4
          suffices hcut : ∀ (n10 : Nat) (fa : Act) (w29 : World), Has 178 fa [(3, .pointer (some ⟨n3, 0, none⟩)), (4, .int .i64 (t.bl + t.bm)), (5, .pointer (some ⟨n5, 0, none⟩)), (9, .int .i64 ((i : Nat) : Int)), (10, .pointer (some ⟨n10, 0, none⟩)), (11, .int .i64 (qe t))] → w29.heap[n3]? = some (.cells #[.int .i64 t.S, .int .i64 t.A, .int .i64 t.T, .int .i64 t.bl, .int .i64 t.bm, .int .i64 t.pl, .int .i64 t.pm, .int .i64 t.sl, .slice ga t.gr.length gc, .slice ra t.rd.length rc, .slice la t.lk.length lc] 28 (0, 0)) → w29.heap[n5]? = some (.cells #[.int .i64 t.S, .int .i64 t.A, .int .i64 t.T, .int .i64 t.bl, .int .i64 t.bm, .int .i64 (-(t.pm)), .int .i64 (-(t.pl)), .int .i64 t.sl, .slice gxa t.gr.length gxc, .slice rxa t.rd.length rxc, .slice lxa t.lk.length lxc] 28 (0, 0)) → w29.heap[n10]? = some (.cells #[.int .i64 (qlo t ((i : Int) / t.A) ((i : Int) % t.A)), .int .i64 (qhi t ((i : Int) / t.A) ((i : Int) % t.A))] 23 (0, 0)) → Ext [] w w29 → Ext [] w2 w29 → Ext [] w17 w29 → Ext [] w17 w29 → w.heap.size ≤ n10 → w2.heap.size ≤ n10 → w17.heap.size ≤ n10 → w17.heap.size ≤ n10 → n3 ≠ n10 → n5 ≠ n10 → K32 fa w29 by
            refine region_x (Ext [] w21) none follows fun w22 hh eh => ?_
            have q3_ := q3
            replace q3 := keep_same hh q3
            have q5_ := q5
            replace q5 := keep_same hh q5
            have E_ := E
            replace E := ext_same E eh
            have EO_ := EO
            replace EO := ext_same EO eh
            have EU_ := EU
            replace EU := ext_same EU eh
            have EL4_ := EL4
            replace EL4 := ext_same EL4 eh
            have eT := eh
            clear hh eh
            refine ax_read (i := 0) F rfl rfl (by decide) (by kernel_rfl) (fun _ _ _ h => h) rfl (fun w' hS => R_loadBlk rfl (F.at rfl) Try.underlying28 rfl (by kernel_rfl) (hS.keep q3_ (by simp))) (fun _ => eT) ?_; clear F fa; intro fa F
            refine ax_val (i := 1) F rfl rfl (by decide) (by kernel_rfl) (fun _ _ _ h => h) rfl (fun w' => R_move rfl (F.at rfl)) (fun _ => eT) ?_; clear F fa; intro fa F
            refine ax_val (i := 2) F rfl rfl (by decide) (by kernel_rfl) (fun _ _ _ h => h) rfl (fun w' => R_field rfl (F.at rfl) Try.underlying28 rfl (n := 1) (sz := 1) rfl (by kernel_rfl) (by decide)) (fun _ => eT) ?_; clear F fa; intro fa F
            refine ax_read (i := 3) F rfl rfl (by decide) (by kernel_rfl) (fun _ _ _ h => h) rfl (fun w' hS => R_load rfl (F.at rfl) Try.underlying3 rfl ((cells_of_block (hS.keep q3_ (by simp)) 1).trans (getS (get0)))) (fun _ => eT) ?_; clear F fa; intro fa F
            refine ax_val (i := 4) F rfl rfl (by decide) (by kernel_rfl) (fun _ _ _ h => h) rfl (fun w' => R_quoP rfl (F.at rfl) (F.at rfl) (by omega) (by omega) (by omega)) (fun _ => eT) ?_; clear F fa; intro fa F
            refine ax_val (i := 5) F rfl rfl (by decide) (by kernel_rfl) (fun _ _ _ h => h) rfl (fun w' => R_move rfl (F.at rfl)) (fun _ => eT) ?_; clear F fa; intro fa F
            refine ax_val (i := 6) F rfl rfl (by decide) (by kernel_rfl) (fun _ _ _ h => h) rfl (fun w' => R_field rfl (F.at rfl) Try.underlying28 rfl (n := 1) (sz := 1) rfl (by kernel_rfl) (by decide)) (fun _ => eT) ?_; clear F fa; intro fa F
            refine ax_read (i := 7) F rfl rfl (by decide) (by kernel_rfl) (fun _ _ _ h => h) rfl (fun w' hS => R_load rfl (F.at rfl) Try.underlying3 rfl ((cells_of_block (hS.keep q3_ (by simp)) 1).trans (getS (get0)))) (fun _ => eT) ?_; clear F fa; intro fa F
            refine ax_val (i := 8) F rfl rfl (by decide) (by kernel_rfl) (fun _ _ _ h => h) rfl (fun w' => R_remP rfl (F.at rfl) (F.at rfl) (by omega) (by omega)) (fun _ => eT) ?_; clear F fa; intro fa F
            refine ax_pair (i := 9) (j := 13) (by kernel_rfl) ?_ ?_
            · skip
              refine (op_call F rfl rfl (by decide) rfl (R_callV rfl rfl Try.call33 (mpS (F.at rfl) (mpS (F.at rfl) (mpS (F.at rfl) mp0)))) (meas_q hokT t8 ((HT).out.ext EO (by simp)) y1 y2 y3 y4) fun e w23 hR => ?_)
              obtain ⟨rfl, e9⟩ := hR
              refine ⟨_, rfl, ?_⟩; clear F fa; intro fa F
              replace q3 := (e9).keep0 q3
              replace q5 := (e9).keep0 q5
              replace E := ext_same E (e9)
              replace EO := ext_same EO (e9)
              replace EU := ext_same EU (e9)
              replace EL4 := ext_same EL4 (e9)
              replace eT := ext_same eT (e9)
              clear e9
              refine ⟨fun _ => eT, ?_⟩
              refine ax_val (i := 10) F rfl rfl (by decide) (by kernel_rfl) (fun _ _ _ h => h) rfl (fun w' => R_move rfl (F.at rfl)) (fun _ => eT) ?_; clear F fa; intro fa F
              refine ax_val (i := 11) F rfl rfl (by decide) (by kernel_rfl) (fun _ _ _ h => h) rfl (fun w' => R_extract rfl (F.at rfl) (get0)) (fun _ => eT) ?_; clear F fa; intro fa F
              refine ax_val (i := 12) F rfl rfl (by decide) (by kernel_rfl) (fun _ _ _ h => h) rfl (fun w' => R_extract rfl (F.at rfl) (getS (get0))) (fun _ => eT) ?_; clear F fa; intro fa F
              refine ax_only (i := 13) (by kernel_rfl) (op_new F rfl rfl (by decide) rfl (R_alloc rfl Try.zeroValue23) ?_); clear F fa; intro fa w24 F hw
              obtain ⟨n10, hn⟩ : ∃ n, n = w23.heap.size := ⟨_, rfl⟩
              rw [← hn] at F
              have l10_E : w.heap.size ≤ n10 := by rw [hn]; exact E.size
              have l10_EO : w2.heap.size ≤ n10 := by rw [hn]; exact EO.size
              have l10_EU : w17.heap.size ≤ n10 := by rw [hn]; exact EU.size
              have l10_EL4 : w17.heap.size ≤ n10 := by rw [hn]; exact EL4.size
              have lT10 : w21.heap.size ≤ n10 := by rw [hn]; exact eT.size
              have m10_3 : n3 < n10 := by rw [hn]; exact blk_lt q3
              have m10_5 : n5 < n10 := by rw [hn]; exact blk_lt q5
              replace q3 := keep_alloc hw q3
              replace q5 := keep_alloc hw q5
              replace E := ext_alloc E hw
              replace EO := ext_alloc EO hw
              replace EU := ext_alloc EU hw
              replace EL4 := ext_alloc EL4 hw
              replace eT := ext_alloc eT hw
              have q10 := new_row hw hn
              clear hw hn
              refine ⟨fun _ => eT, ?_⟩
              refine ax_only (i := 14) (by kernel_rfl) (op_to rfl rfl rfl (R_storeRow rfl (F.at rfl) (F.at rfl) (by kernel_rfl) (by simp [Value.oneCell']) q10 rfl) ?_); intro w25 hw
              replace q3 := keep_cells hw q3 (by omega)
              replace q5 := keep_cells hw q5 (by omega)
              replace q10 := put_row hw q10 rfl
              replace E := ext_cells E hw (fun h => by first | exact absurd h (by omega) | simp)
              replace EO := ext_cells EO hw (fun h => by first | exact absurd h (by omega) | simp)
              replace EU := ext_cells EU hw (fun h => by first | exact absurd h (by omega) | simp)
              replace EL4 := ext_cells EL4 hw (fun h => by first | exact absurd h (by omega) | simp)
              replace eT := ext_cells eT hw (fun h => by first | exact absurd h (by omega) | simp)
              clear hw
              refine ⟨fun _ => eT, ?_⟩
              refine ax_val (i := 15) F rfl rfl (by decide) (by kernel_rfl) (fun _ _ _ h => h) rfl (fun w' => R_assign rfl (F.at rfl)) (fun _ => eT) ?_; clear F fa; intro fa F
              refine ax_done (by kernel_rfl) ?_ _
              exact hcut _ _ _ (F.sub (.c 3 rfl (.c 4 rfl (.c 5 rfl (.c 9 rfl (.c 10 rfl (.c 11 rfl .n))))))) q3 q5 q10 E EO EU EL4 (by omega) (by omega) (by omega) (by omega) (by omega) (by omega)
            · skip
              refine (op_new F rfl rfl (by decide) rfl (R_alloc rfl Try.zeroValue23) ?_); clear F fa; intro fa w26 F hw
              obtain ⟨n10, hn⟩ : ∃ n, n = w22.heap.size := ⟨_, rfl⟩
              rw [← hn] at F
              have l10_E : w.heap.size ≤ n10 := by rw [hn]; exact E.size
              have l10_EO : w2.heap.size ≤ n10 := by rw [hn]; exact EO.size
              have l10_EU : w17.heap.size ≤ n10 := by rw [hn]; exact EU.size
              have l10_EL4 : w17.heap.size ≤ n10 := by rw [hn]; exact EL4.size
              have lT10 : w21.heap.size ≤ n10 := by rw [hn]; exact eT.size
              have m10_3 : n3 < n10 := by rw [hn]; exact blk_lt q3
              have m10_5 : n5 < n10 := by rw [hn]; exact blk_lt q5
              replace q3 := keep_alloc hw q3
              replace q5 := keep_alloc hw q5
              replace E := ext_alloc E hw
              replace EO := ext_alloc EO hw
              replace EU := ext_alloc EU hw
              replace EL4 := ext_alloc EL4 hw
              replace eT := ext_alloc eT hw
              have q10 := new_row hw hn
              clear hw hn
              refine ⟨fun _ => eT, ?_⟩
              refine ax_only (i := 9) (by kernel_rfl) (op_call F rfl rfl (by decide) rfl (R_callV rfl rfl Try.call33 (mpS (F.at rfl) (mpS (F.at rfl) (mpS (F.at rfl) mp0)))) (meas_q hokT t8 ((HT).out.ext EO (by simp)) y1 y2 y3 y4) fun e w27 hR => ?_)
              obtain ⟨rfl, e9⟩ := hR
              refine ⟨_, rfl, ?_⟩; clear F fa; intro fa F
              replace q3 := (e9).keep0 q3
              replace q5 := (e9).keep0 q5
              replace q10 := (e9).keep0 q10
              replace E := ext_same E (e9)
              replace EO := ext_same EO (e9)
              replace EU := ext_same EU (e9)
              replace EL4 := ext_same EL4 (e9)
              replace eT := ext_same eT (e9)
              clear e9
              refine ⟨fun _ => eT, ?_⟩
              refine ax_val (i := 10) F rfl rfl (by decide) (by kernel_rfl) (fun _ _ _ h => h) rfl (fun w' => R_move rfl (F.at rfl)) (fun _ => eT) ?_; clear F fa; intro fa F
              refine ax_val (i := 11) F rfl rfl (by decide) (by kernel_rfl) (fun _ _ _ h => h) rfl (fun w' => R_extract rfl (F.at rfl) (get0)) (fun _ => eT) ?_; clear F fa; intro fa F
              refine ax_val (i := 12) F rfl rfl (by decide) (by kernel_rfl) (fun _ _ _ h => h) rfl (fun w' => R_extract rfl (F.at rfl) (getS (get0))) (fun _ => eT) ?_; clear F fa; intro fa F
              refine ax_only (i := 14) (by kernel_rfl) (op_to rfl rfl rfl (R_storeRow rfl (F.at rfl) (F.at rfl) (by kernel_rfl) (by simp [Value.oneCell']) q10 rfl) ?_); intro w28 hw
              replace q3 := keep_cells hw q3 (by omega)
              replace q5 := keep_cells hw q5 (by omega)
              replace q10 := put_row hw q10 rfl
              replace E := ext_cells E hw (fun h => by first | exact absurd h (by omega) | simp)
              replace EO := ext_cells EO hw (fun h => by first | exact absurd h (by omega) | simp)
              replace EU := ext_cells EU hw (fun h => by first | exact absurd h (by omega) | simp)
              replace EL4 := ext_cells EL4 hw (fun h => by first | exact absurd h (by omega) | simp)
              replace eT := ext_cells eT hw (fun h => by first | exact absurd h (by omega) | simp)
              clear hw
              refine ⟨fun _ => eT, ?_⟩
              refine ax_val (i := 15) F rfl rfl (by decide) (by kernel_rfl) (fun _ _ _ h => h) rfl (fun w' => R_assign rfl (F.at rfl)) (fun _ => eT) ?_; clear F fa; intro fa F
              refine ax_done (by kernel_rfl) ?_ _
              exact hcut _ _ _ (F.sub (.c 3 rfl (.c 4 rfl (.c 5 rfl (.c 9 rfl (.c 10 rfl (.c 11 rfl .n))))))) q3 q5 q10 E EO EU EL4 (by omega) (by omega) (by omega) (by omega) (by omega) (by omega)
          clear F q3 q5 E EO EU EL4 fa
          intro n10  fa w29 F q3 q5 q10 E EO EU EL4 l10_E l10_EO l10_EU l10_EL4 m10_3 m10_5
          refine hK32 _ _ ?_
          clear hK32
          refine wp_seq_k fun K33 hK33 => ?_
          suffices hcut : ∀ (n12 : Nat) (fa : Act) (w37 : World), Has 178 fa [(3, .pointer (some ⟨n3, 0, none⟩)), (4, .int .i64 (t.bl + t.bm)), (5, .pointer (some ⟨n5, 0, none⟩)), (9, .int .i64 ((i : Nat) : Int)), (10, .pointer (some ⟨n10, 0, none⟩)), (11, .int .i64 (qe t)), (12, .pointer (some ⟨n12, 0, none⟩)), (13, .int .i64 (qe t))] → w37.heap[n3]? = some (.cells #[.int .i64 t.S, .int .i64 t.A, .int .i64 t.T, .int .i64 t.bl, .int .i64 t.bm, .int .i64 t.pl, .int .i64 t.pm, .int .i64 t.sl, .slice ga t.gr.length gc, .slice ra t.rd.length rc, .slice la t.lk.length lc] 28 (0, 0)) → w37.heap[n5]? = some (.cells #[.int .i64 t.S, .int .i64 t.A, .int .i64 t.T, .int .i64 t.bl, .int .i64 t.bm, .int .i64 (-(t.pm)), .int .i64 (-(t.pl)), .int .i64 t.sl, .slice gxa t.gr.length gxc, .slice rxa t.rd.length rxc, .slice lxa t.lk.length lxc] 28 (0, 0)) → w37.heap[n10]? = some (.cells #[.int .i64 (qlo t ((i : Int) / t.A) ((i : Int) % t.A)), .int .i64 (qhi t ((i : Int) / t.A) ((i : Int) % t.A))] 23 (0, 0)) → w37.heap[n12]? = some (.cells #[.int .i64 (qlo (turT t) ((i : Int) / t.A) ((i : Int) % t.A)), .int .i64 (qhi (turT t) ((i : Int) / t.A) ((i : Int) % t.A))] 23 (0, 0)) → Ext [] w w37 → Ext [] w2 w37 → Ext [] w17 w37 → Ext [] w17 w37 → w.heap.size ≤ n12 → w2.heap.size ≤ n12 → w17.heap.size ≤ n12 → w17.heap.size ≤ n12 → n3 ≠ n12 → n5 ≠ n12 → n10 ≠ n12 → K33 fa w37 by
            refine region_x (Ext [] w29) none follows fun w30 hh eh => ?_
            have q3_ := q3
            replace q3 := keep_same hh q3
            have q5_ := q5
            replace q5 := keep_same hh q5
            have q10_ := q10
            replace q10 := keep_same hh q10
            have E_ := E
            replace E := ext_same E eh
            have EO_ := EO
            replace EO := ext_same EO eh
            have EU_ := EU
            replace EU := ext_same EU eh
            have EL4_ := EL4
            replace EL4 := ext_same EL4 eh
            have eT := eh
            clear hh eh
            refine ax_read (i := 0) F rfl rfl (by decide) (by kernel_rfl) (fun _ _ _ h => h) rfl (fun w' hS => R_loadBlk rfl (F.at rfl) Try.underlying28 rfl (by kernel_rfl) (hS.keep q5_ (by simp))) (fun _ => eT) ?_; clear F fa; intro fa F
            refine ax_val (i := 1) F rfl rfl (by decide) (by kernel_rfl) (fun _ _ _ h => h) rfl (fun w' => R_move rfl (F.at rfl)) (fun _ => eT) ?_; clear F fa; intro fa F
            refine ax_val (i := 2) F rfl rfl (by decide) (by kernel_rfl) (fun _ _ _ h => h) rfl (fun w' => R_field rfl (F.at rfl) Try.underlying28 rfl (n := 1) (sz := 1) rfl (by kernel_rfl) (by decide)) (fun _ => eT) ?_; clear F fa; intro fa F
            refine ax_read (i := 3) F rfl rfl (by decide) (by kernel_rfl) (fun _ _ _ h => h) rfl (fun w' hS => R_load rfl (F.at rfl) Try.underlying3 rfl ((cells_of_block (hS.keep q3_ (by simp)) 1).trans (getS (get0)))) (fun _ => eT) ?_; clear F fa; intro fa F
            refine ax_val (i := 4) F rfl rfl (by decide) (by kernel_rfl) (fun _ _ _ h => h) rfl (fun w' => R_quoP rfl (F.at rfl) (F.at rfl) (by omega) (by omega) (by omega)) (fun _ => eT) ?_; clear F fa; intro fa F
            refine ax_val (i := 5) F rfl rfl (by decide) (by kernel_rfl) (fun _ _ _ h => h) rfl (fun w' => R_move rfl (F.at rfl)) (fun _ => eT) ?_; clear F fa; intro fa F
            refine ax_val (i := 6) F rfl rfl (by decide) (by kernel_rfl) (fun _ _ _ h => h) rfl (fun w' => R_field rfl (F.at rfl) Try.underlying28 rfl (n := 1) (sz := 1) rfl (by kernel_rfl) (by decide)) (fun _ => eT) ?_; clear F fa; intro fa F
            refine ax_read (i := 7) F rfl rfl (by decide) (by kernel_rfl) (fun _ _ _ h => h) rfl (fun w' hS => R_load rfl (F.at rfl) Try.underlying3 rfl ((cells_of_block (hS.keep q3_ (by simp)) 1).trans (getS (get0)))) (fun _ => eT) ?_; clear F fa; intro fa F
            refine ax_val (i := 8) F rfl rfl (by decide) (by kernel_rfl) (fun _ _ _ h => h) rfl (fun w' => R_remP rfl (F.at rfl) (F.at rfl) (by omega) (by omega)) (fun _ => eT) ?_; clear F fa; intro fa F
            refine ax_pair (i := 9) (j := 13) (by kernel_rfl) ?_ ?_
            · skip
              refine (op_call F rfl rfl (by decide) rfl (R_callV rfl rfl Try.call33 (mpS (F.at rfl) (mpS (F.at rfl) (mpS (F.at rfl) mp0)))) (meas_q uok u8 ((HU).out.ext EU (by simp)) y1 y2 y3 y4) fun e w31 hR => ?_)
              obtain ⟨rfl, e9⟩ := hR
              refine ⟨_, rfl, ?_⟩; clear F fa; intro fa F
              replace q3 := (e9).keep0 q3
              replace q5 := (e9).keep0 q5
              replace q10 := (e9).keep0 q10
              replace E := ext_same E (e9)
              replace EO := ext_same EO (e9)
              replace EU := ext_same EU (e9)
              replace EL4 := ext_same EL4 (e9)
              replace eT := ext_same eT (e9)
              clear e9
              refine ⟨fun _ => eT, ?_⟩
              rw [hlq] at F
              refine ax_val (i := 10) F rfl rfl (by decide) (by kernel_rfl) (fun _ _ _ h => h) rfl (fun w' => R_move rfl (F.at rfl)) (fun _ => eT) ?_; clear F fa; intro fa F
              refine ax_val (i := 11) F rfl rfl (by decide) (by kernel_rfl) (fun _ _ _ h => h) rfl (fun w' => R_extract rfl (F.at rfl) (get0)) (fun _ => eT) ?_; clear F fa; intro fa F
              refine ax_val (i := 12) F rfl rfl (by decide) (by kernel_rfl) (fun _ _ _ h => h) rfl (fun w' => R_extract rfl (F.at rfl) (getS (get0))) (fun _ => eT) ?_; clear F fa; intro fa F
              refine ax_only (i := 13) (by kernel_rfl) (op_new F rfl rfl (by decide) rfl (R_alloc rfl Try.zeroValue23) ?_); clear F fa; intro fa w32 F hw
              obtain ⟨n12, hn⟩ : ∃ n, n = w31.heap.size := ⟨_, rfl⟩
              rw [← hn] at F
              have l12_E : w.heap.size ≤ n12 := by rw [hn]; exact E.size
              have l12_EO : w2.heap.size ≤ n12 := by rw [hn]; exact EO.size
              have l12_EU : w17.heap.size ≤ n12 := by rw [hn]; exact EU.size
              have l12_EL4 : w17.heap.size ≤ n12 := by rw [hn]; exact EL4.size
              have lT12 : w29.heap.size ≤ n12 := by rw [hn]; exact eT.size
              have m12_3 : n3 < n12 := by rw [hn]; exact blk_lt q3
              have m12_5 : n5 < n12 := by rw [hn]; exact blk_lt q5
              have m12_10 : n10 < n12 := by rw [hn]; exact blk_lt q10
              replace q3 := keep_alloc hw q3
              replace q5 := keep_alloc hw q5
              replace q10 := keep_alloc hw q10
              replace E := ext_alloc E hw
              replace EO := ext_alloc EO hw
              replace EU := ext_alloc EU hw
              replace EL4 := ext_alloc EL4 hw
              replace eT := ext_alloc eT hw
              have q12 := new_row hw hn
              clear hw hn
              refine ⟨fun _ => eT, ?_⟩
              refine ax_only (i := 14) (by kernel_rfl) (op_to rfl rfl rfl (R_storeRow rfl (F.at rfl) (F.at rfl) (by kernel_rfl) (by simp [Value.oneCell']) q12 rfl) ?_); intro w33 hw
              replace q3 := keep_cells hw q3 (by omega)
              replace q5 := keep_cells hw q5 (by omega)
              replace q10 := keep_cells hw q10 (by omega)
              replace q12 := put_row hw q12 rfl
              replace E := ext_cells E hw (fun h => by first | exact absurd h (by omega) | simp)
              replace EO := ext_cells EO hw (fun h => by first | exact absurd h (by omega) | simp)
              replace EU := ext_cells EU hw (fun h => by first | exact absurd h (by omega) | simp)
              replace EL4 := ext_cells EL4 hw (fun h => by first | exact absurd h (by omega) | simp)
              replace eT := ext_cells eT hw (fun h => by first | exact absurd h (by omega) | simp)
              clear hw
              refine ⟨fun _ => eT, ?_⟩
              refine ax_val (i := 15) F rfl rfl (by decide) (by kernel_rfl) (fun _ _ _ h => h) rfl (fun w' => R_assign rfl (F.at rfl)) (fun _ => eT) ?_; clear F fa; intro fa F
              refine ax_done (by kernel_rfl) ?_ _
              exact hcut _ _ _ (F.sub (.c 3 rfl (.c 4 rfl (.c 5 rfl (.c 9 rfl (.c 10 rfl (.c 11 rfl (.c 12 rfl (.c 13 rfl .n))))))))) q3 q5 q10 q12 E EO EU EL4 (by omega) (by omega) (by omega) (by omega) (by omega) (by omega) (by omega)
            · skip
              refine (op_new F rfl rfl (by decide) rfl (R_alloc rfl Try.zeroValue23) ?_); clear F fa; intro fa w34 F hw
              obtain ⟨n12, hn⟩ : ∃ n, n = w30.heap.size := ⟨_, rfl⟩
              rw [← hn] at F
              have l12_E : w.heap.size ≤ n12 := by rw [hn]; exact E.size
              have l12_EO : w2.heap.size ≤ n12 := by rw [hn]; exact EO.size
              have l12_EU : w17.heap.size ≤ n12 := by rw [hn]; exact EU.size
              have l12_EL4 : w17.heap.size ≤ n12 := by rw [hn]; exact EL4.size
              have lT12 : w29.heap.size ≤ n12 := by rw [hn]; exact eT.size
              have m12_3 : n3 < n12 := by rw [hn]; exact blk_lt q3
              have m12_5 : n5 < n12 := by rw [hn]; exact blk_lt q5
              have m12_10 : n10 < n12 := by rw [hn]; exact blk_lt q10
              replace q3 := keep_alloc hw q3
              replace q5 := keep_alloc hw q5
              replace q10 := keep_alloc hw q10
              replace E := ext_alloc E hw
              replace EO := ext_alloc EO hw
              replace EU := ext_alloc EU hw
              replace EL4 := ext_alloc EL4 hw
              replace eT := ext_alloc eT hw
              have q12 := new_row hw hn
              clear hw hn
              refine ⟨fun _ => eT, ?_⟩
              refine ax_only (i := 9) (by kernel_rfl) (op_call F rfl rfl (by decide) rfl (R_callV rfl rfl Try.call33 (mpS (F.at rfl) (mpS (F.at rfl) (mpS (F.at rfl) mp0)))) (meas_q uok u8 ((HU).out.ext EU (by simp)) y1 y2 y3 y4) fun e w35 hR => ?_)
              obtain ⟨rfl, e9⟩ := hR
              refine ⟨_, rfl, ?_⟩; clear F fa; intro fa F
              replace q3 := (e9).keep0 q3
              replace q5 := (e9).keep0 q5
              replace q10 := (e9).keep0 q10
              replace q12 := (e9).keep0 q12
              replace E := ext_same E (e9)
              replace EO := ext_same EO (e9)
              replace EU := ext_same EU (e9)
              replace EL4 := ext_same EL4 (e9)
              replace eT := ext_same eT (e9)
              clear e9
              refine ⟨fun _ => eT, ?_⟩
              rw [hlq] at F
              refine ax_val (i := 10) F rfl rfl (by decide) (by kernel_rfl) (fun _ _ _ h => h) rfl (fun w' => R_move rfl (F.at rfl)) (fun _ => eT) ?_; clear F fa; intro fa F
              refine ax_val (i := 11) F rfl rfl (by decide) (by kernel_rfl) (fun _ _ _ h => h) rfl (fun w' => R_extract rfl (F.at rfl) (get0)) (fun _ => eT) ?_; clear F fa; intro fa F
              refine ax_val (i := 12) F rfl rfl (by decide) (by kernel_rfl) (fun _ _ _ h => h) rfl (fun w' => R_extract rfl (F.at rfl) (getS (get0))) (fun _ => eT) ?_; clear F fa; intro fa F
              refine ax_only (i := 14) (by kernel_rfl) (op_to rfl rfl rfl (R_storeRow rfl (F.at rfl) (F.at rfl) (by kernel_rfl) (by simp [Value.oneCell']) q12 rfl) ?_); intro w36 hw
              replace q3 := keep_cells hw q3 (by omega)
              replace q5 := keep_cells hw q5 (by omega)
              replace q10 := keep_cells hw q10 (by omega)
              replace q12 := put_row hw q12 rfl
              replace E := ext_cells E hw (fun h => by first | exact absurd h (by omega) | simp)
              replace EO := ext_cells EO hw (fun h => by first | exact absurd h (by omega) | simp)
              replace EU := ext_cells EU hw (fun h => by first | exact absurd h (by omega) | simp)
              replace EL4 := ext_cells EL4 hw (fun h => by first | exact absurd h (by omega) | simp)
              replace eT := ext_cells eT hw (fun h => by first | exact absurd h (by omega) | simp)
              clear hw
              refine ⟨fun _ => eT, ?_⟩
              refine ax_val (i := 15) F rfl rfl (by decide) (by kernel_rfl) (fun _ _ _ h => h) rfl (fun w' => R_assign rfl (F.at rfl)) (fun _ => eT) ?_; clear F fa; intro fa F
              refine ax_done (by kernel_rfl) ?_ _
              exact hcut _ _ _ (F.sub (.c 3 rfl (.c 4 rfl (.c 5 rfl (.c 9 rfl (.c 10 rfl (.c 11 rfl (.c 12 rfl (.c 13 rfl .n))))))))) q3 q5 q10 q12 E EO EU EL4 (by omega) (by omega) (by omega) (by omega) (by omega) (by omega) (by omega)
          clear F q3 q5 q10 E EO EU EL4 fa
          intro n12  fa w37 F q3 q5 q10 q12 E EO EU EL4 l12_E l12_EO l12_EU l12_EL4 m12_3 m12_5 m12_10
          refine hK33 _ _ ?_
          clear hK33
          refine wp_seq_k fun K34 hK34 => ?_
          refine wp_region_lit ?_
          refine sq_val F rfl (by decide) rfl (R_move rfl (F.at rfl)) ?_; clear F fa; intro fa F
          refine sq_val F rfl (by decide) rfl (R_move rfl (F.at rfl)) ?_; clear F fa; intro fa F
          refine sq_val F rfl (by decide) rfl (R_neqB (b := false) rfl (F.at rfl) (F.at rfl) (decide_eq_true rfl)) ?_; clear F fa; intro fa F
          refine sq_val F rfl (by decide) rfl (R_move rfl (F.at rfl)) ?_; clear F fa; intro fa F
          refine sq_val F rfl (by decide) (wantT F rfl rfl (by decide) rfl) (R_move rfl (F.at rfl)) ?_; clear F fa; intro fa F
          refine sq_val F rfl (by decide) (wantT F rfl rfl (by decide) rfl) (R_eqlD rfl (F.at rfl) (ev_c fa _)) ?_; clear F fa; intro fa F
          refine sq_val F rfl (by decide) (wantT F rfl rfl (by decide) rfl) (R_move rfl (F.at rfl)) ?_; clear F fa; intro fa F
          by_cases hg1 : ((qe t) = 0)
          · skip
            replace F := F.re (k := 132) rfl (congrArg Value.bool (decide_eq_true hg1))
            refine sq_val F rfl (by decide) (wantT F rfl rfl (by decide) rfl) (R_loadBlk rfl (F.at rfl) Try.underlying23 rfl (by kernel_rfl) q12) ?_; clear F fa; intro fa F
            refine sq_val F rfl (by decide) (wantT F rfl rfl (by decide) rfl) (R_move rfl (F.at rfl)) ?_; clear F fa; intro fa F
            refine sq_val F rfl (by decide) (wantT F rfl rfl (by decide) rfl) (R_field rfl (F.at rfl) Try.underlying23 rfl (n := 1) (sz := 1) rfl (by kernel_rfl) (by decide)) ?_; clear F fa; intro fa F
            refine sq_val F rfl (by decide) (wantT F rfl rfl (by decide) rfl) (R_load rfl (F.at rfl) Try.underlying3 rfl ((cells_of_block q10 1).trans (getS (get0)))) ?_; clear F fa; intro fa F
            refine sq_val F rfl (by decide) (wantT F rfl rfl (by decide) rfl) (R_sub rfl (F.at rfl) (F.at rfl) (by omega) (by omega)) ?_; clear F fa; intro fa F
            refine sq_val F rfl (by decide) (wantT F rfl rfl (by decide) rfl) (R_move rfl (F.at rfl)) ?_; clear F fa; intro fa F
            refine sq_val F rfl (by decide) (wantT F rfl rfl (by decide) rfl) (R_field rfl (F.at rfl) Try.underlying23 rfl (n := 0) (sz := 1) rfl (by kernel_rfl) (by decide)) ?_; clear F fa; intro fa F
            refine sq_val F rfl (by decide) (wantT F rfl rfl (by decide) rfl) (R_load rfl (F.at rfl) Try.underlying3 rfl ((cells_of_block q10 0).trans (get0))) ?_; clear F fa; intro fa F
            refine sq_val F rfl (by decide) (wantT F rfl rfl (by decide) rfl) (R_sub rfl (F.at rfl) (F.at rfl) (by omega) (by omega)) ?_; clear F fa; intro fa F
            refine sq_val F rfl (by decide) (wantT F rfl rfl (by decide) rfl) (R_buildV rfl (prS (F.at rfl) (prS (F.at rfl) pr0)) (cells := #[.int .i64 ((t.bl + t.bm) - (qhi t ((i : Int) / t.A) ((i : Int) % t.A))), .int .i64 ((t.bl + t.bm) - (qlo t ((i : Int) / t.A) ((i : Int) % t.A)))]) (by kernel_rfl)) ?_; clear F fa; intro fa F
            refine sq_val F rfl (by decide) (wantT F rfl rfl (by decide) rfl) (R_neqBt (r := false) rfl (F.at rfl) (F.at rfl) (decide_eq_true (hqm hg1))) ?_; clear F fa; intro fa F
            refine sq_val F rfl (by decide) (wantT F rfl rfl (by decide) rfl) (R_pickT rfl (F.at rfl) (F.at rfl)) ?_; clear F fa; intro fa F
            refine sq_val F rfl (by decide) rfl (R_pickF rfl (F.at rfl) (F.at rfl)) ?_; clear F fa; intro fa F
            refine wpList_nil ?_
            refine hK34 _ _ ?_
            clear hK34
            refine cd_F F rfl ?_
            refine wp_skip ?_
            refine hK31 _ _ ?_
            clear hK31
            refine wp_region_lit ?_
            refine sq_val F rfl (by decide) rfl (R_move rfl (F.at rfl)) ?_; clear F fa; intro fa F
            refine sq_val F rfl (by decide) rfl (R_add rfl (F.at rfl) (ev_c fa _) (by omega) (by omega)) ?_; clear F fa; intro fa F
            refine sq_val F rfl (by decide) rfl (R_assign rfl (F.at rfl)) ?_; clear F fa; intro fa F
            refine wpList_nil ?_
            show _ ∧ _
            exact ⟨by omega, _, ⟨rfl, EL4⟩, F.sub (.c 9 rfl (.c 3 rfl (.c 4 rfl (.c 5 rfl .n))))⟩
          · skip
            replace F := F.re (k := 132) rfl (congrArg Value.bool (decide_eq_false hg1))
            refine sq_no F rfl (by decide) (wantF F rfl rfl (by decide) rfl (by decide)) ?_; clear F fa; intro fa F
            refine sq_no F rfl (by decide) (wantF F rfl rfl (by decide) rfl (by decide)) ?_; clear F fa; intro fa F
            refine sq_no F rfl (by decide) (wantF F rfl rfl (by decide) rfl (by decide)) ?_; clear F fa; intro fa F
            refine sq_no F rfl (by decide) (wantF F rfl rfl (by decide) rfl (by decide)) ?_; clear F fa; intro fa F
            refine sq_no F rfl (by decide) (wantF F rfl rfl (by decide) rfl (by decide)) ?_; clear F fa; intro fa F
            refine sq_no F rfl (by decide) (wantF F rfl rfl (by decide) rfl (by decide)) ?_; clear F fa; intro fa F
            refine sq_no F rfl (by decide) (wantF F rfl rfl (by decide) rfl (by decide)) ?_; clear F fa; intro fa F
            refine sq_no F rfl (by decide) (wantF F rfl rfl (by decide) rfl (by decide)) ?_; clear F fa; intro fa F
            refine sq_no F rfl (by decide) (wantF F rfl rfl (by decide) rfl (by decide)) ?_; clear F fa; intro fa F
            refine sq_no F rfl (by decide) (wantF F rfl rfl (by decide) rfl (by decide)) ?_; clear F fa; intro fa F
            refine sq_no F rfl (by decide) (wantF F rfl rfl (by decide) rfl (by decide)) ?_; clear F fa; intro fa F
            refine sq_val F rfl (by decide) (wantT F rfl rfl (by decide) rfl) (R_pickF rfl (F.at rfl) (ev_c fa _)) ?_; clear F fa; intro fa F
            refine sq_val F rfl (by decide) rfl (R_pickF rfl (F.at rfl) (F.at rfl)) ?_; clear F fa; intro fa F
            refine wpList_nil ?_
            refine hK34 _ _ ?_
            clear hK34
            refine cd_F F rfl ?_
            refine wp_skip ?_
            refine hK31 _ _ ?_
            clear hK31
            refine wp_region_lit ?_
            refine sq_val F rfl (by decide) rfl (R_move rfl (F.at rfl)) ?_; clear F fa; intro fa F
            refine sq_val F rfl (by decide) rfl (R_add rfl (F.at rfl) (ev_c fa _) (by omega) (by omega)) ?_; clear F fa; intro fa F
            refine sq_val F rfl (by decide) rfl (R_assign rfl (F.at rfl)) ?_; clear F fa; intro fa F
            refine wpList_nil ?_
            show _ ∧ _
            exact ⟨by omega, _, ⟨rfl, EL4⟩, F.sub (.c 9 rfl (.c 3 rfl (.c 4 rfl (.c 5 rfl .n))))⟩
        · skip
          refine wp_exit ?_
          refine hK27 _ _ ?_
          clear hK27
          refine wp_seq_k fun K35 hK35 => ?_
          refine wp_seq_k fun K36 hK36 => ?_
          refine wp_region_lit ?_
          refine sq_val F rfl (by decide) rfl (R_assign rfl (ev_c fa _)) ?_; clear F fa; intro fa F
          refine wpList_nil ?_
          refine hK36 _ _ ?_
          clear hK36
          refine wp_block ?_
          have F0 := F.sub (.c 3 rfl (.c 5 rfl .n))
          refine lp_for F0 (t.T.toNat) (fun i Lv W => Lv = [(14, .int .i64 ((i : Nat) : Int))] ∧ Ext [] w21 W) ⟨_, ⟨rfl, Ext.refl _ _⟩, F.sub (.c 14 rfl (.c 3 rfl (.c 5 rfl .n)))⟩ ?_
          clear F F0
          rintro i _ fa w38 hi5 ⟨rfl, EL5⟩ F
          have q3 := EL5.keep0 q3
          have q5 := EL5.keep0 q5
          have E := E.nil EL5
          have EO := EO.nil EL5
          have EU := EU.nil EL5
          refine wp_seq_k fun K37 hK37 => ?_
          refine wp_seq_k fun K38 hK38 => ?_
          refine wp_region_lit ?_
          refine sq_val F rfl (by decide) rfl (R_move rfl (F.at rfl)) ?_; clear F fa; intro fa F
          refine sq_val F rfl (by decide) rfl (R_field rfl (F.at rfl) Try.underlying28 rfl (n := 2) (sz := 1) rfl (by kernel_rfl) (by decide)) ?_; clear F fa; intro fa F
          refine sq_val F rfl (by decide) rfl (R_load rfl (F.at rfl) Try.underlying3 rfl ((cells_of_block q3 2).trans (getS (getS (get0))))) ?_; clear F fa; intro fa F
          refine sq_val F rfl (by decide) rfl (R_lss rfl (F.at rfl) (F.at rfl)) ?_; clear F fa; intro fa F
          refine wpList_nil ?_
          refine hK38 _ _ ?_
          clear hK38
          refine cd_if F rfl (fun hc149 => ?_) (fun hc149 => ?_)
          · skip
            refine wp_skip ?_
            refine hK37 _ _ ?_
            clear hK37
            refine wp_seq_k fun K39 hK39 => ?_
            refine wp_block ?_
            refine wp_seq_k fun K40 hK40 => ?_
            have hqp := hlp i (by omega) (by omega)
            have hrb := rbd hokT t8 (i := i) (by omega) (by omega)
            refine wp_region_lit ?_
            refine sq_val F rfl (by decide) rfl (R_loadBlk rfl (F.at rfl) Try.underlying28 rfl (by kernel_rfl) q3) ?_; clear F fa; intro fa F
            refine sq_val F rfl (by decide) rfl (R_move rfl (F.at rfl)) ?_; clear F fa; intro fa F
            refine sq_call F rfl (by decide) rfl (R_callV rfl rfl Try.call35 (mpS (F.at rfl) (mpS (F.at rfl) mp0))) (pull_q hokT t8 ((HT).out.ext EO (by simp)) (show (0 : Int) ≤ (i : Int) by omega) (show (i : Int) < t.T by omega)) fun e w39 hR => ?_
            obtain ⟨rfl, e9⟩ := hR
            refine ⟨_, rfl, ?_⟩; clear F fa; intro fa F
            replace q3 := (e9).keep0 q3
            replace q5 := (e9).keep0 q5
            replace E := ext_same E (e9)
            replace EO := ext_same EO (e9)
            replace EU := ext_same EU (e9)
            replace EL5 := ext_same EL5 (e9)
            clear e9
            refine sq_val F rfl (by decide) rfl (R_move rfl (F.at rfl)) ?_; clear F fa; intro fa F
            refine sq_val F rfl (by decide) rfl (R_extract rfl (F.at rfl) (get0)) ?_; clear F fa; intro fa F
            refine sq_val F rfl (by decide) rfl (R_extract rfl (F.at rfl) (getS (get0))) ?_; clear F fa; intro fa F
            refine sq_new F rfl (by decide) rfl (R_alloc rfl Try.zeroValue23) ?_; clear F fa; intro fa w40 F hw
            obtain ⟨n15, hn⟩ : ∃ n, n = w39.heap.size := ⟨_, rfl⟩
            rw [← hn] at F
            have l15_E : w.heap.size ≤ n15 := by rw [hn]; exact E.size
            have l15_EO : w2.heap.size ≤ n15 := by rw [hn]; exact EO.size
            have l15_EU : w17.heap.size ≤ n15 := by rw [hn]; exact EU.size
            have l15_EL5 : w21.heap.size ≤ n15 := by rw [hn]; exact EL5.size
            have m15_3 : n3 < n15 := by rw [hn]; exact blk_lt q3
            have m15_5 : n5 < n15 := by rw [hn]; exact blk_lt q5
            replace q3 := keep_alloc hw q3
            replace q5 := keep_alloc hw q5
            replace E := ext_alloc E hw
            replace EO := ext_alloc EO hw
            replace EU := ext_alloc EU hw
            replace EL5 := ext_alloc EL5 hw
            have q15 := new_row hw hn
            clear hw hn
            refine sq_to rfl rfl (R_storeRow rfl (F.at rfl) (F.at rfl) (by kernel_rfl) (by simp [Value.oneCell']) q15 rfl) ?_; intro w41 hw
            replace q3 := keep_cells hw q3 (by omega)
            replace q5 := keep_cells hw q5 (by omega)
            replace q15 := put_row hw q15 rfl
            replace E := ext_cells E hw (fun h => by first | exact absurd h (by omega) | simp)
            replace EO := ext_cells EO hw (fun h => by first | exact absurd h (by omega) | simp)
            replace EU := ext_cells EU hw (fun h => by first | exact absurd h (by omega) | simp)
            replace EL5 := ext_cells EL5 hw (fun h => by first | exact absurd h (by omega) | simp)
            clear hw
            refine sq_val F rfl (by decide) rfl (R_assign rfl (F.at rfl)) ?_; clear F fa; intro fa F
            refine wpList_nil ?_
            refine hK40 _ _ ?_
            clear hK40
            refine wp_seq_k fun K41 hK41 => ?_
            refine wp_region_lit ?_
            refine sq_val F rfl (by decide) rfl (R_loadBlk rfl (F.at rfl) Try.underlying28 rfl (by kernel_rfl) q5) ?_; clear F fa; intro fa F
            refine sq_val F rfl (by decide) rfl (R_move rfl (F.at rfl)) ?_; clear F fa; intro fa F
            refine sq_call F rfl (by decide) rfl (R_callV rfl rfl Try.call35 (mpS (F.at rfl) (mpS (F.at rfl) mp0))) (pull_q uok u8 ((HU).out.ext EU (by simp)) (show (0 : Int) ≤ (i : Int) by omega) (show (i : Int) < t.T by omega)) fun e w42 hR => ?_
            obtain ⟨rfl, e9⟩ := hR
            refine ⟨_, rfl, ?_⟩; clear F fa; intro fa F
            replace q3 := (e9).keep0 q3
            replace q5 := (e9).keep0 q5
            replace q15 := (e9).keep0 q15
            replace E := ext_same E (e9)
            replace EO := ext_same EO (e9)
            replace EU := ext_same EU (e9)
            replace EL5 := ext_same EL5 (e9)
            clear e9
            rw [hlq] at F
            refine sq_val F rfl (by decide) rfl (R_move rfl (F.at rfl)) ?_; clear F fa; intro fa F
            refine sq_val F rfl (by decide) rfl (R_extract rfl (F.at rfl) (get0)) ?_; clear F fa; intro fa F
            refine sq_val F rfl (by decide) rfl (R_extract rfl (F.at rfl) (getS (get0))) ?_; clear F fa; intro fa F
            refine sq_new F rfl (by decide) rfl (R_alloc rfl Try.zeroValue23) ?_; clear F fa; intro fa w43 F hw
            obtain ⟨n17, hn⟩ : ∃ n, n = w42.heap.size := ⟨_, rfl⟩
            rw [← hn] at F
            have l17_E : w.heap.size ≤ n17 := by rw [hn]; exact E.size
            have l17_EO : w2.heap.size ≤ n17 := by rw [hn]; exact EO.size
            have l17_EU : w17.heap.size ≤ n17 := by rw [hn]; exact EU.size
            have l17_EL5 : w21.heap.size ≤ n17 := by rw [hn]; exact EL5.size
            have m17_3 : n3 < n17 := by rw [hn]; exact blk_lt q3
            have m17_5 : n5 < n17 := by rw [hn]; exact blk_lt q5
            have m17_15 : n15 < n17 := by rw [hn]; exact blk_lt q15
            replace q3 := keep_alloc hw q3
            replace q5 := keep_alloc hw q5
            replace q15 := keep_alloc hw q15
            replace E := ext_alloc E hw
            replace EO := ext_alloc EO hw
            replace EU := ext_alloc EU hw
            replace EL5 := ext_alloc EL5 hw
            have q17 := new_row hw hn
            clear hw hn
            refine sq_to rfl rfl (R_storeRow rfl (F.at rfl) (F.at rfl) (by kernel_rfl) (by simp [Value.oneCell']) q17 rfl) ?_; intro w44 hw
            replace q3 := keep_cells hw q3 (by omega)
            replace q5 := keep_cells hw q5 (by omega)
            replace q15 := keep_cells hw q15 (by omega)
            replace q17 := put_row hw q17 rfl
            replace E := ext_cells E hw (fun h => by first | exact absurd h (by omega) | simp)
            replace EO := ext_cells EO hw (fun h => by first | exact absurd h (by omega) | simp)
            replace EU := ext_cells EU hw (fun h => by first | exact absurd h (by omega) | simp)
            replace EL5 := ext_cells EL5 hw (fun h => by first | exact absurd h (by omega) | simp)
            clear hw
            refine sq_val F rfl (by decide) rfl (R_assign rfl (F.at rfl)) ?_; clear F fa; intro fa F
            refine wpList_nil ?_
            refine hK41 _ _ ?_
            clear hK41
            refine wp_seq_k fun K42 hK42 => ?_
            suffices hcut : ∀ (fa : Act) (w47 : World), Has 178 fa [(3, .pointer (some ⟨n3, 0, none⟩)), (5, .pointer (some ⟨n5, 0, none⟩)), (14, .int .i64 ((i : Nat) : Int)), (176, .bool false)] → w47.heap[n3]? = some (.cells #[.int .i64 t.S, .int .i64 t.A, .int .i64 t.T, .int .i64 t.bl, .int .i64 t.bm, .int .i64 t.pl, .int .i64 t.pm, .int .i64 t.sl, .slice ga t.gr.length gc, .slice ra t.rd.length rc, .slice la t.lk.length lc] 28 (0, 0)) → w47.heap[n5]? = some (.cells #[.int .i64 t.S, .int .i64 t.A, .int .i64 t.T, .int .i64 t.bl, .int .i64 t.bm, .int .i64 (-(t.pm)), .int .i64 (-(t.pl)), .int .i64 t.sl, .slice gxa t.gr.length gxc, .slice rxa t.rd.length rxc, .slice lxa t.lk.length lxc] 28 (0, 0)) → Ext [] w w47 → Ext [] w2 w47 → Ext [] w17 w47 → Ext [] w21 w47 → K42 fa w47 by
              refine region_x (Ext [] w44) none follows fun w45 hh eh => ?_
              have q3_ := q3
              replace q3 := keep_same hh q3
              have q5_ := q5
              replace q5 := keep_same hh q5
              have q15_ := q15
              replace q15 := keep_same hh q15
              have q17_ := q17
              replace q17 := keep_same hh q17
              have E_ := E
              replace E := ext_same E eh
              have EO_ := EO
              replace EO := ext_same EO eh
              have EU_ := EU
              replace EU := ext_same EU eh
              have EL5_ := EL5
              replace EL5 := ext_same EL5 eh
              have eT := eh
              clear hh eh
              refine ax_val (i := 0) F rfl rfl (by decide) (by kernel_rfl) (fun _ _ _ h => h) rfl (fun w' => R_move rfl (F.at rfl)) (fun _ => eT) ?_; clear F fa; intro fa F
              refine ax_val (i := 1) F rfl rfl (by decide) (by kernel_rfl) (fun _ _ _ h => h) rfl (fun w' => R_move rfl (F.at rfl)) (fun _ => eT) ?_; clear F fa; intro fa F
              refine ax_val (i := 2) F rfl rfl (by decide) (by kernel_rfl) (fun _ _ _ h => h) rfl (fun w' => R_neqB (b := false) rfl (F.at rfl) (F.at rfl) (decide_eq_true rfl)) (fun _ => eT) ?_; clear F fa; intro fa F
              refine ax_val (i := 3) F rfl rfl (by decide) (by kernel_rfl) (fun _ _ _ h => h) rfl (fun w' => R_move rfl (F.at rfl)) (fun _ => eT) ?_; clear F fa; intro fa F
              refine ax_val (i := 4) F rfl rfl (by decide) (by kernel_rfl) (fun _ _ _ h => h) (wantT F rfl rfl (by decide) rfl) (fun w' => R_move rfl (F.at rfl)) (fun _ => eT) ?_; clear F fa; intro fa F
              refine ax_val (i := 5) F rfl rfl (by decide) (by kernel_rfl) (fun _ _ _ h => h) (wantT F rfl rfl (by decide) rfl) (fun w' => R_eqlD rfl (F.at rfl) (ev_c fa _)) (fun _ => eT) ?_; clear F fa; intro fa F
              refine ax_val (i := 6) F rfl rfl (by decide) (by kernel_rfl) (fun _ _ _ h => h) (wantT F rfl rfl (by decide) rfl) (fun w' => R_move rfl (F.at rfl)) (fun _ => eT) ?_; clear F fa; intro fa F
              by_cases hg2 : ((qe t) = 0)
              · skip
                replace F := F.re (k := 170) rfl (congrArg Value.bool (decide_eq_true hg2))
                refine ax_read (i := 7) F rfl rfl (by decide) (by kernel_rfl) (fun _ _ _ h => h) (wantT F rfl rfl (by decide) rfl) (fun w' hS => R_loadBlk rfl (F.at rfl) Try.underlying23 rfl (by kernel_rfl) (hS.keep q17_ (by simp))) (fun _ => eT) ?_; clear F fa; intro fa F
                refine ax_read (i := 8) F rfl rfl (by decide) (by kernel_rfl) (fun _ _ _ h => h) (wantT F rfl rfl (by decide) rfl) (fun w' hS => R_loadBlk rfl (F.at rfl) Try.underlying23 rfl (by kernel_rfl) (hS.keep q15_ (by simp))) (fun _ => eT) ?_; clear F fa; intro fa F
                refine ax_only (i := 9) (by kernel_rfl) (op_call F rfl rfl (by decide) (wantT F rfl rfl (by decide) rfl) (R_callV rfl rfl Try.call56 (mpS (F.at rfl) mp0)) (negative_any (rlo t i) (rhi t i) _ (by omega) (by omega) (by omega) (by omega)) fun e w46 hR => ?_)
                obtain ⟨rfl, e9⟩ := hR
                refine ⟨_, rfl, ?_⟩; clear F fa; intro fa F
                replace q3 := (e9).keep0 q3
                replace q5 := (e9).keep0 q5
                replace q15 := (e9).keep0 q15
                replace q17 := (e9).keep0 q17
                replace E := ext_same E (e9)
                replace EO := ext_same EO (e9)
                replace EU := ext_same EU (e9)
                replace EL5 := ext_same EL5 (e9)
                replace eT := ext_same eT (e9)
                clear e9
                refine ⟨fun _ => eT, ?_⟩
                refine ax_val (i := 10) F rfl rfl (by decide) (by kernel_rfl) (fun _ _ _ h => h) (wantT F rfl rfl (by decide) rfl) (fun w' => R_neqBt (r := false) rfl (F.at rfl) (F.at rfl) (decide_eq_true (hqp hg2))) (fun _ => eT) ?_; clear F fa; intro fa F
                refine ax_val (i := 11) F rfl rfl (by decide) (by kernel_rfl) (fun _ _ _ h => h) (wantT F rfl rfl (by decide) rfl) (fun w' => R_pickT rfl (F.at rfl) (F.at rfl)) (fun _ => eT) ?_; clear F fa; intro fa F
                refine ax_val (i := 12) F rfl rfl (by decide) (by kernel_rfl) (fun _ _ _ h => h) rfl (fun w' => R_pickF rfl (F.at rfl) (F.at rfl)) (fun _ => eT) ?_; clear F fa; intro fa F
                refine ax_done (by kernel_rfl) ?_ _
                exact hcut _ _ (F.sub (.c 3 rfl (.c 5 rfl (.c 14 rfl (.c 176 rfl .n))))) q3 q5 E EO EU EL5
              · skip
                replace F := F.re (k := 170) rfl (congrArg Value.bool (decide_eq_false hg2))
                refine ax_no (i := 7) F rfl rfl (by decide) (by kernel_rfl) (fun _ _ _ h => h) (wantF F rfl rfl (by decide) rfl (by decide)) (fun _ => eT) ?_; clear F fa; intro fa F
                refine ax_no (i := 8) F rfl rfl (by decide) (by kernel_rfl) (fun _ _ _ h => h) (wantF F rfl rfl (by decide) rfl (by decide)) (fun _ => eT) ?_; clear F fa; intro fa F
                refine ax_no (i := 9) F rfl rfl (by decide) (by kernel_rfl) (fun _ _ _ h => h) (wantF F rfl rfl (by decide) rfl (by decide)) (fun _ => eT) ?_; clear F fa; intro fa F
                refine ax_no (i := 10) F rfl rfl (by decide) (by kernel_rfl) (fun _ _ _ h => h) (wantF F rfl rfl (by decide) rfl (by decide)) (fun _ => eT) ?_; clear F fa; intro fa F
                refine ax_val (i := 11) F rfl rfl (by decide) (by kernel_rfl) (fun _ _ _ h => h) (wantT F rfl rfl (by decide) rfl) (fun w' => R_pickF rfl (F.at rfl) (ev_c fa _)) (fun _ => eT) ?_; clear F fa; intro fa F
                refine ax_val (i := 12) F rfl rfl (by decide) (by kernel_rfl) (fun _ _ _ h => h) rfl (fun w' => R_pickF rfl (F.at rfl) (F.at rfl)) (fun _ => eT) ?_; clear F fa; intro fa F
                refine ax_done (by kernel_rfl) ?_ _
                exact hcut _ _ (F.sub (.c 3 rfl (.c 5 rfl (.c 14 rfl (.c 176 rfl .n))))) q3 q5 E EO EU EL5
            clear F q3 q5 q15 q17 E EO EU EL5 fa
            intro   fa w47 F q3 q5 E EO EU EL5
            refine hK42 _ _ ?_
            clear hK42
            refine cd_F F rfl ?_
            refine wp_skip ?_
            refine hK39 _ _ ?_
            clear hK39
            refine wp_region_lit ?_
            refine sq_val F rfl (by decide) rfl (R_move rfl (F.at rfl)) ?_; clear F fa; intro fa F
            refine sq_val F rfl (by decide) rfl (R_add rfl (F.at rfl) (ev_c fa _) (by omega) (by omega)) ?_; clear F fa; intro fa F
            refine sq_val F rfl (by decide) rfl (R_assign rfl (F.at rfl)) ?_; clear F fa; intro fa F
            refine wpList_nil ?_
            show _ ∧ _
            exact ⟨by omega, _, ⟨rfl, EL5⟩, F.sub (.c 14 rfl (.c 3 rfl (.c 5 rfl .n)))⟩
          · skip
            refine wp_exit ?_
            refine hK35 _ _ ?_
            clear hK35
            refine wp_seq_k fun K43 hK43 => ?_
            refine wp_region_lit ?_
            refine sq_call F rfl (by decide) rfl (R_callV rfl rfl Try.call25 mp0) (taken_any _) fun e w48 hR => ?_
            obtain ⟨rfl, e9⟩ := hR
            refine ⟨_, rfl, ?_⟩; clear F fa; intro fa F
            replace q3 := (e9).keep0 q3
            replace q5 := (e9).keep0 q5
            replace E := ext_same E (e9)
            replace EO := ext_same EO (e9)
            replace EU := ext_same EU (e9)
            clear e9
            refine sq_val F rfl (by decide) rfl (R_assign rfl (F.at rfl)) ?_; clear F fa; intro fa F
            refine wpList_nil ?_
            refine hK43 _ _ ?_
            clear hK43
            refine wp_ret ?_
            (try simp only [Exit.inBlock, Exit.then])
            refine rt_v F (rs_1 F rfl rfl) ?_
            exact ⟨rfl, E⟩
end Go.Proofs.Ytholfdgebdlgjaa
