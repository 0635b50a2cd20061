/- The law MeasureWrong: no fewer are wrong. No conditions. -/
import Derived.Test.YtholfdgebdlgjaaVp
namespace Go.Proofs.Ytholfdgebdlgjaa
open Go.RowKit
set_option linter.unusedVariables false
set_option linter.unusedSimpArgs false
theorem R_eqlBB {P : Program} {ρ : Operand → Value} {o : Oper} {w : World} {x y : Operand} {t t' : TypeId} {a b : Bool} (ho : o.op = .binOp .eql t x y t') (hx : ρ x = .bool a) (hy : ρ y = .bool b) (hu : P.underlying t = some .bool) : (execOp ρ o).run P w = .ok (.value (.bool (a == b))) w := by
  unfold execOp
  cases a <;> cases b <;> simp [ho, hx, hy, eqGuard, binOp, Op.equal, go_sem, run_equalIn_bool w 9999 t _ _ hu, Op.maxDepth]
theorem sets_mem {n i : Nat} (h : i < (setsL n).length) : (setsL n).getD i 0 ∈ setsL n := getD_mem 0 h
theorem wrongR_ok {t : Tp} {s : Nat} (h : wrongR t = some s) : wrongE t = 0 ∧ wrongL t = listTo (s : Nat) 8 := by
  rw [wrongE, wrongL, h]
  exact ⟨rfl, rfl⟩
theorem ring_or {t : Tp} (ok : t.Ok) (h8 : t.rd.length ≤ 8) : ringE t = 0 ∨ ringE t = 11 := by
  have hc := check_of ok h8
  rw [ringE, hc]
  cases ringR t with
  | none => exact .inr rfl
  | some s => exact .inl rfl
theorem ring_zero {t : Tp} (ok : t.Ok) (h8 : t.rd.length ≤ 8) (h : ringE t = 0) : ∃ R, ringR t = some R ∧ ringL t = listTo (R : Nat) 8 := by
  have hc := check_of ok h8
  rw [ringE, hc] at h
  cases hr : ringR t with
  | none => rw [hr] at h; cases h
  | some s =>
    refine ⟨s, rfl, ?_⟩
    rw [ringL, hc, hr]
    rfl
/-- A set of readings without which there is a truth has a reading of the ring. -/
theorem meet {t : Tp} (ok : t.Ok) (h6 : t.rd.length < 6) {s R : Nat} (hR : ringR t = some R) (hs : bdB t (s : Nat) = true) : ∃ i, i < t.rd.length ∧ hasB (s : Nat) i = true ∧ hasB (R : Nat) i = true := by
  have hm := List.mem_of_find?_eq_some hR
  have hr := List.find?_some hR
  by_cases h : ∃ i, i < t.rd.length ∧ hasB (s : Nat) i = true ∧ hasB (R : Nat) i = true
  · exact h
  · exfalso
    obtain ⟨x, hx⟩ := (bdB_iffO ok _).1 hs
    have : bdB t (outN (2 ^ t.rd.length - 1) R : Nat) = true := (bdB_iffO ok _).2 ⟨x, hx.cell, hx.tail, fun i hi hb => hx.read i hi (by
      have := out_sets _ h6 R hm i hi
      rw [hb] at this
      cases hq : hasB (s : Nat) i with
      | false => rfl
      | true => exact absurd ⟨i, hi, hq, by simpa using this.symm⟩ h), hx.link⟩
    rw [this] at hr
    simp at hr
theorem met_step {xs ys : List Int} {k : Nat} (h : ∀ j, j < k → ¬ (xs.getD j 0 ∈ ys)) : decide (atI ys (xs.getD k 0) ≥ 0) = false → ∀ j, j < k + 1 → ¬ (xs.getD j 0 ∈ ys) := by
  intro hd j hj
  by_cases e : j = k
  · subst e
    rw [decide_eq_false_iff_not, atI_mem] at hd
    exact hd
  · exact h j (by omega)
theorem met_all {t : Tp} (ok : t.Ok) (h6 : t.rd.length < 6) {s : Nat} (hs : bdB t (s : Nat) = true) (hE : ringE t = 0) {b : Bool} {k : Nat} (hk : (listTo (s : Nat) 8).length ≤ k) (h : b = false → ∀ j, j < k → ¬ ((listTo (s : Nat) 8).getD j 0 ∈ ringL t)) : b = true := by
  cases b with
  | true => rfl
  | false =>
    exfalso
    obtain ⟨R, hR, hL⟩ := ring_zero ok (by omega) hE
    obtain ⟨i, hi, h1, h2⟩ := meet ok h6 hR hs
    have hm : (i : Int) ∈ listTo (s : Nat) 8 := (mem_listTo _ _ _).2 ⟨by omega, h1⟩
    obtain ⟨j, hj, e⟩ := List.getElem_of_mem hm
    refine h rfl j (by omega) ?_
    rw [show (listTo (s : Nat) 8).getD j 0 = (i : Int) by rw [← e]; simp [hj], hL]
    exact (mem_listTo _ _ _).2 ⟨by omega, h2⟩
theorem wrong_end {t : Tp} {i : Nat} {b : Bool} (h : (b = true → ∀ j, j < i → bdB t ((setsL t.rd.length).getD j 0 : Nat) = false) ∧ (b = false → (wrongR t).isSome = true)) (hi : (setsL t.rd.length).length ≤ i) : (b == decide (wrongE t = 11)) = true := by
  cases b with
  | true =>
    have : wrongR t = none := find_no fun j hj => h.1 rfl j (by omega)
    rw [wrongE, this]
    rfl
  | false =>
    have := h.2 rfl
    rw [wrongE, this]
    rfl
set_option maxRecDepth 100000 in
set_option maxHeartbeats 1000000 in
theorem wrong_walk (a0 : Option Addr) (len0 cap0 : Nat) (z0 : List Int) (w : World) (h0 : IsRow .i64 w a0 len0 cap0 z0) :
    Calls Try.prog 14 #[.slice a0 len0 cap0] w fun e w' => e = .returned (.bool true) ∧ Ext [] w w' := by
  have HN := Lib.hid (newLots_any w a0 len0 cap0 z0 h0)
  clear h0
  have E : Ext [] w w := Ext.refl _ _
  refine calls_has 107 Try.func14 rfl Try.ntmps14 (Nat.le_of_ble_eq_true rfl) ?_
  intro fa F
  refine wp_seq_k fun K1 hK1 => ?_
  refine wp_region_lit ?_
  refine F.vl (R_assign rfl (ev_c fa _)) ?_; clear F fa; intro fa F
  refine wpList_nil ?_
  refine hK1 _ _ ?_
  clear hK1
  refine wp_seq_k fun K2 hK2 => ?_
  refine wp_region_lit ?_
  refine F.mv ?_; clear F fa; intro fa F
  refine sq_call F rfl (by decide) rfl (R_callV rfl rfl Try.call27 (mpS (F.at rfl) mp0)) (HN.out) fun e w1 hR => ?_
  obtain ⟨b, rfl, hb, hb2, HL, e1⟩ := hR
  refine ⟨_, rfl, ?_⟩; clear F fa; intro fa F
  replace E := ext_same E (e1)
  clear e1
  have hbB := lots_lt HL
  obtain ⟨B0, hB0⟩ : ∃ B0, B0 = w1.heap.size := ⟨_, rfl⟩
  rw [← hB0] at hbB
  have hwB : w.heap.size ≤ B0 := by rw [hB0]; exact E.size
  refine sq_call F rfl (by decide) rfl (R_callV rfl rfl Try.call46 (mpS (F.at rfl) mp0)) (tapesOf_any w _ b _ _ HL (by omega)) fun e w2 hR => ?_
  obtain ⟨t, gv, rv, lv, rfl, hW, ⟨og, orr, olk⟩, HL, e2⟩ := hR
  refine ⟨_, rfl, ?_⟩; clear F fa; intro fa F
  replace E := E.trans' e2 (fun i hi hl => by simp only [List.mem_cons, List.not_mem_nil, or_false] at hi ⊢; omega)
  rw [← hB0] at og orr olk
  have hB1 : B0 ≤ w2.heap.size := by rw [hB0]; exact e2.size
  clear hB0 e2
  obtain ⟨ga, gc, rfl⟩ := owns_slice og
  obtain ⟨ra, rc, rfl⟩ := owns_slice orr
  obtain ⟨la, lc, rfl⟩ := owns_slice olk
  have HT := Lib.hid (tp_of_owns og orr olk)
  clear og orr olk
  have EO : Ext [] w2 w2 := Ext.refl _ _
  have HRd := Lib.hid (slAt_of_rows HT.out.rd (0, 0, 0, 0))
  have HGr := Lib.hid (slAt_of_rows HT.out.gr (0, 0))
  have HLk := Lib.hid (slAt_of_rows HT.out.lk (0, 0, 0, 0, 0, 0))
  have hokT := hW.ok
  have hS1 := hokT.S1
  have hS3 := hokT.S3
  have hA1 := hokT.A1
  have hA3 := hokT.A3
  have hT1 := hokT.T1
  have hT3 := hokT.T3
  have hgl := hokT.grl
  have hrl := hW.rdl
  have hkl := hW.lkl
  obtain ⟨hP1, hP2⟩ := ok_prod hokT
  refine sq_new F rfl (by decide) rfl (R_alloc rfl Try.zeroValue28) ?_; clear F fa; intro fa w3 F hw
  obtain ⟨n3, hn⟩ : ∃ n, n = w2.heap.size := ⟨_, rfl⟩
  rw [← hn] at F
  have s3 : w2.heap.size ≤ n3 := Nat.le_of_eq hn.symm
  have l3_E : w.heap.size ≤ n3 := by rw [hn]; exact E.size
  have l3_EO : w2.heap.size ≤ n3 := by rw [hn]; exact EO.size
  replace E := ext_alloc E hw
  replace EO := ext_alloc EO hw
  have q3 := new_row hw hn
  clear hw hn
  refine sq_to rfl rfl (R_storeRow rfl (F.at rfl) (F.at rfl) (by kernel_rfl) (by first | (simp [Value.oneCell']; done) | (simp [Value.oneCell', grRow, rdRow, lkRow]; done)) q3 rfl) ?_; intro w4 hw
  replace q3 := put_row hw q3 rfl
  replace E := ext_cells E hw (fun h => by first | exact absurd h (by omega) | simp)
  replace EO := ext_cells EO hw (fun h => by first | exact absurd h (by omega) | simp)
  clear hw
  refine wpList_nil ?_
  have t8 : t.rd.length ≤ 8 := by omega
  have t6 : t.rd.length < 6 := by have := hW.rdl; omega
  refine hK2 _ _ ?_
  clear hK2
  refine wp_seq_k fun K3 hK3 => ?_
  refine wp_region_lit ?_
  refine F.vl (R_loadBlk rfl (F.at rfl) Try.underlying28 rfl (by kernel_rfl) q3) ?_; clear F fa; intro fa F
  refine sq_call F rfl (by decide) rfl (R_callV rfl rfl Try.call59 (mpS (F.at rfl) mp0)) (wrong_ok t _ _ _ _ _ _ _ (HT.out.ext EO (by simp)) hokT t8) fun e w5 hR => ?_
  obtain ⟨pa, pc, rfl, hgot, eX⟩ := hR
  refine ⟨_, rfl, ?_⟩; clear F fa; intro fa F
  replace q3 := (eX).keep0 q3
  replace E := ext_same E (eX)
  replace EO := ext_same EO (eX)
  have EP : Ext [] w5 w5 := Ext.refl _ _
  have HW := Lib.hid hgot
  clear hgot eX
  refine F.mv ?_; clear F fa; intro fa F
  refine F.vl (R_extract rfl (F.at rfl) (get0)) ?_; clear F fa; intro fa F
  refine F.vl (R_extract rfl (F.at rfl) (getS (get0))) ?_; clear F fa; intro fa F
  refine F.as ?_; clear F fa; intro fa F
  refine F.as ?_; clear F fa; intro fa F
  refine wpList_nil ?_
  refine hK3 _ _ ?_
  clear hK3
  refine wp_seq_k fun K4 hK4 => ?_
  refine wp_region_lit ?_
  refine F.vl (R_loadBlk rfl (F.at rfl) Try.underlying28 rfl (by kernel_rfl) q3) ?_; clear F fa; intro fa F
  refine sq_call F rfl (by decide) rfl (R_callV rfl rfl Try.call47 (mpS (F.at rfl) mp0)) (ring_any t _ _ _ _ (HT.out.ext EO (by simp)) (by omega) (by omega) (by omega)) fun e w6 hR => ?_
  obtain ⟨qa, qc, rfl, hgot, eX⟩ := hR
  refine ⟨_, rfl, ?_⟩; clear F fa; intro fa F
  replace q3 := (eX).keep0 q3
  replace E := ext_same E (eX)
  replace EO := ext_same EO (eX)
  replace EP := ext_same EP (eX)
  have EQ : Ext [] w6 w6 := Ext.refl _ _
  have HG := Lib.hid hgot
  clear hgot eX
  have hre2 := ring_or hokT t8
  refine F.mv ?_; clear F fa; intro fa F
  refine F.vl (R_extract rfl (F.at rfl) (get0)) ?_; clear F fa; intro fa F
  refine F.vl (R_extract rfl (F.at rfl) (getS (get0))) ?_; clear F fa; intro fa F
  refine F.as ?_; clear F fa; intro fa F
  refine F.as ?_; clear F fa; intro fa F
  refine wpList_nil ?_
  refine hK4 _ _ ?_
  clear hK4
  refine wp_seq_k fun K5 hK5 => ?_
  refine wp_region_lit ?_
  refine F.vl (R_field rfl (F.at rfl) Try.underlying28 rfl (n := 9) (sz := 1) rfl (by kernel_rfl) (by decide)) ?_; clear F fa; intro fa F
  refine F.vl (R_load rfl (F.at rfl) Try.underlying25 rfl ((cells_of_block q3 9).trans (getS (getS (getS (getS (getS (getS (getS (getS (getS (get0)))))))))))) ?_; clear F fa; intro fa F
  refine F.vl (R_len rfl rfl (F.at rfl) Try.underlying25) ?_; clear F fa; intro fa F
  refine sq_call F rfl (by decide) rfl (R_callV rfl rfl Try.call48 (mpS (F.at rfl) mp0)) (lists_any t.rd.length (by omega) _) fun e w7 hR => ?_
  obtain ⟨L, ya, yc, rfl, hLp, ol, famL, eX⟩ := hR
  refine ⟨_, rfl, ?_⟩; clear F fa; intro fa F
  replace q3 := (eX).keep0 q3
  replace E := ext_same E (eX)
  replace EO := ext_same EO (eX)
  replace EP := ext_same EP (eX)
  replace EQ := ext_same EQ (eX)
  have EL : Ext [] w7 w7 := Ext.refl _ _
  obtain ⟨hLn, hLs⟩ := all_sets t6 hLp
  have hL64 := sets_len _ t6
  have HLs := Lib.hid (slAt_of_outer ol rfl)
  have HLr : Hid (∀ p ∈ L, RowOf w7 p.1 p.2) := fun p hp => fam_row famL hp
  clear ol famL eX
  replace hLs := Lib.hid hLs
  refine F.as ?_; clear F fa; intro fa F
  refine wpList_nil ?_
  refine hK5 _ _ ?_
  clear hK5
  refine wp_seq_k fun K6 hK6 => ?_
  refine wp_region_lit ?_
  refine F.vl (R_assign rfl (ev_c fa _)) ?_; clear F fa; intro fa F
  refine wpList_nil ?_
  refine hK6 _ _ ?_
  clear hK6
  refine wp_seq_k fun K7 hK7 => ?_
  refine wp_seq_k fun K8 hK8 => ?_
  refine wp_region_lit ?_
  refine F.vl (R_assign rfl (ev_c fa _)) ?_; clear F fa; intro fa F
  refine wpList_nil ?_
  refine hK8 _ _ ?_
  clear hK8
  refine wp_block ?_
  have F0 := F.sub (.c 3 rfl (.c 4 rfl (.c 5 rfl (.c 6 rfl (.c 7 rfl (.c 8 rfl .n))))))
  refine lp_for F0 (L.length) (fun i Lv W => ∃ bf : Bool, Lv = [(9, .bool bf), (10, .int .i64 ((i : Nat) : Int))] ∧ Ext [] w7 W ∧ Hid ((bf = true → ∀ j, j < i → bdB t ((setsL t.rd.length).getD j 0 : Nat) = false) ∧ (bf = false → (wrongR t).isSome = true))) ⟨_, ⟨true, rfl, Ext.refl _ _, Lib.hid ⟨fun _ j hj => absurd hj (by omega), fun h => by cases h⟩⟩, F.sub (.c 9 rfl (.c 10 rfl (.c 3 rfl (.c 4 rfl (.c 5 rfl (.c 6 rfl (.c 7 rfl (.c 8 rfl .n))))))))⟩ ?_
  clear F F0
  rintro i _ fa w8 hi1 ⟨bf, rfl, EL1, hf⟩ F
  have q3 := EL1.keep0 q3
  have E := E.nil EL1
  have EO := EO.nil EL1
  have EP := EP.nil EL1
  have EQ := EQ.nil EL1
  have EL := EL.nil EL1
  refine wp_seq_k fun K9 hK9 => ?_
  refine wp_seq_k fun K10 hK10 => ?_
  refine wp_region_lit ?_
  refine F.mv ?_; clear F fa; intro fa F
  refine F.mv ?_; clear F fa; intro fa F
  refine F.vl (R_len rfl rfl (F.at rfl) Try.underlying50) ?_; clear F fa; intro fa F
  refine F.vl (R_lss rfl (F.at rfl) (F.at rfl)) ?_; clear F fa; intro fa F
  refine wpList_nil ?_
  refine hK10 _ _ ?_
  clear hK10
  refine cd_if F rfl (fun hc35 => ?_) (fun hc35 => ?_)
  · skip
    refine wp_skip ?_
    refine hK9 _ _ ?_
    clear hK9
    refine wp_seq_k fun K11 hK11 => ?_
    refine wp_block ?_
    refine wp_seq_k fun K12 hK12 => ?_
    have hbd : bdB (someT t (L.getD i (.bool true, [])).2 true) 0 = bdB t ((setsL t.rd.length).getD i 0 : Nat) := by rw [hLs.out i (by omega)]; exact bd_but hokT t8 _
    have hmm : L.getD i (.bool true, []) ∈ L := getD_mem _ (by omega)
    have hll : (L.getD i (.bool true, [])).2.length ≤ 8 := by rw [hLs.out i (by omega)]; exact listTo_len _ _
    refine region_x (Ext [] w8) none follows fun w9 hh eh => ?_
    have q3_ := q3
    replace q3 := keep_same hh q3
    have E_ := E
    have zEw9 := E.size
    replace E := ext_same E eh
    have EO_ := EO
    have zEOw9 := EO.size
    replace EO := ext_same EO eh
    have EP_ := EP
    have zEPw9 := EP.size
    replace EP := ext_same EP eh
    have EQ_ := EQ
    have zEQw9 := EQ.size
    replace EQ := ext_same EQ eh
    have EL_ := EL
    have zELw9 := EL.size
    replace EL := ext_same EL eh
    have EL1_ := EL1
    have zEL1w9 := EL1.size
    replace EL1 := ext_same EL1 eh
    have eT := eh
    clear hh eh
    refine F.xr (i := 0) rfl (fun w' hS => R_loadBlk rfl (F.at rfl) Try.underlying28 rfl (by kernel_rfl) (hS.keep q3_ (by simp))) (fun _ => eT) ?_; clear F fa; intro fa F
    refine F.x (i := 1) rfl (fun w' => R_move rfl (F.at rfl)) (fun _ => eT) ?_; clear F fa; intro fa F
    refine F.x (i := 2) rfl (fun w' => R_move rfl (F.at rfl)) (fun _ => eT) ?_; clear F fa; intro fa F
    obtain ⟨xb13, xo13, xa13, xr13⟩ := HLs.out i (by omega)
    refine F.x (i := 3) rfl (fun w' => R_ixSlice (sz := 1) rfl ((F.at rfl).trans (xa13 _ _)) (F.at rfl) Try.underlying50 (by kernel_rfl) (by omega) (by omega)) (fun _ => eT) ?_; clear F fa; intro fa F
    refine F.xr (i := 4) rfl (fun w' hS => R_load rfl (F.at rfl) Try.underlying29 rfl (xr13 _ (EL_.nil hS) 0 _ rfl)) (fun _ => eT) ?_; clear F fa; intro fa F
    refine ax_only (i := 5) (by kernel_rfl) (op_call F rfl rfl (by decide) rfl (R_callV rfl rfl Try.call49 (mpS (F.at rfl) (mpS (F.at rfl) (mpS (ev_c fa _) mp0)))) (some_any t (L.getD i (.bool true, [])).2 true _ _ _ _ _ _ _ _ (HT.out.ext EO (by simp)) ((HLr.out _ hmm).ext EL) (by omega) (by omega) (row_one (HLr.out _ hmm))) fun e w10 hR => ?_)
    obtain ⟨xa, xc, rfl, hTs, e9⟩ := hR
    refine ⟨_, rfl, ?_⟩; clear F fa; intro fa F
    replace q3 := (e9).keep0 q3
    replace E := ext_same E (e9)
    replace EO := ext_same EO (e9)
    replace EP := ext_same EP (e9)
    replace EQ := ext_same EQ (e9)
    replace EL := ext_same EL (e9)
    replace EL1 := ext_same EL1 (e9)
    replace eT := ext_same eT (e9)
    clear e9
    refine ⟨fun _ => eT, ?_⟩
    refine ax_only (i := 6) (by kernel_rfl) (op_call F rfl rfl (by decide) rfl (R_callV rfl rfl Try.call29 (mpS (F.at rfl) mp0)) (can_ok (some_ok hokT _ _) (Nat.le_trans (someR_len _ _ _ _) t8) hTs) fun e w11 hR => ?_)
    obtain ⟨rfl, e9⟩ := hR
    refine ⟨_, rfl, ?_⟩; clear F fa; intro fa F
    replace q3 := (e9).keep0 q3
    replace E := ext_same E (e9)
    replace EO := ext_same EO (e9)
    replace EP := ext_same EP (e9)
    replace EQ := ext_same EQ (e9)
    replace EL := ext_same EL (e9)
    replace EL1 := ext_same EL1 (e9)
    replace eT := ext_same eT (e9)
    clear e9
    refine ⟨fun _ => eT, ?_⟩
    refine F.x (i := 7) rfl (fun w' => R_move rfl (F.at rfl)) (fun _ => eT) ?_; clear F fa; intro fa F
    refine F.x (i := 8) rfl (fun w' => R_extract rfl (F.at rfl) (get0)) (fun _ => eT) ?_; clear F fa; intro fa F
    refine F.x (i := 9) rfl (fun w' => R_extract rfl (F.at rfl) (getS (get0))) (fun _ => eT) ?_; clear F fa; intro fa F
    refine F.x (i := 10) rfl (fun w' => R_assign rfl (F.at rfl)) (fun _ => eT) ?_; clear F fa; intro fa F
    refine F.x (i := 11) rfl (fun w' => R_assign rfl (F.at rfl)) (fun _ => eT) ?_; clear F fa; intro fa F
    refine ax_done (by kernel_rfl) ?_ _
    clear eT q3_ E_ EO_ EP_ EQ_ EL_ EL1_
    refine hK12 _ _ ?_
    clear hK12
    refine wp_seq_k fun K14 hK14 => ?_
    refine wp_seq_k fun K15 hK15 => ?_
    refine wp_region_lit ?_
    refine F.mv ?_; clear F fa; intro fa F
    refine F.vl (R_neqB (b := false) rfl (F.at rfl) (ev_c fa _) (by decide)) ?_; clear F fa; intro fa F
    refine wpList_nil ?_
    refine hK15 _ _ ?_
    clear hK15
    refine cd_F F rfl ?_
    refine wp_skip ?_
    refine hK14 _ _ ?_
    clear hK14
    refine wp_seq_k fun K16 hK16 => ?_
    refine wp_seq_k fun K17 hK17 => ?_
    refine wp_region_lit ?_
    refine F.mv ?_; clear F fa; intro fa F
    refine F.vl (R_not rfl (F.at rfl)) ?_; clear F fa; intro fa F
    refine wpList_nil ?_
    refine hK17 _ _ ?_
    clear hK17
    refine cd_b F rfl (fun hc51 => ?_) (fun hc51 => ?_)
    · skip
      have hf2 : Hid ((bf = true → ∀ j, j < i + 1 → bdB t ((setsL t.rd.length).getD j 0 : Nat) = false) ∧ (bf = false → (wrongR t).isSome = true)) := Lib.hid ⟨fun h j hj => if e : j = i then e ▸ (by rw [← hbd]; simpa using hc51) else hf.out.1 h j (by omega), hf.out.2⟩
      refine wp_exit ?_
      refine hK11 _ _ ?_
      clear hK11
      refine wp_region_lit ?_
      refine F.mv ?_; clear F fa; intro fa F
      refine F.vl (R_add rfl (F.at rfl) (ev_c fa _) (by omega) (by omega)) ?_; clear F fa; intro fa F
      refine F.as ?_; clear F fa; intro fa F
      refine wpList_nil ?_
      show _ ∧ _
      exact ⟨by omega, _, ⟨_, rfl, EL1, hf2⟩, F.sub (.c 9 rfl (.c 10 rfl (.c 3 rfl (.c 4 rfl (.c 5 rfl (.c 6 rfl (.c 7 rfl (.c 8 rfl .n))))))))⟩
    · skip
      have hcan : bdB t ((setsL t.rd.length).getD i 0 : Nat) = true := by rw [← hbd]; simpa using hc51
      have hws : (wrongR t).isSome = true := List.find?_isSome.2 ⟨_, sets_mem (show i < (setsL t.rd.length).length by omega), hcan⟩
      have hf2 : Hid ((false = true → ∀ j, j < i + 1 → bdB t ((setsL t.rd.length).getD j 0 : Nat) = false) ∧ (false = false → (wrongR t).isSome = true)) := Lib.hid ⟨fun h => (by cases h), fun _ => hws⟩
      refine wp_skip ?_
      refine hK16 _ _ ?_
      clear hK16
      refine wp_seq_k fun K18 hK18 => ?_
      refine wp_seq_k fun K19 hK19 => ?_
      refine wp_region_lit ?_
      refine F.mv ?_; clear F fa; intro fa F
      refine F.mv ?_; clear F fa; intro fa F
      cases hg1 : bf
      · skip
        replace F := F.re (k := 53) rfl (congrArg Value.bool hg1)
        refine sq_no F rfl (by decide) (wantF F rfl rfl (by decide) rfl (by decide)) ?_; clear F fa; intro fa F
        refine sq_no F rfl (by decide) (wantF F rfl rfl (by decide) rfl (by decide)) ?_; clear F fa; intro fa F
        refine sq_no F rfl (by decide) (wantF F rfl rfl (by decide) rfl (by decide)) ?_; clear F fa; intro fa F
        refine sq_no F rfl (by decide) (wantU F rfl rfl (by decide) rfl) ?_; clear F fa; intro fa F
        refine sq_no F rfl (by decide) (wantU F rfl rfl (by decide) rfl) ?_; clear F fa; intro fa F
        refine sq_no F rfl (by decide) (wantU F rfl rfl (by decide) rfl) ?_; clear F fa; intro fa F
        refine sq_no F rfl (by decide) (wantU F rfl rfl (by decide) rfl) ?_; clear F fa; intro fa F
        refine sq_no F rfl (by decide) (wantU F rfl rfl (by decide) rfl) ?_; clear F fa; intro fa F
        refine sq_no F rfl (by decide) (wantU F rfl rfl (by decide) rfl) ?_; clear F fa; intro fa F
        refine sq_no F rfl (by decide) (wantU F rfl rfl (by decide) rfl) ?_; clear F fa; intro fa F
        refine sq_no F rfl (by decide) (wantF F rfl rfl (by decide) rfl (by decide)) ?_; clear F fa; intro fa F
        refine F.vl (R_pickF rfl (F.at rfl) (ev_c fa _)) ?_; clear F fa; intro fa F
        refine wpList_nil ?_
        refine hK19 _ _ ?_
        clear hK19
        refine cd_F F rfl ?_
        refine wp_skip ?_
        refine hK18 _ _ ?_
        clear hK18
        refine wp_seq_k fun K20 hK20 => ?_
        refine wp_region_lit ?_
        refine F.vl (R_assign rfl (ev_c fa _)) ?_; clear F fa; intro fa F
        refine wpList_nil ?_
        refine hK20 _ _ ?_
        clear hK20
        refine wp_seq_k fun K21 hK21 => ?_
        refine wp_seq_k fun K22 hK22 => ?_
        refine wp_region_lit ?_
        refine F.mv ?_; clear F fa; intro fa F
        refine F.vl (R_neqD rfl (F.at rfl) (ev_c fa _)) ?_; clear F fa; intro fa F
        refine wpList_nil ?_
        refine hK22 _ _ ?_
        clear hK22
        refine cd_if F rfl (fun hc67 => ?_) (fun hc67 => ?_)
        · skip
          refine wp_exit ?_
          refine hK11 _ _ ?_
          clear hK11
          refine wp_region_lit ?_
          refine F.mv ?_; clear F fa; intro fa F
          refine F.vl (R_add rfl (F.at rfl) (ev_c fa _) (by omega) (by omega)) ?_; clear F fa; intro fa F
          refine F.as ?_; clear F fa; intro fa F
          refine wpList_nil ?_
          show _ ∧ _
          exact ⟨by omega, _, ⟨_, rfl, EL1, hf2⟩, F.sub (.c 9 rfl (.c 10 rfl (.c 3 rfl (.c 4 rfl (.c 5 rfl (.c 6 rfl (.c 7 rfl (.c 8 rfl .n))))))))⟩
        · skip
          refine wp_skip ?_
          refine hK21 _ _ ?_
          clear hK21
          refine wp_seq_k fun K23 hK23 => ?_
          obtain ⟨za, zc, hz1, hz2⟩ := HLr.out _ hmm
          have HZ := Lib.hid (slAt_of_rows hz2 0)
          have hrE : ringE t = 0 := by omega
          refine wp_region_lit ?_
          refine F.vl (R_assign rfl (ev_c fa _)) ?_; clear F fa; intro fa F
          refine wpList_nil ?_
          refine hK23 _ _ ?_
          clear hK23
          refine wp_seq_k fun K24 hK24 => ?_
          refine wp_seq_k fun K25 hK25 => ?_
          refine wp_region_lit ?_
          refine F.vl (R_assign rfl (ev_c fa _)) ?_; clear F fa; intro fa F
          refine wpList_nil ?_
          refine hK25 _ _ ?_
          clear hK25
          refine wp_block ?_
          have F0 := F.sub (.c 3 rfl (.c 4 rfl (.c 5 rfl (.c 6 rfl (.c 7 rfl (.c 8 rfl (.c 9 rfl (.c 10 rfl .n))))))))
          refine lp_for F0 ((L.getD i (.bool true, [])).2.length) (fun k Lv W => ∃ bm : Bool, Lv = [(13, .bool bm), (14, .int .i64 ((k : Nat) : Int))] ∧ Ext [] w11 W ∧ Hid (bm = false → ∀ j, j < k → ¬ ((L.getD i (.bool true, [])).2.getD j 0 ∈ ringL t))) ⟨_, ⟨false, rfl, Ext.refl _ _, Lib.hid fun _ j hj => absurd hj (by omega)⟩, F.sub (.c 13 rfl (.c 14 rfl (.c 3 rfl (.c 4 rfl (.c 5 rfl (.c 6 rfl (.c 7 rfl (.c 8 rfl (.c 9 rfl (.c 10 rfl .n))))))))))⟩ ?_
          clear F F0
          rintro k _ fa w12 hi2 ⟨bm, rfl, EL2, hm⟩ F
          have q3 := EL2.keep0 q3
          have E := E.nil EL2
          have EO := EO.nil EL2
          have EP := EP.nil EL2
          have EQ := EQ.nil EL2
          have EL := EL.nil EL2
          have EL1 := EL1.nil EL2
          refine wp_seq_k fun K26 hK26 => ?_
          refine wp_seq_k fun K27 hK27 => ?_
          refine wp_region_lit ?_
          refine F.mv ?_; clear F fa; intro fa F
          refine F.mv ?_; clear F fa; intro fa F
          refine F.mv ?_; clear F fa; intro fa F
          obtain ⟨xb28, xo28, xa28, xr28⟩ := HLs.out i (by omega)
          refine F.vl (R_ixSlice (sz := 1) rfl ((F.at rfl).trans (xa28 _ _)) (F.at rfl) Try.underlying50 (by kernel_rfl) (by omega) (by omega)) ?_; clear F fa; intro fa F
          refine F.vl (R_load rfl (F.at rfl) Try.underlying29 rfl (xr28 _ EL 0 _ rfl)) ?_; clear F fa; intro fa F
          rw [hz1] at F
          refine F.vl (R_len rfl rfl (F.at rfl) Try.underlying29) ?_; clear F fa; intro fa F
          refine F.vl (R_lss rfl (F.at rfl) (F.at rfl)) ?_; clear F fa; intro fa F
          refine wpList_nil ?_
          refine hK27 _ _ ?_
          clear hK27
          refine cd_if F rfl (fun hc74 => ?_) (fun hc74 => ?_)
          · skip
            refine wp_skip ?_
            refine hK26 _ _ ?_
            clear hK26
            refine wp_seq_k fun K29 hK29 => ?_
            refine wp_block ?_
            refine wp_region_lit ?_
            refine F.mv ?_; clear F fa; intro fa F
            refine F.mv ?_; clear F fa; intro fa F
            cases hg2 : bm
            · skip
              replace F := F.re (k := 78) rfl (congrArg Value.bool hg2)
              refine F.mv ?_ (hw := (wantT F rfl rfl (by decide) rfl)); clear F fa; intro fa F
              refine F.mv ?_ (hw := (wantT F rfl rfl (by decide) rfl)); clear F fa; intro fa F
              refine F.mv ?_ (hw := (wantT F rfl rfl (by decide) rfl)); clear F fa; intro fa F
              obtain ⟨xb30, xo30, xa30, xr30⟩ := HLs.out i (by omega)
              refine F.vl (R_ixSlice (sz := 1) rfl ((F.at rfl).trans (xa30 _ _)) (F.at rfl) Try.underlying50 (by kernel_rfl) (by omega) (by omega)) ?_ (hw := (wantT F rfl rfl (by decide) rfl)); clear F fa; intro fa F
              refine F.vl (R_load rfl (F.at rfl) Try.underlying29 rfl (xr30 _ EL 0 _ rfl)) ?_ (hw := (wantT F rfl rfl (by decide) rfl)); clear F fa; intro fa F
              rw [hz1] at F
              refine F.mv ?_ (hw := (wantT F rfl rfl (by decide) rfl)); clear F fa; intro fa F
              obtain ⟨xb31, xo31, xa31, xr31⟩ := HZ.out k (by omega)
              refine F.vl (R_ixSlice (sz := 1) rfl ((F.at rfl).trans (xa31 _ _)) (F.at rfl) Try.underlying29 (by kernel_rfl) (by omega) (by omega)) ?_ (hw := (wantT F rfl rfl (by decide) rfl)); clear F fa; intro fa F
              refine F.vl (R_load rfl (F.at rfl) Try.underlying3 rfl (xr31 _ EL 0 _ rfl)) ?_ (hw := (wantT F rfl rfl (by decide) rfl)); clear F fa; intro fa F
              refine sq_call F rfl (by decide) (wantT F rfl rfl (by decide) rfl) (R_callV rfl rfl Try.call60 (mpS (F.at rfl) (mpS (F.at rfl) mp0))) (at_row _ (xs := ringL t) ⟨qa, qc, rfl, HG.out.ext EQ (by simp)⟩ (by obtain ⟨R, -, h⟩ := ring_zero hokT t8 hrE; rw [h]; exact Nat.le_trans (listTo_len _ _) (by omega))) fun e w13 hR => ?_
              obtain ⟨rfl, e9⟩ := hR
              refine ⟨_, rfl, ?_⟩; clear F fa; intro fa F
              replace q3 := (e9).keep0 q3
              replace E := ext_same E (e9)
              replace EO := ext_same EO (e9)
              replace EP := ext_same EP (e9)
              replace EQ := ext_same EQ (e9)
              replace EL := ext_same EL (e9)
              replace EL1 := ext_same EL1 (e9)
              replace EL2 := ext_same EL2 (e9)
              clear e9
              refine F.vl (R_geq rfl (F.at rfl) (ev_c fa _)) ?_ (hw := (wantT F rfl rfl (by decide) rfl)); clear F fa; intro fa F
              refine F.vl (R_pickF rfl (F.at rfl) (F.at rfl)) ?_; clear F fa; intro fa F
              refine F.as ?_; clear F fa; intro fa F
              refine wpList_nil ?_
              first | have hm2 := Lib.hid (met_step (hm.out (by assumption))) | have hm2 : Hid (true = false → ∀ j, j < k + 1 → ¬ ((L.getD i (.bool true, [])).2.getD j 0 ∈ ringL t)) := Lib.hid (fun h => by cases h)
              refine hK29 _ _ ?_
              clear hK29
              refine wp_region_lit ?_
              refine F.mv ?_; clear F fa; intro fa F
              refine F.vl (R_add rfl (F.at rfl) (ev_c fa _) (by omega) (by omega)) ?_; clear F fa; intro fa F
              refine F.as ?_; clear F fa; intro fa F
              refine wpList_nil ?_
              show _ ∧ _
              exact ⟨by omega, _, ⟨_, rfl, EL2, hm2⟩, F.sub (.c 13 rfl (.c 14 rfl (.c 3 rfl (.c 4 rfl (.c 5 rfl (.c 6 rfl (.c 7 rfl (.c 8 rfl (.c 9 rfl (.c 10 rfl .n))))))))))⟩
            · skip
              replace F := F.re (k := 78) rfl (congrArg Value.bool hg2)
              refine sq_no F rfl (by decide) (wantF F rfl rfl (by decide) rfl (by decide)) ?_; clear F fa; intro fa F
              refine sq_no F rfl (by decide) (wantF F rfl rfl (by decide) rfl (by decide)) ?_; clear F fa; intro fa F
              refine sq_no F rfl (by decide) (wantF F rfl rfl (by decide) rfl (by decide)) ?_; clear F fa; intro fa F
              refine sq_no F rfl (by decide) (wantF F rfl rfl (by decide) rfl (by decide)) ?_; clear F fa; intro fa F
              refine sq_no F rfl (by decide) (wantF F rfl rfl (by decide) rfl (by decide)) ?_; clear F fa; intro fa F
              refine sq_no F rfl (by decide) (wantF F rfl rfl (by decide) rfl (by decide)) ?_; clear F fa; intro fa F
              refine sq_no F rfl (by decide) (wantF F rfl rfl (by decide) rfl (by decide)) ?_; clear F fa; intro fa F
              refine sq_no F rfl (by decide) (wantF F rfl rfl (by decide) rfl (by decide)) ?_; clear F fa; intro fa F
              refine sq_no F rfl (by decide) (wantF F rfl rfl (by decide) rfl (by decide)) ?_; clear F fa; intro fa F
              refine sq_no F rfl (by decide) (wantF F rfl rfl (by decide) rfl (by decide)) ?_; clear F fa; intro fa F
              refine F.vl (R_pickT rfl (F.at rfl) (ev_c fa _)) ?_; clear F fa; intro fa F
              refine F.as ?_; clear F fa; intro fa F
              refine wpList_nil ?_
              first | have hm2 := Lib.hid (met_step (hm.out (by assumption))) | have hm2 : Hid (true = false → ∀ j, j < k + 1 → ¬ ((L.getD i (.bool true, [])).2.getD j 0 ∈ ringL t)) := Lib.hid (fun h => by cases h)
              refine hK29 _ _ ?_
              clear hK29
              refine wp_region_lit ?_
              refine F.mv ?_; clear F fa; intro fa F
              refine F.vl (R_add rfl (F.at rfl) (ev_c fa _) (by omega) (by omega)) ?_; clear F fa; intro fa F
              refine F.as ?_; clear F fa; intro fa F
              refine wpList_nil ?_
              show _ ∧ _
              exact ⟨by omega, _, ⟨_, rfl, EL2, hm2⟩, F.sub (.c 13 rfl (.c 14 rfl (.c 3 rfl (.c 4 rfl (.c 5 rfl (.c 6 rfl (.c 7 rfl (.c 8 rfl (.c 9 rfl (.c 10 rfl .n))))))))))⟩
          · skip
            refine wp_exit ?_
            have hbm : bm = true := met_all hokT t6 hcan hrE (k := k) (by rw [← hLs.out i (by omega)]; omega) (by rw [← hLs.out i (by omega)]; exact hm.out)
            refine hK24 _ _ ?_
            clear hK24
            refine wp_seq_k fun K32 hK32 => ?_
            refine wp_region_lit ?_
            refine F.mv ?_; clear F fa; intro fa F
            refine F.vl (R_not rfl (F.at rfl)) ?_; clear F fa; intro fa F
            refine wpList_nil ?_
            refine hK32 _ _ ?_
            clear hK32
            refine cd_Fb F rfl ((by rw [hbm]; rfl)) ?_
            refine wp_skip ?_
            refine hK11 _ _ ?_
            clear hK11
            refine wp_region_lit ?_
            refine F.mv ?_; clear F fa; intro fa F
            refine F.vl (R_add rfl (F.at rfl) (ev_c fa _) (by omega) (by omega)) ?_; clear F fa; intro fa F
            refine F.as ?_; clear F fa; intro fa F
            refine wpList_nil ?_
            show _ ∧ _
            exact ⟨by omega, _, ⟨_, rfl, EL1, hf2⟩, F.sub (.c 9 rfl (.c 10 rfl (.c 3 rfl (.c 4 rfl (.c 5 rfl (.c 6 rfl (.c 7 rfl (.c 8 rfl .n))))))))⟩
      · skip
        replace F := F.re (k := 53) rfl (congrArg Value.bool hg1)
        refine F.mv ?_ (hw := (wantT F rfl rfl (by decide) rfl)); clear F fa; intro fa F
        have hwr := wrongR_ok (find_at (p := fun s => bdB t (s : Nat)) (show i < (setsL t.rd.length).length by omega) (hf.out.1 (by assumption)) hcan)
        refine F.vl (R_neqB (b := false) rfl (F.at rfl) (ev_c fa _) (decide_eq_true (hwr.1))) ?_ (hw := (wantT F rfl rfl (by decide) rfl)); clear F fa; intro fa F
        refine F.mv ?_ (hw := (wantT F rfl rfl (by decide) rfl)); clear F fa; intro fa F
        refine F.mv ?_ (hw := (wantT F rfl rfl (by decide) rfl)); clear F fa; intro fa F
        refine F.mv ?_ (hw := (wantT F rfl rfl (by decide) rfl)); clear F fa; intro fa F
        refine F.mv ?_ (hw := (wantT F rfl rfl (by decide) rfl)); clear F fa; intro fa F
        obtain ⟨xb33, xo33, xa33, xr33⟩ := HLs.out i (by omega)
        refine F.vl (R_ixSlice (sz := 1) rfl ((F.at rfl).trans (xa33 _ _)) (F.at rfl) Try.underlying50 (by kernel_rfl) (by omega) (by omega)) ?_ (hw := (wantT F rfl rfl (by decide) rfl)); clear F fa; intro fa F
        refine F.vl (R_load rfl (F.at rfl) Try.underlying29 rfl (xr33 _ EL 0 _ rfl)) ?_ (hw := (wantT F rfl rfl (by decide) rfl)); clear F fa; intro fa F
        refine sq_call F rfl (by decide) (wantT F rfl rfl (by decide) rfl) (R_callV rfl rfl Try.call50 (mpS (F.at rfl) (mpS (F.at rfl) mp0))) (same_rows ⟨pa, pc, rfl, HW.out.ext EP (by simp)⟩ ((HLr.out _ hmm).ext EL) (by rw [hwr.2, hLs.out i (by omega)]) (by rw [hwr.2]; exact Nat.le_trans (listTo_len _ _) (by omega))) fun e w14 hR => ?_
        obtain ⟨rfl, e9⟩ := hR
        refine ⟨_, rfl, ?_⟩; clear F fa; intro fa F
        replace q3 := (e9).keep0 q3
        replace E := ext_same E (e9)
        replace EO := ext_same EO (e9)
        replace EP := ext_same EP (e9)
        replace EQ := ext_same EQ (e9)
        replace EL := ext_same EL (e9)
        replace EL1 := ext_same EL1 (e9)
        clear e9
        refine F.vl (R_not rfl (F.at rfl)) ?_ (hw := (wantT F rfl rfl (by decide) rfl)); clear F fa; intro fa F
        refine F.vl (R_pickF rfl (F.at rfl) (F.at rfl)) ?_ (hw := (wantT F rfl rfl (by decide) rfl)); clear F fa; intro fa F
        refine F.vl (R_pickT rfl (F.at rfl) (F.at rfl)) ?_; clear F fa; intro fa F
        refine wpList_nil ?_
        refine hK19 _ _ ?_
        clear hK19
        refine cd_F F rfl ?_
        refine wp_skip ?_
        refine hK18 _ _ ?_
        clear hK18
        refine wp_seq_k fun K34 hK34 => ?_
        refine wp_region_lit ?_
        refine F.vl (R_assign rfl (ev_c fa _)) ?_; clear F fa; intro fa F
        refine wpList_nil ?_
        refine hK34 _ _ ?_
        clear hK34
        refine wp_seq_k fun K35 hK35 => ?_
        refine wp_seq_k fun K36 hK36 => ?_
        refine wp_region_lit ?_
        refine F.mv ?_; clear F fa; intro fa F
        refine F.vl (R_neqD rfl (F.at rfl) (ev_c fa _)) ?_; clear F fa; intro fa F
        refine wpList_nil ?_
        refine hK36 _ _ ?_
        clear hK36
        refine cd_if F rfl (fun hc67 => ?_) (fun hc67 => ?_)
        · skip
          refine wp_exit ?_
          refine hK11 _ _ ?_
          clear hK11
          refine wp_region_lit ?_
          refine F.mv ?_; clear F fa; intro fa F
          refine F.vl (R_add rfl (F.at rfl) (ev_c fa _) (by omega) (by omega)) ?_; clear F fa; intro fa F
          refine F.as ?_; clear F fa; intro fa F
          refine wpList_nil ?_
          show _ ∧ _
          exact ⟨by omega, _, ⟨_, rfl, EL1, hf2⟩, F.sub (.c 9 rfl (.c 10 rfl (.c 3 rfl (.c 4 rfl (.c 5 rfl (.c 6 rfl (.c 7 rfl (.c 8 rfl .n))))))))⟩
        · skip
          refine wp_skip ?_
          refine hK35 _ _ ?_
          clear hK35
          refine wp_seq_k fun K37 hK37 => ?_
          obtain ⟨za, zc, hz1, hz2⟩ := HLr.out _ hmm
          have HZ := Lib.hid (slAt_of_rows hz2 0)
          have hrE : ringE t = 0 := by omega
          refine wp_region_lit ?_
          refine F.vl (R_assign rfl (ev_c fa _)) ?_; clear F fa; intro fa F
          refine wpList_nil ?_
          refine hK37 _ _ ?_
          clear hK37
          refine wp_seq_k fun K38 hK38 => ?_
          refine wp_seq_k fun K39 hK39 => ?_
          refine wp_region_lit ?_
          refine F.vl (R_assign rfl (ev_c fa _)) ?_; clear F fa; intro fa F
          refine wpList_nil ?_
          refine hK39 _ _ ?_
          clear hK39
          refine wp_block ?_
          have F0 := F.sub (.c 3 rfl (.c 4 rfl (.c 5 rfl (.c 6 rfl (.c 7 rfl (.c 8 rfl (.c 9 rfl (.c 10 rfl .n))))))))
          refine lp_for F0 ((L.getD i (.bool true, [])).2.length) (fun k Lv W => ∃ bm : Bool, Lv = [(13, .bool bm), (14, .int .i64 ((k : Nat) : Int))] ∧ Ext [] w14 W ∧ Hid (bm = false → ∀ j, j < k → ¬ ((L.getD i (.bool true, [])).2.getD j 0 ∈ ringL t))) ⟨_, ⟨false, rfl, Ext.refl _ _, Lib.hid fun _ j hj => absurd hj (by omega)⟩, F.sub (.c 13 rfl (.c 14 rfl (.c 3 rfl (.c 4 rfl (.c 5 rfl (.c 6 rfl (.c 7 rfl (.c 8 rfl (.c 9 rfl (.c 10 rfl .n))))))))))⟩ ?_
          clear F F0
          rintro k _ fa w15 hi2 ⟨bm, rfl, EL2, hm⟩ F
          have q3 := EL2.keep0 q3
          have E := E.nil EL2
          have EO := EO.nil EL2
          have EP := EP.nil EL2
          have EQ := EQ.nil EL2
          have EL := EL.nil EL2
          have EL1 := EL1.nil EL2
          refine wp_seq_k fun K40 hK40 => ?_
          refine wp_seq_k fun K41 hK41 => ?_
          refine wp_region_lit ?_
          refine F.mv ?_; clear F fa; intro fa F
          refine F.mv ?_; clear F fa; intro fa F
          refine F.mv ?_; clear F fa; intro fa F
          obtain ⟨xb42, xo42, xa42, xr42⟩ := HLs.out i (by omega)
          refine F.vl (R_ixSlice (sz := 1) rfl ((F.at rfl).trans (xa42 _ _)) (F.at rfl) Try.underlying50 (by kernel_rfl) (by omega) (by omega)) ?_; clear F fa; intro fa F
          refine F.vl (R_load rfl (F.at rfl) Try.underlying29 rfl (xr42 _ EL 0 _ rfl)) ?_; clear F fa; intro fa F
          rw [hz1] at F
          refine F.vl (R_len rfl rfl (F.at rfl) Try.underlying29) ?_; clear F fa; intro fa F
          refine F.vl (R_lss rfl (F.at rfl) (F.at rfl)) ?_; clear F fa; intro fa F
          refine wpList_nil ?_
          refine hK41 _ _ ?_
          clear hK41
          refine cd_if F rfl (fun hc74 => ?_) (fun hc74 => ?_)
          · skip
            refine wp_skip ?_
            refine hK40 _ _ ?_
            clear hK40
            refine wp_seq_k fun K43 hK43 => ?_
            refine wp_block ?_
            refine wp_region_lit ?_
            refine F.mv ?_; clear F fa; intro fa F
            refine F.mv ?_; clear F fa; intro fa F
            cases hg3 : bm
            · skip
              replace F := F.re (k := 78) rfl (congrArg Value.bool hg3)
              refine F.mv ?_ (hw := (wantT F rfl rfl (by decide) rfl)); clear F fa; intro fa F
              refine F.mv ?_ (hw := (wantT F rfl rfl (by decide) rfl)); clear F fa; intro fa F
              refine F.mv ?_ (hw := (wantT F rfl rfl (by decide) rfl)); clear F fa; intro fa F
              obtain ⟨xb44, xo44, xa44, xr44⟩ := HLs.out i (by omega)
              refine F.vl (R_ixSlice (sz := 1) rfl ((F.at rfl).trans (xa44 _ _)) (F.at rfl) Try.underlying50 (by kernel_rfl) (by omega) (by omega)) ?_ (hw := (wantT F rfl rfl (by decide) rfl)); clear F fa; intro fa F
              refine F.vl (R_load rfl (F.at rfl) Try.underlying29 rfl (xr44 _ EL 0 _ rfl)) ?_ (hw := (wantT F rfl rfl (by decide) rfl)); clear F fa; intro fa F
              rw [hz1] at F
              refine F.mv ?_ (hw := (wantT F rfl rfl (by decide) rfl)); clear F fa; intro fa F
              obtain ⟨xb45, xo45, xa45, xr45⟩ := HZ.out k (by omega)
              refine F.vl (R_ixSlice (sz := 1) rfl ((F.at rfl).trans (xa45 _ _)) (F.at rfl) Try.underlying29 (by kernel_rfl) (by omega) (by omega)) ?_ (hw := (wantT F rfl rfl (by decide) rfl)); clear F fa; intro fa F
              refine F.vl (R_load rfl (F.at rfl) Try.underlying3 rfl (xr45 _ EL 0 _ rfl)) ?_ (hw := (wantT F rfl rfl (by decide) rfl)); clear F fa; intro fa F
              refine sq_call F rfl (by decide) (wantT F rfl rfl (by decide) rfl) (R_callV rfl rfl Try.call60 (mpS (F.at rfl) (mpS (F.at rfl) mp0))) (at_row _ (xs := ringL t) ⟨qa, qc, rfl, HG.out.ext EQ (by simp)⟩ (by obtain ⟨R, -, h⟩ := ring_zero hokT t8 hrE; rw [h]; exact Nat.le_trans (listTo_len _ _) (by omega))) fun e w16 hR => ?_
              obtain ⟨rfl, e9⟩ := hR
              refine ⟨_, rfl, ?_⟩; clear F fa; intro fa F
              replace q3 := (e9).keep0 q3
              replace E := ext_same E (e9)
              replace EO := ext_same EO (e9)
              replace EP := ext_same EP (e9)
              replace EQ := ext_same EQ (e9)
              replace EL := ext_same EL (e9)
              replace EL1 := ext_same EL1 (e9)
              replace EL2 := ext_same EL2 (e9)
              clear e9
              refine F.vl (R_geq rfl (F.at rfl) (ev_c fa _)) ?_ (hw := (wantT F rfl rfl (by decide) rfl)); clear F fa; intro fa F
              refine F.vl (R_pickF rfl (F.at rfl) (F.at rfl)) ?_; clear F fa; intro fa F
              refine F.as ?_; clear F fa; intro fa F
              refine wpList_nil ?_
              first | have hm2 := Lib.hid (met_step (hm.out (by assumption))) | have hm2 : Hid (true = false → ∀ j, j < k + 1 → ¬ ((L.getD i (.bool true, [])).2.getD j 0 ∈ ringL t)) := Lib.hid (fun h => by cases h)
              refine hK43 _ _ ?_
              clear hK43
              refine wp_region_lit ?_
              refine F.mv ?_; clear F fa; intro fa F
              refine F.vl (R_add rfl (F.at rfl) (ev_c fa _) (by omega) (by omega)) ?_; clear F fa; intro fa F
              refine F.as ?_; clear F fa; intro fa F
              refine wpList_nil ?_
              show _ ∧ _
              exact ⟨by omega, _, ⟨_, rfl, EL2, hm2⟩, F.sub (.c 13 rfl (.c 14 rfl (.c 3 rfl (.c 4 rfl (.c 5 rfl (.c 6 rfl (.c 7 rfl (.c 8 rfl (.c 9 rfl (.c 10 rfl .n))))))))))⟩
            · skip
              replace F := F.re (k := 78) rfl (congrArg Value.bool hg3)
              refine sq_no F rfl (by decide) (wantF F rfl rfl (by decide) rfl (by decide)) ?_; clear F fa; intro fa F
              refine sq_no F rfl (by decide) (wantF F rfl rfl (by decide) rfl (by decide)) ?_; clear F fa; intro fa F
              refine sq_no F rfl (by decide) (wantF F rfl rfl (by decide) rfl (by decide)) ?_; clear F fa; intro fa F
              refine sq_no F rfl (by decide) (wantF F rfl rfl (by decide) rfl (by decide)) ?_; clear F fa; intro fa F
              refine sq_no F rfl (by decide) (wantF F rfl rfl (by decide) rfl (by decide)) ?_; clear F fa; intro fa F
              refine sq_no F rfl (by decide) (wantF F rfl rfl (by decide) rfl (by decide)) ?_; clear F fa; intro fa F
              refine sq_no F rfl (by decide) (wantF F rfl rfl (by decide) rfl (by decide)) ?_; clear F fa; intro fa F
              refine sq_no F rfl (by decide) (wantF F rfl rfl (by decide) rfl (by decide)) ?_; clear F fa; intro fa F
              refine sq_no F rfl (by decide) (wantF F rfl rfl (by decide) rfl (by decide)) ?_; clear F fa; intro fa F
              refine sq_no F rfl (by decide) (wantF F rfl rfl (by decide) rfl (by decide)) ?_; clear F fa; intro fa F
              refine F.vl (R_pickT rfl (F.at rfl) (ev_c fa _)) ?_; clear F fa; intro fa F
              refine F.as ?_; clear F fa; intro fa F
              refine wpList_nil ?_
              first | have hm2 := Lib.hid (met_step (hm.out (by assumption))) | have hm2 : Hid (true = false → ∀ j, j < k + 1 → ¬ ((L.getD i (.bool true, [])).2.getD j 0 ∈ ringL t)) := Lib.hid (fun h => by cases h)
              refine hK43 _ _ ?_
              clear hK43
              refine wp_region_lit ?_
              refine F.mv ?_; clear F fa; intro fa F
              refine F.vl (R_add rfl (F.at rfl) (ev_c fa _) (by omega) (by omega)) ?_; clear F fa; intro fa F
              refine F.as ?_; clear F fa; intro fa F
              refine wpList_nil ?_
              show _ ∧ _
              exact ⟨by omega, _, ⟨_, rfl, EL2, hm2⟩, F.sub (.c 13 rfl (.c 14 rfl (.c 3 rfl (.c 4 rfl (.c 5 rfl (.c 6 rfl (.c 7 rfl (.c 8 rfl (.c 9 rfl (.c 10 rfl .n))))))))))⟩
          · skip
            refine wp_exit ?_
            have hbm : bm = true := met_all hokT t6 hcan hrE (k := k) (by rw [← hLs.out i (by omega)]; omega) (by rw [← hLs.out i (by omega)]; exact hm.out)
            refine hK38 _ _ ?_
            clear hK38
            refine wp_seq_k fun K46 hK46 => ?_
            refine wp_region_lit ?_
            refine F.mv ?_; clear F fa; intro fa F
            refine F.vl (R_not rfl (F.at rfl)) ?_; clear F fa; intro fa F
            refine wpList_nil ?_
            refine hK46 _ _ ?_
            clear hK46
            refine cd_Fb F rfl ((by rw [hbm]; rfl)) ?_
            refine wp_skip ?_
            refine hK11 _ _ ?_
            clear hK11
            refine wp_region_lit ?_
            refine F.mv ?_; clear F fa; intro fa F
            refine F.vl (R_add rfl (F.at rfl) (ev_c fa _) (by omega) (by omega)) ?_; clear F fa; intro fa F
            refine F.as ?_; clear F fa; intro fa F
            refine wpList_nil ?_
            show _ ∧ _
            exact ⟨by omega, _, ⟨_, rfl, EL1, hf2⟩, F.sub (.c 9 rfl (.c 10 rfl (.c 3 rfl (.c 4 rfl (.c 5 rfl (.c 6 rfl (.c 7 rfl (.c 8 rfl .n))))))))⟩
  · skip
    refine wp_exit ?_
    have hfin := wrong_end hf.out (by omega)
    refine hK7 _ _ ?_
    clear hK7
    refine wp_seq_k fun K47 hK47 => ?_
    refine wp_region_lit ?_
    refine F.mv ?_; clear F fa; intro fa F
    refine F.mv ?_; clear F fa; intro fa F
    refine F.vl (R_eqlD rfl (F.at rfl) (ev_c fa _)) ?_; clear F fa; intro fa F
    refine F.vl ((R_eqlBB rfl (F.at rfl) (F.at rfl) Try.underlying4)) ?_; clear F fa; intro fa F
    rw [hfin] at F
    refine F.mv ?_; clear F fa; intro fa F
    refine F.mv ?_ (hw := (wantT F rfl rfl (by decide) rfl)); clear F fa; intro fa F
    refine F.vl (R_eqlD rfl (F.at rfl) (ev_c fa _)) ?_ (hw := (wantT F rfl rfl (by decide) rfl)); clear F fa; intro fa F
    refine F.mv ?_ (hw := (wantT F rfl rfl (by decide) rfl)); clear F fa; intro fa F
    by_cases hg4 : ((ringE t) = 0)
    · skip
      replace F := F.re (k := 99) rfl (congrArg Value.bool (decide_eq_true hg4))
      refine sq_no F rfl (by decide) (wantF F rfl rfl (by decide) rfl (by decide)) ?_; clear F fa; intro fa F
      refine sq_no F rfl (by decide) (wantF F rfl rfl (by decide) rfl (by decide)) ?_; clear F fa; intro fa F
      refine F.vl (R_pickT rfl (F.at rfl) (ev_c fa _)) ?_ (hw := (wantT F rfl rfl (by decide) rfl)); clear F fa; intro fa F
      refine F.vl (R_pickT rfl (F.at rfl) (F.at rfl)) ?_; clear F fa; intro fa F
      refine F.mv ?_; clear F fa; intro fa F
      refine sq_call F rfl (by decide) (wantT F rfl rfl (by decide) rfl) (R_callV rfl rfl Try.call25 mp0) (taken_any _) fun e w17 hR => ?_
      obtain ⟨rfl, e9⟩ := hR
      refine ⟨_, rfl, ?_⟩; clear F fa; intro fa F
      replace q3 := (e9).keep0 q3
      replace E := ext_same E (e9)
      replace EO := ext_same EO (e9)
      replace EP := ext_same EP (e9)
      replace EQ := ext_same EQ (e9)
      replace EL := ext_same EL (e9)
      clear e9
      refine F.vl (R_pickT rfl (F.at rfl) (F.at rfl)) ?_; clear F fa; intro fa F
      refine F.as ?_; clear F fa; intro fa F
      refine wpList_nil ?_
      refine hK47 _ _ ?_
      clear hK47
      refine wp_ret ?_
      (try simp only [Exit.inBlock, Exit.then])
      refine rt_v F (rs_1 F rfl rfl) ?_
      exact ⟨rfl, E⟩
    · skip
      replace F := F.re (k := 99) rfl (congrArg Value.bool (decide_eq_false hg4))
      refine F.mv ?_ (hw := (wantT F rfl rfl (by decide) rfl)); clear F fa; intro fa F
      refine F.vl (R_eqlB (b := true) rfl (F.at rfl) (ev_c fa _) (decide_eq_true ((by omega)))) ?_ (hw := (wantT F rfl rfl (by decide) rfl)); clear F fa; intro fa F
      refine F.vl (R_pickF rfl (F.at rfl) (F.at rfl)) ?_ (hw := (wantT F rfl rfl (by decide) rfl)); clear F fa; intro fa F
      refine F.vl (R_pickT rfl (F.at rfl) (F.at rfl)) ?_; clear F fa; intro fa F
      refine F.mv ?_; clear F fa; intro fa F
      refine sq_call F rfl (by decide) (wantT F rfl rfl (by decide) rfl) (R_callV rfl rfl Try.call25 mp0) (taken_any _) fun e w18 hR => ?_
      obtain ⟨rfl, e9⟩ := hR
      refine ⟨_, rfl, ?_⟩; clear F fa; intro fa F
      replace q3 := (e9).keep0 q3
      replace E := ext_same E (e9)
      replace EO := ext_same EO (e9)
      replace EP := ext_same EP (e9)
      replace EQ := ext_same EQ (e9)
      replace EL := ext_same EL (e9)
      clear e9
      refine F.vl (R_pickT rfl (F.at rfl) (F.at rfl)) ?_; clear F fa; intro fa F
      refine F.as ?_; clear F fa; intro fa F
      refine wpList_nil ?_
      refine hK47 _ _ ?_
      clear hK47
      refine wp_ret ?_
      (try simp only [Exit.inBlock, Exit.then])
      refine rt_v F (rs_1 F rfl rfl) ?_
      exact ⟨rfl, E⟩
end Go.Proofs.Ytholfdgebdlgjaa
