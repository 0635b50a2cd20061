/- The walk of some: tapes with some of their readings. No conditions. -/
import Derived.Test.YtholfdgebdlgjaaVo
namespace Go.Proofs.Ytholfdgebdlgjaa
open Go.RowKit
set_option linter.unusedVariables false
set_option linter.unusedSimpArgs false
theorem R_neqBB {P : Program} {ρ : Operand → Value} {o : Oper} {w : World} {x y : Operand} {t t' : TypeId} {a b : Bool} (ho : o.op = .binOp .neq t x y t') (hx : ρ x = .bool a) (hy : ρ y = .bool b) (hu : P.underlying t = some .bool) : (execOp ρ o).run P w = .ok (.value (.bool (a != b))) w := by
  unfold execOp
  cases a <;> cases b <;> simp [ho, hx, hy, eqGuard, binOp, Op.equal, go_sem, run_equalIn_bool w 9999 t _ _ hu, Op.maxDepth]
/-- Which readings stay, and the tapes with just these. -/
def keepB (xs : List Int) (but : Bool) (i : Nat) : Bool := (decide (atI xs i ≥ 0)) != but
def someR (t : Tp) (xs : List Int) (but : Bool) (n : Nat) : List (Int × Int × Int × Int) := ((List.range n).filter (keepB xs but)).map fun i => t.rd.getD i (0, 0, 0, 0)
def someT (t : Tp) (xs : List Int) (but : Bool) : Tp := { t with rd := someR t xs but t.rd.length }
theorem someR_yes {t : Tp} {xs : List Int} {but : Bool} {n : Nat} (h : keepB xs but n = true) : someR t xs but (n + 1) = someR t xs but n ++ [t.rd.getD n (0, 0, 0, 0)] := by
  simp [someR, List.range_succ, List.filter_append, h]
theorem someR_no {t : Tp} {xs : List Int} {but : Bool} {n : Nat} (h : keepB xs but n = false) : someR t xs but (n + 1) = someR t xs but n := by
  simp [someR, List.range_succ, List.filter_append, h]
theorem someR_len (t : Tp) (xs : List Int) (but : Bool) (n : Nat) : (someR t xs but n).length ≤ n := by
  unfold someR
  rw [List.length_map]
  exact Nat.le_trans (List.length_filter_le _ _) (by simp)
theorem rows_of_owns4 {w : World} {base : Nat} {v : Value} {xs : List (Int × Int × Int × Int)} (h : w.ownsRow base 66 4 v xs.length (flatR xs)) : IsRows w v 4 (xs.map rdRow) := rows_of_owns (row := rdRow) h (fun _ => rfl)
def SomePost (t : Tp) (xs : List Int) (but : Bool) (gv lv : Value) (w : World) (e : Ending) (w' : World) : Prop :=
  ∃ ra c, e = .returned (tpV (someT t xs but) gv (.slice ra (someT t xs but).rd.length c) lv) ∧ IsTp w' gv (.slice ra (someT t xs but).rd.length c) lv (someT t xs but) ∧ Ext [] w w'
set_option maxRecDepth 100000 in
theorem some_any (t : Tp) (xs : List Int) (but : Bool) (ga ra la : Option Addr) (gc rc lc : Nat) (xv : Value) (w : World) (h : IsTp w (.slice ga t.gr.length gc) (.slice ra t.rd.length rc) (.slice la t.lk.length lc) t) (hx : RowOf w xv xs)
    (hl : t.rd.length ≤ 1000) (hxl : xs.length ≤ 1000) (hx1 : xv.oneCell' = true) :
    Calls Try.prog 49 #[tpV t (.slice ga t.gr.length gc) (.slice ra t.rd.length rc) (.slice la t.lk.length lc), xv, .bool but] w (SomePost t xs but (.slice ga t.gr.length gc) (.slice la t.lk.length lc) w) := by
  have E : Ext [] w w := Ext.refl _ _
  have HRd := Lib.hid (slAt_of_rows h.rd (0, 0, 0, 0))
  have HT := Lib.hid h
  have HX := Lib.hid hx
  clear h hx
  have orr : w.ownsRow w.heap.size 66 4 (.slice none 0 0) 0 (flatR []) := World.ownsRow_nil _ _ _ _
  unfold tpV
  refine calls_has 35 Try.func49 rfl Try.ntmps49 (Nat.le_of_ble_eq_true rfl) ?_
  intro fa F
  refine wp_seq_k fun K1 hK1 => ?_
  refine wp_region_lit ?_
  refine sq_new F rfl (by decide) rfl (R_box rfl (F.at rfl)) ?_; clear F fa; intro fa w1 F hw
  obtain ⟨n3, hn⟩ : ∃ n, n = w.heap.size := ⟨_, rfl⟩
  rw [← hn] at F
  have s3 : w.heap.size ≤ n3 := Nat.le_of_eq hn.symm
  have l3_E : w.heap.size ≤ n3 := by rw [hn]; exact E.size
  have o3_orr := Lib.hid (own_ne_new orr hn)
  replace orr := owns_alloc hw orr
  replace E := ext_alloc E hw
  have q3 := new_row hw hn
  clear hw hn
  refine sq_new F rfl (by decide) rfl (R_alloc rfl Try.zeroValue28) ?_; clear F fa; intro fa w2 F hw
  obtain ⟨n6, hn⟩ : ∃ n, n = w1.heap.size := ⟨_, rfl⟩
  rw [← hn] at F
  have s6 : w1.heap.size ≤ n6 := Nat.le_of_eq hn.symm
  have l6_E : w.heap.size ≤ n6 := by rw [hn]; exact E.size
  have m6_3 : n3 < n6 := by rw [hn]; exact blk_lt q3
  have o6_orr := Lib.hid (own_ne_new orr hn)
  replace orr := owns_alloc hw orr
  replace q3 := keep_alloc hw q3
  replace E := ext_alloc E hw
  have q6 := new_row hw hn
  clear hw hn
  refine wpList_nil ?_
  refine hK1 _ _ ?_
  clear hK1
  refine wp_seq_k fun K2 hK2 => ?_
  refine wp_region_lit ?_
  refine F.vl (R_loadBlk rfl (F.at rfl) Try.underlying28 rfl (by kernel_rfl) q3) ?_; clear F fa; intro fa F
  refine sq_new F rfl (by decide) rfl (R_alloc rfl Try.zeroValue28) ?_; clear F fa; intro fa w3 F hw
  obtain ⟨n7, hn⟩ : ∃ n, n = w2.heap.size := ⟨_, rfl⟩
  rw [← hn] at F
  have s7 : w2.heap.size ≤ n7 := Nat.le_of_eq hn.symm
  have l7_E : w.heap.size ≤ n7 := by rw [hn]; exact E.size
  have m7_3 : n3 < n7 := by rw [hn]; exact blk_lt q3
  have m7_6 : n6 < n7 := by rw [hn]; exact blk_lt q6
  have o7_orr := Lib.hid (own_ne_new orr hn)
  replace orr := owns_alloc hw orr
  replace q3 := keep_alloc hw q3
  replace q6 := keep_alloc hw q6
  replace E := ext_alloc E hw
  have q7 := new_row hw hn
  clear hw hn
  refine sq_to rfl rfl (R_storeRow rfl (F.at rfl) (F.at rfl) (by kernel_rfl) (by first | (simp [Value.oneCell']; done) | (simp [Value.oneCell', grRow, rdRow, lkRow]; done)) q7 rfl) ?_; intro w4 hw
  replace orr := owns_cellsX hw orr (own_ne_type orr q7 (by decide))
  replace q3 := keep_cells hw q3 (by omega)
  replace q6 := keep_cells hw q6 (by omega)
  replace q7 := put_row hw q7 rfl
  replace E := ext_cells E hw (fun h => by first | exact absurd h (by omega) | simp)
  clear hw
  refine wpList_nil ?_
  refine hK2 _ _ ?_
  clear hK2
  refine wp_seq_k fun K3 hK3 => ?_
  refine wp_region_lit ?_
  refine F.vl (R_field rfl (F.at rfl) Try.underlying28 rfl (n := 9) (sz := 1) rfl (by kernel_rfl) (by decide)) ?_; clear F fa; intro fa F
  refine sq_to rfl rfl (R_store rfl (F.at rfl) (ev_c fa _) rfl (by kernel_rfl) ((cells_of_block q7 9).trans (getS (getS (getS (getS (getS (getS (getS (getS (getS (get0))))))))))) (free_of_block q7 9)) ?_; intro w5 hw
  replace orr := owns_cellX hw orr (own_ne_type orr q7 (by decide))
  replace q3 := keep_cell hw q3 (by omega)
  replace q6 := keep_cell hw q6 (by omega)
  replace q7 := put_cell hw q7 (by simp only [List.setIfInBounds_toArray, List.set_cons_succ, List.set_cons_zero]; exact rfl)
  replace E := ext_cell E hw (fun h => by first | exact absurd h (by omega) | simp)
  clear hw
  refine wpList_nil ?_
  refine hK3 _ _ ?_
  clear hK3
  refine wp_seq_k fun K4 hK4 => ?_
  refine wp_seq_k fun K5 hK5 => ?_
  refine wp_region_lit ?_
  refine F.vl (R_assign rfl (ev_c fa _)) ?_; clear F fa; intro fa F
  refine wpList_nil ?_
  refine hK5 _ _ ?_
  clear hK5
  refine wp_block ?_
  have F0 := F.sub (.c 1 rfl (.c 2 rfl (.c 3 rfl (.c 6 rfl (.c 7 rfl .n)))))
  refine lp_for F0 (t.rd.length) (fun i Lv W => ∃ va : Option Addr, ∃ vc : Nat, ∃ R : List (Int × Int × Int × Int), Lv = [(8, .int .i64 ((i : Nat) : Int))] ∧ Ext [] w W ∧ W.heap[n3]? = some (.cells #[.int .i64 t.S, .int .i64 t.A, .int .i64 t.T, .int .i64 t.bl, .int .i64 t.bm, .int .i64 t.pl, .int .i64 t.pm, .int .i64 t.sl, .slice ga t.gr.length gc, .slice ra t.rd.length rc, .slice la t.lk.length lc] 28 (0, 0)) ∧ W.heap[n6]? = some (.cells #[.int .i64 0, .int .i64 0, .int .i64 0, .int .i64 0, .int .i64 0, .int .i64 0, .int .i64 0, .int .i64 0, .slice none 0 0, .slice none 0 0, .slice none 0 0] 28 (0, 0)) ∧ W.heap[n7]? = some (.cells #[.int .i64 t.S, .int .i64 t.A, .int .i64 t.T, .int .i64 t.bl, .int .i64 t.bm, .int .i64 t.pl, .int .i64 t.pm, .int .i64 t.sl, .slice ga t.gr.length gc, .slice va R.length vc, .slice la t.lk.length lc] 28 (0, 0)) ∧ W.ownsRow w.heap.size 66 4 (.slice va R.length vc) R.length (flatR R) ∧ R = someR t xs but i) ⟨_, ⟨none, 0, [], rfl, E, q3, q6, q7, orr, rfl⟩, F.sub (.c 8 rfl (.c 1 rfl (.c 2 rfl (.c 3 rfl (.c 6 rfl (.c 7 rfl .n))))))⟩ ?_
  clear F F0
  clear E q3 q6 q7
  clear orr
  rintro i _ fa w6 hi1 ⟨va, vc, R, rfl, E, q3, q6, q7, orr, hR⟩ F
  have hRl : R.length ≤ i := by rw [hR]; exact someR_len _ _ _ _
  refine wp_seq_k fun K6 hK6 => ?_
  refine wp_seq_k fun K7 hK7 => ?_
  refine wp_region_lit ?_
  refine F.mv ?_; clear F fa; intro fa F
  refine F.vl (R_field rfl (F.at rfl) Try.underlying28 rfl (n := 9) (sz := 1) rfl (by kernel_rfl) (by decide)) ?_; clear F fa; intro fa F
  refine F.vl (R_load rfl (F.at rfl) Try.underlying25 rfl ((cells_of_block q3 9).trans (getS (getS (getS (getS (getS (getS (getS (getS (getS (get0)))))))))))) ?_; clear F fa; intro fa F
  refine F.vl (R_len rfl rfl (F.at rfl) Try.underlying25) ?_; clear F fa; intro fa F
  refine F.vl (R_lss rfl (F.at rfl) (F.at rfl)) ?_; clear F fa; intro fa F
  refine wpList_nil ?_
  refine hK7 _ _ ?_
  clear hK7
  refine cd_if F rfl (fun hc15 => ?_) (fun hc15 => ?_)
  · skip
    refine wp_skip ?_
    refine hK6 _ _ ?_
    clear hK6
    refine wp_seq_k fun K8 hK8 => ?_
    refine wp_block ?_
    refine wp_seq_k fun K9 hK9 => ?_
    refine wp_region_lit ?_
    refine F.mv ?_; clear F fa; intro fa F
    refine F.mv ?_; clear F fa; intro fa F
    refine sq_call F rfl (by decide) rfl (R_callV rfl rfl Try.call60 (mpS (F.at rfl) (mpS (F.at rfl) mp0))) (at_row _ (HX.out.ext E) (by omega)) fun e w7 hR => ?_
    obtain ⟨rfl, e9⟩ := hR
    refine ⟨_, rfl, ?_⟩; clear F fa; intro fa F
    replace orr := owns_ext orr (e9) (by simp)
    replace q3 := (e9).keep0 q3
    replace q6 := (e9).keep0 q6
    replace q7 := (e9).keep0 q7
    replace E := ext_same E (e9)
    clear e9
    refine F.vl (R_geq rfl (F.at rfl) (ev_c fa _)) ?_; clear F fa; intro fa F
    refine F.mv ?_; clear F fa; intro fa F
    refine F.vl ((R_neqBB rfl (F.at rfl) (F.at rfl) Try.underlying4)) ?_; clear F fa; intro fa F
    refine wpList_nil ?_
    refine hK9 _ _ ?_
    clear hK9
    refine cd_b F rfl (fun hc23 => ?_) (fun hc23 => ?_)
    · skip
      refine region_x (Ext [] w7) (some 8) follows fun w8 hh eh => ?_
      have q3_ := q3
      replace q3 := keep_same hh q3
      have q6_ := q6
      replace q6 := keep_same hh q6
      have q7_ := q7
      replace q7 := keep_same hh q7
      have E_ := E
      have zEw8 := E.size
      replace E := ext_same E eh
      replace orr := owns_same hh orr
      have eT := eh
      clear hh eh
      refine F.x (i := 0) rfl (fun w' => R_field rfl (F.at rfl) Try.underlying28 rfl (n := 9) (sz := 1) rfl (by kernel_rfl) (by decide)) (fun _ => eT) ?_; clear F fa; intro fa F
      refine F.xr (i := 1) rfl (fun w' hS => R_load rfl (F.at rfl) Try.underlying25 rfl ((cells_of_block (hS.keep q7_ (by simp)) 9).trans (getS (getS (getS (getS (getS (getS (getS (getS (getS (get0)))))))))))) (fun _ => eT) ?_; clear F fa; intro fa F
      refine F.x (i := 2) rfl (fun w' => R_field rfl (F.at rfl) Try.underlying28 rfl (n := 9) (sz := 1) rfl (by kernel_rfl) (by decide)) (fun _ => eT) ?_; clear F fa; intro fa F
      refine F.xr2 (i := 3) [5, 6, 7, 8] rfl (fun w' hS => R_load rfl (F.at rfl) Try.underlying25 rfl ((cells_of_block (hS.keep q3_ (by simp)) 9).trans (getS (getS (getS (getS (getS (getS (getS (getS (getS (get0)))))))))))) (fun _ => eT) ?_; clear F fa; intro fa F
      refine F.x (i := 4) rfl (fun w' => R_move rfl (F.at rfl)) (fun _ => eT) ?_; clear F fa; intro fa F
      obtain ⟨xb10, xo10, xa10, xr10⟩ := HRd.out i (by omega)
      refine F.x (i := 5) rfl (fun w' => R_ixSlice (sz := 4) rfl ((F.at rfl).trans (xa10 _ _)) (F.at rfl) Try.underlying25 (by kernel_rfl) (by omega) (by omega)) (fun _ => eT) ?_; clear F fa; intro fa F
      refine F.xr2 (i := 6) [7, 8] rfl (fun w' hS => R_loadRow rfl (F.at rfl) Try.underlying66 rfl (by kernel_rfl) (xr10 _ (E_.nil hS))) (fun _ => eT) ?_; clear F fa; intro fa F
      refine ax_only (i := 7) (by kernel_rfl) (op_new F rfl rfl (by decide) rfl (R_buildSliceV rfl (prS (F.at rfl) pr0) Try.underlying25 (size := 4) (by kernel_rfl) (by decide) (by decide) Try.zeroValue66 (cells := #[.int .i64 ((t.rd.getD i (0, 0, 0, 0)).1), .int .i64 ((t.rd.getD i (0, 0, 0, 0)).2.1), .int .i64 ((t.rd.getD i (0, 0, 0, 0)).2.2.1), .int .i64 ((t.rd.getD i (0, 0, 0, 0)).2.2.2)]) (by kernel_rfl)) ?_); clear F fa; intro fa w9 F hw
      obtain ⟨n31, hn⟩ : ∃ n, n = w8.heap.size := ⟨_, rfl⟩
      rw [← hn] at F
      have s31 : w8.heap.size ≤ n31 := Nat.le_of_eq hn.symm
      have l31_E : w.heap.size ≤ n31 := by rw [hn]; exact E.size
      have lT31 : w7.heap.size ≤ n31 := by rw [hn]; exact eT.size
      have m31_3 : n3 < n31 := by rw [hn]; exact blk_lt q3
      have m31_6 : n6 < n31 := by rw [hn]; exact blk_lt q6
      have m31_7 : n7 < n31 := by rw [hn]; exact blk_lt q7
      have o31_orr := Lib.hid (own_ne_new orr hn)
      replace orr := owns_alloc hw orr
      replace q3 := keep_alloc hw q3
      replace q6 := keep_alloc hw q6
      replace q7 := keep_alloc hw q7
      replace E := ext_alloc E hw
      replace eT := ext_alloc eT hw
      have q31 := new_block hw hn
      clear hw hn
      refine ⟨fun _ => eT, ?_⟩
      have hEs := E.size
      refine ax_only (i := 8) (by kernel_rfl) (op_some F rfl rfl (by decide) rfl (append_run rfl (w.heap.size) (e := 66) (size := 4) (bytes := 32) Try.underlying25 (by kernel_rfl) (by decide) (F.at rfl) orr (F.at rfl) q31 rfl (by simp [Value.oneCell']) (by omega) (by omega) (by omega)) ?_); clear F fa; rintro fa v' w10 F ⟨hown', hg⟩
      obtain ⟨va32, vc32, rfl⟩ := owns_slice hown'
      replace q3 := keep_type orr hg q3 (by decide)
      replace q6 := keep_type orr hg q6 (by decide)
      replace q7 := keep_type orr hg q7 (by decide)
      replace E := ext_appendX E orr hg (by omega)
      replace orr := hown'
      clear hg
      refine ⟨gone (by kernel_rfl), ?_⟩
      obtain ⟨R2, hR2e⟩ : ∃ R2, R2 = R ++ [t.rd.getD i (0, 0, 0, 0)] := ⟨_, rfl⟩
      have hPl3 : R.length + 1 = R2.length := by rw [hR2e, List.length_append]; rfl
      have hR2 : R2 = someR t xs but (i + 1) := by rw [someR_yes hc23, hR2e, hR]
      rw [← flatR_snoc, ← hR2e, hPl3] at orr
      rw [hPl3] at F
      refine F.x (i := 9) rfl (fun w' => R_field rfl (F.at rfl) Try.underlying28 rfl (n := 9) (sz := 1) rfl (by kernel_rfl) (by decide)) (gone (by kernel_rfl)) ?_; clear F fa; intro fa F
      refine ax_only (i := 10) (by kernel_rfl) (op_to rfl rfl rfl (R_store rfl (F.at rfl) (F.at rfl) rfl (by kernel_rfl) ((cells_of_block q7 9).trans (getS (getS (getS (getS (getS (getS (getS (getS (getS (get0))))))))))) (free_of_block q7 9)) ?_); intro w11 hw
      replace orr := owns_cellX hw orr (own_ne_type orr q7 (by decide))
      replace q3 := keep_cell hw q3 (by omega)
      replace q6 := keep_cell hw q6 (by omega)
      replace q7 := put_cell hw q7 (by simp only [List.setIfInBounds_toArray, List.set_cons_succ, List.set_cons_zero]; exact rfl)
      replace E := ext_cell E hw (fun h => by first | exact absurd h (by omega) | simp)
      clear hw
      refine ⟨gone (by kernel_rfl), ?_⟩
      refine ax_done (by kernel_rfl) ?_ _
      clear eT q3_ q6_ q7_ E_
      refine hK8 _ _ ?_
      clear hK8
      refine wp_region_lit ?_
      refine F.mv ?_; clear F fa; intro fa F
      refine F.vl (R_add rfl (F.at rfl) (ev_c fa _) (by omega) (by omega)) ?_; clear F fa; intro fa F
      refine F.as ?_; clear F fa; intro fa F
      refine wpList_nil ?_
      show _ ∧ _
      exact ⟨by omega, _, ⟨_, _, _, rfl, E, q3, q6, q7, orr, hR2⟩, F.sub (.c 8 rfl (.c 1 rfl (.c 2 rfl (.c 3 rfl (.c 6 rfl (.c 7 rfl .n))))))⟩
    · skip
      have hR2 : R = someR t xs but (i + 1) := by rw [someR_no hc23]; exact hR
      refine wp_skip ?_
      refine hK8 _ _ ?_
      clear hK8
      refine wp_region_lit ?_
      refine F.mv ?_; clear F fa; intro fa F
      refine F.vl (R_add rfl (F.at rfl) (ev_c fa _) (by omega) (by omega)) ?_; clear F fa; intro fa F
      refine F.as ?_; clear F fa; intro fa F
      refine wpList_nil ?_
      show _ ∧ _
      exact ⟨by omega, _, ⟨_, _, _, rfl, E, q3, q6, q7, orr, hR2⟩, F.sub (.c 8 rfl (.c 1 rfl (.c 2 rfl (.c 3 rfl (.c 6 rfl (.c 7 rfl .n))))))⟩
  · skip
    refine wp_exit ?_
    obtain rfl : i = t.rd.length := by omega
    refine hK4 _ _ ?_
    clear hK4
    refine wp_seq_k fun K11 hK11 => ?_
    refine wp_region_lit ?_
    refine F.vl (R_loadBlk rfl (F.at rfl) Try.underlying28 rfl (by kernel_rfl) q7) ?_; clear F fa; intro fa F
    refine sq_to rfl rfl (R_storeRow rfl (F.at rfl) (F.at rfl) (by kernel_rfl) (by first | (simp [Value.oneCell']; done) | (simp [Value.oneCell', grRow, rdRow, lkRow]; done)) q6 rfl) ?_; intro w12 hw
    replace orr := owns_cellsX hw orr (own_ne_type orr q6 (by decide))
    replace q3 := keep_cells hw q3 (by omega)
    replace q6 := put_row hw q6 rfl
    replace q7 := keep_cells hw q7 (by omega)
    replace E := ext_cells E hw (fun h => by first | exact absurd h (by omega) | simp)
    clear hw
    refine wpList_nil ?_
    refine hK11 _ _ ?_
    clear hK11
    refine wp_ret ?_
    (try simp only [Exit.inBlock, Exit.then])
    refine rt_v F (rs_c F rfl rfl Try.underlying28 rfl (by kernel_rfl) q6) ?_
    subst hR; exact ⟨va, vc, rfl, ⟨(HT.out.ext E (by simp)).gr, rows_of_owns4 orr, (HT.out.ext E (by simp)).lk⟩, E⟩
theorem some_ok {t : Tp} (ok : t.Ok) (xs : List Int) (but : Bool) : (someT t xs but).Ok := by
  have hl := someR_len t xs but t.rd.length
  have := ok.rdl
  exact ⟨ok.S1, ok.S3, ok.A1, ok.A3, ok.T1, ok.T3, ok.bl1, ok.bm1, ok.b, ok.pl1, ok.pm1, ok.p, ok.sl0, ok.sl5, ok.grl, ok.gr, by show (someR t xs but t.rd.length).length ≤ 9; omega, fun r hr => by
    obtain ⟨i, hi, rfl⟩ := List.mem_map.1 hr
    exact ok.rd _ (getD_mem (0, 0, 0, 0) (List.mem_range.1 (List.mem_filter.1 hi).1)), ok.lkl, ok.lk⟩
theorem some_tr {t : Tp} {xs : List Int} {but : Bool} {out : Int} (h : ∀ i, i < t.rd.length → keepB xs but i = !hasB out i) (x : Nat → Int) : Tr (someT t xs but) 0 x ↔ Tr t out x := by
  constructor
  · intro H
    refine ⟨fun s a hs ha => ⟨(H.cell s a hs ha).lo, (H.cell s a hs ha).hi, (H.cell s a hs ha).glo, (H.cell s a hs ha).ghi⟩, fun i hi => ⟨(H.tail i hi).lo, (H.tail i hi).hi⟩, fun i hi hb => ?_, H.link⟩
    have hm : t.rd.getD i (0, 0, 0, 0) ∈ (someT t xs but).rd := List.mem_map.2 ⟨i, List.mem_filter.2 ⟨List.mem_range.2 hi, by rw [h i hi, hb]; rfl⟩, rfl⟩
    obtain ⟨j, hj, e⟩ := List.getElem_of_mem hm
    have q := H.read j hj (by simp [hasB])
    rw [show (someT t xs but).rd.getD j (0, 0, 0, 0) = t.rd.getD i (0, 0, 0, 0) by rw [← e]; simp [hj]] at q
    exact ⟨q.lo, q.hi⟩
  · intro H
    refine ⟨fun s a hs ha => ⟨(H.cell s a hs ha).lo, (H.cell s a hs ha).hi, (H.cell s a hs ha).glo, (H.cell s a hs ha).ghi⟩, fun i hi => ⟨(H.tail i hi).lo, (H.tail i hi).hi⟩, fun j hj _ => ?_, H.link⟩
    obtain ⟨i, hi, e⟩ := List.mem_map.1 (getD_mem (0, 0, 0, 0) hj)
    rw [show (someT t xs but).rd.getD j (0, 0, 0, 0) = t.rd.getD i (0, 0, 0, 0) from e.symm]
    obtain ⟨h1, h2⟩ := List.mem_filter.1 hi
    have h1 := List.mem_range.1 h1
    have q := H.read i h1 (by have := h i h1; rw [h2] at this; simpa using this.symm)
    exact ⟨q.lo, q.hi⟩
theorem some_bd {t : Tp} (ok : t.Ok) {xs : List Int} {but : Bool} {out : Int} (h : ∀ i, i < t.rd.length → keepB xs but i = !hasB out i) : bdB (someT t xs but) 0 = bdB t out := by
  rw [Bool.eq_iff_iff, bdB_iffO (some_ok ok xs but), bdB_iffO ok]
  exact ⟨fun ⟨x, hx⟩ => ⟨x, (some_tr h x).1 hx⟩, fun ⟨x, hx⟩ => ⟨x, (some_tr h x).2 hx⟩⟩
end Go.Proofs.Ytholfdgebdlgjaa
