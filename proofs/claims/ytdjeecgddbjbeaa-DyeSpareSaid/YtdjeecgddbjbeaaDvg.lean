/- The program's cut of a recipe, and its look at stuffs that are valid. Conditions: the vat is valid. -/
import Derived.Test.YtdjeecgddbjbeaaDvf
namespace Go.Proofs.Ytdjeecgddbjbeaa
open Go.RowKit
set_option linter.unusedVariables false
set_option linter.unusedSimpArgs false
section
variable {P : Program} {ρ : Operand → Value} {o : Oper} {w : World}
theorem R_sliceArr {x y z : Operand} {t : TypeId} {b n m : Nat} (ho : o.op = .slice t x none (some y) (some z)) (hx : ρ x = .pointer (some ⟨b, 0, none⟩)) (hy : ρ y = .int .i64 (n : Int)) (hz : ρ z = .int .i64 (n : Int)) (hu : P.underlying t = some (.array (P.arrayLen t) (P.elem t))) (hs : (P.info? (P.elem t)).map (·.size) = some 1) (hm : P.arrayLen t = m) (hn : n ≤ m) :
    (execOp ρ o).run P w = .ok (.value (.slice (some ⟨b, 0, none⟩) n n)) w := by
  have h0 : (sizeOf (P.elem t)).run P w = .ok 1 w := by
    generalize P.elem t = e at hs
    cases hq : P.info? e with
    | none => simp [hq] at hs
    | some j =>
      have hj : j.size = 1 := by simpa [hq] using hs
      simp [sizeOf, typeInfo, hq, hj]
  have hr := run_sliceAt_array_hm (P := P) w t ⟨b, 0, none⟩ hu .i64 .i64 (n : Int) (n : Int) (by omega) (by omega) (by rw [hm]; omega)
  rw [h0] at hr
  simp only [Result.andThen_ok, slicedAt, Nat.zero_mul, Nat.sub_zero, Int.toNat_natCast] at hr
  have ha : (if n = 0 then (⟨b, 0, none⟩ : Addr) else Addr.add ⟨b, 0, none⟩ 0) = ⟨b, 0, none⟩ := by split <;> rfl
  rw [ha] at hr
  clear hu hs hm h0 ha
  unfold execOp
  simp only [ho, hx, hy, hz, Option.map_none, Option.map_some, Sem.run_bind, hr, Result.andThen_ok, Sem.run_pure]
end
/-- A recipe as so many numbers. -/
def cutL (f : Nat → Int) (n : Nat) : List Int := (List.range n).map f
theorem cutL_val {l : List Int} {n : Nat} (h : l.length = n) : cutL (val l) n = l := by
  refine List.ext_getElem (by simp [cutL, h]) fun j h1 h2 => ?_
  simp [cutL, val, h2]
theorem srcAt_of_tub {w : World} {b n : Nat} {T : TypeId} {fz : Nat × Nat} {f : Nat → Int} (H : w.heap[b]? = some (.cells (tubC f) T fz)) (hn : n ≤ 4) : SrcAt w 1 (some ⟨b, 0, none⟩) n (ivs (cutL f n)) := by
  refine ⟨by simp [ivs, cutL], (fun h => by cases h), fun a0 ha j v hv => ?_, ints_one _⟩
  cases ha
  rw [ivs, cutL, List.getElem?_map, List.getElem?_map, Option.map_map, Option.map_eq_some_iff] at hv
  obtain ⟨k, hk, rfl⟩ := hv
  obtain ⟨hj, rfl⟩ := List.getElem?_eq_some_iff.1 hk
  simp only [List.length_range] at hj
  have := tub_at H (i := (j : Int)) (k := j) rfl (by omega)
  rw [Int.toNat_natCast, Nat.mul_one] at this
  simp only [List.getElem_range, Function.comp]
  rw [Go.WideShapes.add_plain]
  exact this
set_option maxRecDepth 100000 in
theorem cut_ok (x : Vm) (hv : VOk x) (f : Nat → Int) (w : World) : Calls Try.prog 62 #[.agg #[.int .i64 x.B, .slice x.da x.D.length x.dc, .slice x.la x.L.length x.lc, .int .i64 x.tol], .agg (tubC f)] w fun e w' => ∃ a c, e = .returned (.slice a x.D.length c) ∧ w'.ownsRow w.heap.size 3 1 (.slice a x.D.length c) x.D.length (ivs (cutL f x.D.length)) ∧ Ext [] w w' := by
  have E : Ext [] w w := Ext.refl _ _
  have hd4 := hv.d4
  refine calls_has 14 Try.func62 rfl Try.ntmps62 (Nat.le_of_ble_eq_true rfl) ?_
  intro fa F
  refine wp_seq_k fun K1 hK1 => ?_
  refine wp_region_lit ?_
  refine sq_new F rfl (by decide) rfl (R_box rfl (F.at rfl)) ?_; clear F fa; intro fa w1 F hw
  obtain ⟨n2, hn⟩ : ∃ n, n = w.heap.size := ⟨_, rfl⟩
  rw [← hn] at F
  have s2 : w.heap.size ≤ n2 := Nat.le_of_eq hn.symm
  have l2_E : w.heap.size ≤ n2 := by rw [hn]; exact E.size
  replace E := ext_alloc E hw
  have q2 := new_row hw hn
  clear hw hn
  refine sq_new F rfl (by decide) rfl (R_box rfl (F.at rfl)) ?_; clear F fa; intro fa w2 F hw
  obtain ⟨n3, hn⟩ : ∃ n, n = w1.heap.size := ⟨_, rfl⟩
  rw [← hn] at F
  have s3 : w1.heap.size ≤ n3 := Nat.le_of_eq hn.symm
  have l3_E : w.heap.size ≤ n3 := by rw [hn]; exact E.size
  have m3_2 : n2 < n3 := by rw [hn]; exact blk_lt q2
  replace q2 := keep_alloc hw q2
  replace E := ext_alloc E hw
  have q3 := new_row hw hn
  clear hw hn
  refine F.vl (R_assign rfl (ev_c fa _)) ?_; clear F fa; intro fa F
  refine wpList_nil ?_
  refine hK1 _ _ ?_
  clear hK1
  refine wp_seq_k fun K2 hK2 => ?_
  refine wp_region_lit ?_
  refine F.vl (R_field rfl (F.at rfl) Try.underlying80 rfl (n := 0) (sz := 4) rfl (by kernel_rfl) (by decide)) ?_; clear F fa; intro fa F
  refine F.vl (R_field rfl (F.at rfl) Try.underlying24 rfl (n := 1) (sz := 1) rfl (by kernel_rfl) (by decide)) ?_; clear F fa; intro fa F
  refine F.vl (R_load rfl (F.at rfl) Try.underlying22 rfl ((cells_of_block q2 1).trans (getS (get0)))) ?_; clear F fa; intro fa F
  refine F.vl (R_len rfl rfl (F.at rfl) Try.underlying22) ?_; clear F fa; intro fa F
  refine F.as ?_; clear F fa; intro fa F
  refine wpList_nil ?_
  refine hK2 _ _ ?_
  clear hK2
  refine wp_seq_k fun K3 hK3 => ?_
  refine wp_region_lit ?_
  refine F.mv ?_; clear F fa; intro fa F
  refine F.mv ?_; clear F fa; intro fa F
  refine F.vl ((R_sliceArr (n := x.D.length) (m := 4) rfl (F.at rfl) (F.at rfl) (F.at rfl) (by kernel_rfl) (by kernel_rfl) (by kernel_rfl) hd4)) ?_; clear F fa; intro fa F
  have oo : w2.ownsRow w.heap.size 3 1 (.slice none 0 0) 0 [] := World.ownsRow_nil _ _ _ _
  have hEs := E.size
  refine sq_some F rfl (by decide) rfl (appends_run rfl (w.heap.size) (e := 3) (size := 1) (bytes := 8) Try.underlying25 (by kernel_rfl) (by decide) (ev_c fa _) oo (F.at rfl) (srcAt_of_tub q3 hd4) (by omega) (by omega) (by omega)) ?_; clear F fa; rintro fa v' w3 F ⟨hown', hg⟩
  obtain ⟨va13, vc13, rfl⟩ := owns_slice hown'
  replace q2 := keep_type oo hg q2 (by decide)
  replace q3 := keep_type oo hg q3 (by decide)
  replace E := ext_appendX E oo hg (by omega)
  replace oo := hown'
  clear hg
  rw [List.nil_append, Nat.zero_add] at oo
  rw [Nat.zero_add] at F
  refine F.as ?_; clear F fa; intro fa F
  refine wpList_nil ?_
  refine hK3 _ _ ?_
  clear hK3
  refine wp_ret ?_
  (try simp only [Exit.inBlock, Exit.then, reduceIte])
  refine rt_v F (rs_1 F rfl rfl) ?_
  exact ⟨_, _, rfl, oo, E⟩
/-- The cells of a recipe among others. -/
def tubR (f : Nat → Int) : List Value := [.int .i64 (f 0), .int .i64 (f 1), .int .i64 (f 2), .int .i64 (f 3)]
/-- A slice of recipes. -/
def tubsV (T : List (List Int)) : List Value := (T.map fun t => tubR (val t)).flatten
set_option maxRecDepth 100000 in
set_option maxHeartbeats 1000000 in
theorem stuffs_ok (x : Vm) (hv : VOk x) (S : List (Value × List Int)) (hs : ∀ p ∈ S, RcpOk x p.2) (h6 : S.length ≤ 6) (a : Option Addr) (c : Nat) (w : World) (h : LolAt w a S) :
    Calls Try.prog 71 #[.agg #[.int .i64 x.B, .slice x.da x.D.length x.dc, .slice x.la x.L.length x.lc, .int .i64 x.tol], .slice a S.length c] w fun e w' => ∃ b d, e = .returned (.slice b S.length d) ∧ w'.ownsRow w.heap.size 83 4 (.slice b S.length d) S.length (tubsV (S.map (·.2))) ∧ Ext [] w w' := by
  have E : Ext [] w w := Ext.refl _ _
  have HA := Lib.hid h
  have HS := Lib.hid h.1
  have HV := Lib.hid hv
  have HO := Lib.hid hs
  clear h hv hs
  have om : w.ownsRow w.heap.size 83 4 (.slice none 0 0) 0 (tubsV ((S.map (·.2)).take 0)) := World.ownsRow_nil _ _ _ _
  refine calls_has 26 Try.func71 rfl Try.ntmps71 (Nat.le_of_ble_eq_true rfl) ?_
  intro fa F
  refine wp_seq_k fun K1 hK1 => ?_
  refine wp_region_lit ?_
  refine sq_new F rfl (by decide) rfl (R_box rfl (F.at rfl)) ?_; clear F fa; intro fa w1 F hw
  obtain ⟨n2, hn⟩ : ∃ n, n = w.heap.size := ⟨_, rfl⟩
  rw [← hn] at F
  have s2 : w.heap.size ≤ n2 := Nat.le_of_eq hn.symm
  have l2_E : w.heap.size ≤ n2 := by rw [hn]; exact E.size
  have o2_om := Lib.hid (own_ne_new om hn)
  replace om := owns_alloc hw om
  replace E := ext_alloc E hw
  have q2 := new_row hw hn
  clear hw hn
  refine F.vl (R_assign rfl (ev_c fa _)) ?_; clear F fa; intro fa F
  refine wpList_nil ?_
  refine hK1 _ _ ?_
  clear hK1
  refine wp_seq_k fun K2 hK2 => ?_
  refine wp_seq_k fun K3 hK3 => ?_
  refine wp_region_lit ?_
  refine F.mv ?_; clear F fa; intro fa F
  refine F.vl (R_len rfl rfl (F.at rfl) Try.underlying22) ?_; clear F fa; intro fa F
  refine F.vl (R_gtr rfl (F.at rfl) (ev_c fa _)) ?_; clear F fa; intro fa F
  refine wpList_nil ?_
  refine hK3 _ _ ?_
  clear hK3
  refine cd_Fb F rfl (decide_eq_false (by omega)) ?_
  refine wp_skip ?_
  refine hK2 _ _ ?_
  clear hK2
  refine wp_seq_k fun K4 hK4 => ?_
  refine wp_region_lit ?_
  refine F.vl (R_assign rfl (ev_c fa _)) ?_; clear F fa; intro fa F
  refine wpList_nil ?_
  refine hK4 _ _ ?_
  clear hK4
  refine wp_seq_k fun K5 hK5 => ?_
  refine wp_seq_k fun K6 hK6 => ?_
  refine wp_region_lit ?_
  refine F.mv ?_; clear F fa; intro fa F
  refine F.vl (R_len rfl rfl (F.at rfl) Try.underlying22) ?_; clear F fa; intro fa F
  refine F.vl (R_move rfl (ev_c fa _)) ?_; clear F fa; intro fa F
  refine wpList_nil ?_
  refine hK6 _ _ ?_
  clear hK6
  refine wp_block ?_
  have F0 := F.sub (.c 2 rfl (.c 12 rfl (.c 13 rfl .n)))
  refine lp_for F0 (S.length) (fun i Lv W => ∃ va : Option Addr, ∃ vc : Nat, Lv = [(5, .slice va i vc), (14, .int .i64 ((i : Nat) : Int))] ∧ Ext [] w W ∧ W.heap[n2]? = some (.cells #[.int .i64 x.B, .slice x.da x.D.length x.dc, .slice x.la x.L.length x.lc, .int .i64 x.tol] 80 (0, 0)) ∧ W.ownsRow w.heap.size 83 4 (.slice va i vc) i (tubsV ((S.map (·.2)).take i))) ⟨_, ⟨none, 0, rfl, E, q2, om⟩, F.sub (.c 5 rfl (.c 14 rfl (.c 2 rfl (.c 12 rfl (.c 13 rfl .n)))))⟩ ?_
  clear F F0
  clear E q2
  clear om
  rintro i _ fa w2 hi1 ⟨va, vc, rfl, E, q2, om⟩ F
  refine wp_seq_k fun K7 hK7 => ?_
  refine wp_region_lit ?_
  refine F.vl (R_lss rfl (F.at rfl) (F.at rfl)) ?_; clear F fa; intro fa F
  refine wpList_nil ?_
  refine hK7 _ _ ?_
  clear hK7
  refine wp_seq_k fun K8 hK8 => ?_
  refine cd_if F rfl (fun hc15 => ?_) (fun hc15 => ?_)
  · skip
    refine wp_skip ?_
    refine hK8 _ _ ?_
    clear hK8
    refine wp_seq_k fun K9 hK9 => ?_
    refine wp_block ?_
    refine wp_seq_k fun K10 hK10 => ?_
    obtain ⟨la, lca, hla, hlr⟩ := HA.out.2 _ (getD_mem (.bool true, []) (show i < S.length by omega))
    have hrc := HO.out _ (getD_mem (.bool true, []) (show i < S.length by omega))
    refine wp_region_lit ?_
    obtain ⟨xb11, xo11, xa11, xr11⟩ := HS.out i (by omega)
    refine F.vl (R_ixSlice (sz := 1) rfl ((F.at rfl).trans (xa11 _ _)) (F.at rfl) Try.underlying22 (by kernel_rfl) (by omega) (by omega)) ?_; clear F fa; intro fa F
    refine F.vl (R_load rfl (F.at rfl) Try.underlying25 rfl (xr11 _ E 0 _ rfl)) ?_; clear F fa; intro fa F
    rw [hla] at F
    refine F.as ?_; clear F fa; intro fa F
    refine wpList_nil ?_
    refine hK10 _ _ ?_
    clear hK10
    refine wp_region_lit ?_
    refine F.mv ?_; clear F fa; intro fa F
    refine F.vl (R_loadBlk rfl (F.at rfl) Try.underlying80 rfl (by kernel_rfl) q2) ?_; clear F fa; intro fa F
    refine F.mv ?_; clear F fa; intro fa F
    refine sq_call F rfl (by decide) rfl (R_callV rfl rfl Try.call55 (mpS (F.at rfl) (mpS (F.at rfl) mp0))) (recipe_ok x HV.out (S.getD i (.bool true, [])).2 hrc la lca _ (hlr.ext E (by simp))) fun e w3 hR => ?_
    obtain ⟨rfl, e9⟩ := hR
    refine ⟨_, rfl, ?_⟩; clear F fa; intro fa F
    replace om := owns_ext om (e9) (by simp)
    replace q2 := (e9).keep0 q2
    replace E := ext_same E (e9)
    clear e9
    refine sq_new F rfl (by decide) rfl (R_buildSliceV rfl (prS (F.at rfl) pr0) Try.underlying102 (size := 4) (by kernel_rfl) (by decide) (by decide) Try.zeroValue83 (cells := #[.int .i64 (val (S.getD i (.bool true, [])).2 0), .int .i64 (val (S.getD i (.bool true, [])).2 1), .int .i64 (val (S.getD i (.bool true, [])).2 2), .int .i64 (val (S.getD i (.bool true, [])).2 3)]) (by kernel_rfl)) ?_; clear F fa; intro fa w4 F hw
    obtain ⟨n22, hn⟩ : ∃ n, n = w3.heap.size := ⟨_, rfl⟩
    rw [← hn] at F
    have s22 : w3.heap.size ≤ n22 := Nat.le_of_eq hn.symm
    have l22_E : w.heap.size ≤ n22 := by rw [hn]; exact E.size
    have m22_2 : n2 < n22 := by rw [hn]; exact blk_lt q2
    have o22_om := Lib.hid (own_ne_new om hn)
    replace om := owns_alloc hw om
    replace q2 := keep_alloc hw q2
    replace E := ext_alloc E hw
    have q22 := new_block hw hn
    clear hw hn
    have hEs := E.size
    refine sq_some F rfl (by decide) rfl (append_run rfl (w.heap.size) (e := 83) (size := 4) (bytes := 32) Try.underlying102 (by kernel_rfl) (by decide) (F.at rfl) om (F.at rfl) q22 rfl (by simp [Value.oneCell']) (by omega) (by omega) (by omega)) ?_; clear F fa; rintro fa v' w5 F ⟨hown', hg⟩
    obtain ⟨va23, vc23, rfl⟩ := owns_slice hown'
    replace q2 := keep_type om hg q2 (by decide)
    replace E := ext_appendX E om hg (by omega)
    replace om := hown'
    clear hg
    rw [show tubsV ((S.map (·.2)).take i) ++ [.int .i64 (val (S.getD i (.bool true, [])).2 0), .int .i64 (val (S.getD i (.bool true, [])).2 1), .int .i64 (val (S.getD i (.bool true, [])).2 2), .int .i64 (val (S.getD i (.bool true, [])).2 3)] = tubsV ((S.map (·.2)).take (i + 1)) by rw [take_getD (S.map (·.2)) [] (show i < (S.map (·.2)).length by rw [List.length_map]; omega), tubsV, tubsV, List.map_append, List.flatten_append, key_getD S (by omega)]; simp [tubR]] at om
    refine F.as ?_; clear F fa; intro fa F
    refine wpList_nil ?_
    refine hK9 _ _ ?_
    clear hK9
    refine wp_region_lit ?_
    refine F.vl (R_add rfl (F.at rfl) (ev_c fa _) (by omega) (by omega)) ?_; clear F fa; intro fa F
    refine F.mv ?_; clear F fa; intro fa F
    refine wpList_nil ?_
    show _ ∧ _
    exact ⟨by omega, _, ⟨_, _, rfl, E, q2, om⟩, F.sub (.c 5 rfl (.c 14 rfl (.c 2 rfl (.c 12 rfl (.c 13 rfl .n)))))⟩
  · skip
    refine wp_exit ?_
    rw [List.take_of_length_le (show (S.map (·.2)).length ≤ i by rw [List.length_map]; omega), show i = S.length by omega] at om
    rw [show i = S.length by omega] at F
    refine hK5 _ _ ?_
    clear hK5
    refine wp_seq_k fun K12 hK12 => ?_
    refine wp_region_lit ?_
    refine F.mv ?_; clear F fa; intro fa F
    refine F.as ?_; clear F fa; intro fa F
    refine wpList_nil ?_
    refine hK12 _ _ ?_
    clear hK12
    refine wp_ret ?_
    (try simp only [Exit.inBlock, Exit.then, reduceIte])
    refine rt_v F (rs_1 F rfl rfl) ?_
    exact ⟨_, _, rfl, om, E⟩
end Go.Proofs.Ytdjeecgddbjbeaa
