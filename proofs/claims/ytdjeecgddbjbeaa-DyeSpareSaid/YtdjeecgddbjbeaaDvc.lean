/- The program's sums of a recipe. Conditions: the vat is valid. -/
import Derived.Test.YtdjeecgddbjbeaaDvb
namespace Go.Proofs.Ytdjeecgddbjbeaa
open Go.RowKit
set_option linter.unusedVariables false
set_option linter.unusedSimpArgs false
theorem slAt_of_ivs {w : World} {base n c : Nat} {a : Option Addr} {xs : List Int} (h : w.ownsRow base 3 1 (.slice a n c) n (ivs xs)) (hn : n = xs.length) (X : List Nat) (hX : ∀ b ∈ X, b < base) : SlAt X w a 1 xs.length (fun i => [.int .i64 (xs.getD i 0)]) := by
  rw [ivs_flat] at h
  exact slAt_of_owns h hn (fun _ => rfl) X hX 0
theorem ivs_lenZ (xs : List Int) : (ivs xs).length = xs.length := by simp [ivs]
theorem ivs_setZ (xs : List Int) (i : Nat) (v : Int) : (ivs xs).set i (.int .i64 v) = ivs (xs.set i v) := by simp [ivs, List.map_set]
def TubS (f : Nat → Int) : Prop := ∀ k, k < 4 → 0 ≤ f k ∧ f k ≤ 6
theorem TubS.ok {f : Nat → Int} (h : TubS f) : TubOk f := fun k hk => by have := h k hk; omega
/-- What all dyes give in a band. -/
def tonE (x : Vm) (f : Nat → Int) (j d : Nat) : Int := sumTo (fun d => f d * val (x.dye d) j) d
/-- The sums when so many dyes, and so many bands of the next, are counted. -/
def sumR (x : Vm) (f : Nat → Int) (bn d i : Nat) : List Int := (List.range bn).map fun j => tonE x f j (if j < i then d + 1 else d)
def sumL (x : Vm) (f : Nat → Int) (bn : Nat) : List Int := (List.range bn).map fun j => tonE x f j x.D.length
theorem sumR_len (x : Vm) (f : Nat → Int) (bn d i : Nat) : (sumR x f bn d i).length = bn := by simp [sumR]
theorem sumR_zero (x : Vm) (f : Nat → Int) (bn : Nat) : ivs (sumR x f bn 0 0) = List.replicate bn (.int .i64 0) := by
  rw [sumR, ivs, List.map_map, List.eq_replicate_iff]
  refine ⟨by simp, fun b hb => ?_⟩
  obtain ⟨j, -, rfl⟩ := List.mem_map.1 hb
  simp [tonE, sumTo]
theorem sumR_get (x : Vm) (f : Nat → Int) {bn i : Nat} (d : Nat) (h : i < bn) : (sumR x f bn d i).getD i 0 = tonE x f i d := by simp [sumR, h]
theorem sumR_set (x : Vm) (f : Nat → Int) {bn i : Nat} (d : Nat) (h : i < bn) : (sumR x f bn d i).set i (tonE x f i (d + 1)) = sumR x f bn d (i + 1) := by
  refine List.ext_getElem (by simp [sumR]) fun j h1 h2 => ?_
  rw [List.getElem_set]
  by_cases e : i = j
  · subst e
    simp [sumR]
  · rw [if_neg e]
    simp only [sumR, List.getElem_map, List.getElem_range]
    congr 1
    by_cases e2 : j < i
    · rw [if_pos e2, if_pos (by omega)]
    · rw [if_neg e2, if_neg (by omega)]
theorem sumR_next (x : Vm) (f : Nat → Int) (bn d : Nat) : sumR x f bn d bn = sumR x f bn (d + 1) 0 := by
  refine List.map_congr_left fun j hj => ?_
  rw [if_pos (by simpa using hj), if_neg (by omega)]
theorem sumR_end (x : Vm) (f : Nat → Int) (bn : Nat) : sumR x f bn x.D.length 0 = sumL x f bn := by
  refine List.map_congr_left fun j hj => ?_
  rw [if_neg (by omega)]
theorem tonE_succ (x : Vm) (f : Nat → Int) (j d : Nat) : tonE x f j (d + 1) = tonE x f j d + f d * val (x.dye d) j := rfl
theorem dye_bd {x : Vm} (hv : VOk x) {d : Nat} (hd : d < x.D.length) (j : Nat) : 0 ≤ val (x.dye d) j ∧ val (x.dye d) j ≤ 9 := by
  obtain ⟨-, h⟩ := hv.dl _ (getD_mem (.bool true, []) hd)
  by_cases hj : j < (x.dye d).length
  · exact h _ (getD_mem 0 hj)
  · rw [val, List.getD_eq_getElem?_getD, List.getElem?_eq_none (by omega)]; simp
theorem tonE_bd {x : Vm} (hv : VOk x) {f : Nat → Int} (hf : TubS f) (j : Nat) {d : Nat} (hd : d ≤ x.D.length) : 0 ≤ tonE x f j d ∧ tonE x f j d ≤ 60 * d := by
  have := sumTo_bd (f := fun d => f d * val (x.dye d) j) (a := 0) (b := 60) (n := d) fun k hk => ?_
  · rw [tonE]; omega
  · have h4 := hv.d4
    obtain ⟨h1, h2⟩ := hf k (by omega)
    obtain ⟨h3, h5⟩ := dye_bd hv (d := k) (by omega) j
    refine ⟨Int.mul_nonneg h1 h3, ?_⟩
    have : f k * val (x.dye k) j ≤ 6 * val (x.dye k) j := Int.mul_le_mul_of_nonneg_right h2 h3
    show f k * val (x.dye k) j ≤ 60
    omega
theorem sumL_bd {x : Vm} (hv : VOk x) {f : Nat → Int} (hf : TubS f) (bn : Nat) : ∀ n ∈ sumL x f bn, 0 ≤ n ∧ n ≤ 240 := by
  intro n hn
  obtain ⟨j, -, rfl⟩ := List.mem_map.1 hn
  have := tonE_bd hv hf j (Nat.le_refl x.D.length)
  have := hv.d4
  omega
set_option maxRecDepth 100000 in
set_option maxHeartbeats 1000000 in
theorem sums_ok (x : Vm) (hv : VOk x) (bn : Nat) (hbn : x.B = bn) (f : Nat → Int) (hf : TubS f) (w : World) (h : x.At w) :
    Calls Try.prog 87 #[.agg #[.int .i64 x.B, .slice x.da x.D.length x.dc, .slice x.la x.L.length x.lc, .int .i64 x.tol], .agg (tubC f)] w fun e w' => ∃ a, e = .returned (.slice a bn bn) ∧ w'.ownsRow w.heap.size 3 1 (.slice a bn bn) bn (ivs (sumL x f bn)) ∧ Ext [] w w' := by
  have E : Ext [] w w := Ext.refl _ _
  have HX := Lib.hid h
  have HD := Lib.hid h.d.1
  have HV := Lib.hid hv
  have HF := Lib.hid hf
  have hd4 := hv.d4
  have hb1 := hv.b1
  have hb3 := hv.b3
  clear h hv hf
  refine calls_has 44 Try.func87 rfl Try.ntmps87 (Nat.le_of_ble_eq_true rfl) ?_
  intro fa F
  refine wp_seq_k fun K1 hK1 => ?_
  refine wp_region_lit ?_
  refine sq_new F rfl (by decide) rfl (R_box rfl (F.at rfl)) ?_; clear F fa; intro fa w1 F hw
  obtain ⟨n2, hn⟩ : ∃ n, n = w.heap.size := ⟨_, rfl⟩
  rw [← hn] at F
  have s2 : w.heap.size ≤ n2 := Nat.le_of_eq hn.symm
  have l2_E : w.heap.size ≤ n2 := by rw [hn]; exact E.size
  replace E := ext_alloc E hw
  have q2 := new_row hw hn
  clear hw hn
  refine sq_new F rfl (by decide) rfl (R_box rfl (F.at rfl)) ?_; clear F fa; intro fa w2 F hw
  obtain ⟨n3, hn⟩ : ∃ n, n = w1.heap.size := ⟨_, rfl⟩
  rw [← hn] at F
  have s3 : w1.heap.size ≤ n3 := Nat.le_of_eq hn.symm
  have l3_E : w.heap.size ≤ n3 := by rw [hn]; exact E.size
  have m3_2 : n2 < n3 := by rw [hn]; exact blk_lt q2
  replace q2 := keep_alloc hw q2
  replace E := ext_alloc E hw
  have q3 := new_row hw hn
  clear hw hn
  refine F.vl (R_assign rfl (ev_c fa _)) ?_; clear F fa; intro fa F
  refine wpList_nil ?_
  refine hK1 _ _ ?_
  clear hK1
  refine wp_seq_k fun K2 hK2 => ?_
  refine wp_region_lit ?_
  refine F.vl (R_field rfl (F.at rfl) Try.underlying80 rfl (n := 0) (sz := 4) rfl (by kernel_rfl) (by decide)) ?_; clear F fa; intro fa F
  refine F.vl (R_field rfl (F.at rfl) Try.underlying24 rfl (n := 0) (sz := 1) rfl (by kernel_rfl) (by decide)) ?_; clear F fa; intro fa F
  refine F.vl (R_load rfl (F.at rfl) Try.underlying3 rfl ((cells_of_block q2 0).trans (get0))) ?_; clear F fa; intro fa F
  rw [hbn] at F
  have hEs := E.size
  refine sq_some F rfl (by decide) rfl (make_run rfl (w.heap.size) (e := 3) (bytes := 8) (z := .int .i64 0) Try.underlying25 (by kernel_rfl) rfl (F.at rfl) (F.at rfl) (n := bn) (by omega) (by decide) (by omega)) ?_; clear F fa; rintro fa v' w3 F ⟨oo, hg, rfl⟩
  obtain ⟨n13, hn⟩ : ∃ n, n = w2.heap.size := ⟨_, rfl⟩
  rw [← hn] at F oo
  have s13 : w2.heap.size ≤ n13 := Nat.le_of_eq hn.symm
  replace q2 := keep_none hg q2
  replace q3 := keep_none hg q3
  replace E := ext_none E hg
  clear hg hn
  rw [← sumR_zero x f bn] at oo
  refine F.as ?_; clear F fa; intro fa F
  refine wpList_nil ?_
  refine hK2 _ _ ?_
  clear hK2
  refine wp_seq_k fun K3 hK3 => ?_
  refine wp_seq_k fun K4 hK4 => ?_
  refine wp_region_lit ?_
  refine F.vl (R_field rfl (F.at rfl) Try.underlying80 rfl (n := 0) (sz := 4) rfl (by kernel_rfl) (by decide)) ?_; clear F fa; intro fa F
  refine F.vl (R_field rfl (F.at rfl) Try.underlying24 rfl (n := 1) (sz := 1) rfl (by kernel_rfl) (by decide)) ?_; clear F fa; intro fa F
  refine F.vl (R_load rfl (F.at rfl) Try.underlying22 rfl ((cells_of_block q2 1).trans (getS (get0)))) ?_; clear F fa; intro fa F
  refine F.vl (R_len rfl rfl (F.at rfl) Try.underlying22) ?_; clear F fa; intro fa F
  refine F.vl (R_move rfl (ev_c fa _)) ?_; clear F fa; intro fa F
  refine wpList_nil ?_
  refine hK4 _ _ ?_
  clear hK4
  refine wp_block ?_
  have F0 := F.sub (.c 3 rfl (.c 5 rfl (.c 16 rfl (.c 17 rfl .n))))
  refine lp_for F0 (x.D.length) (fun d Lv W => Lv = [(18, .int .i64 ((d : Nat) : Int))] ∧ Ext [] w W ∧ W.heap[n2]? = some (.cells #[.int .i64 x.B, .slice x.da x.D.length x.dc, .slice x.la x.L.length x.lc, .int .i64 x.tol] 80 (0, 0)) ∧ W.heap[n3]? = some (.cells (tubC f) 83 (0, 0)) ∧ W.ownsRow w.heap.size 3 1 (.slice (some ⟨n13, 0, none⟩) bn bn) bn (ivs (sumR x f bn d 0))) ⟨_, ⟨rfl, E, q2, q3, oo⟩, F.sub (.c 18 rfl (.c 3 rfl (.c 5 rfl (.c 16 rfl (.c 17 rfl .n)))))⟩ ?_
  clear F F0
  clear E q2 q3
  clear oo
  rintro d _ fa w4 hi1 ⟨rfl, E, q2, q3, oo⟩ F
  refine wp_seq_k fun K5 hK5 => ?_
  refine wp_region_lit ?_
  refine F.vl (R_lss rfl (F.at rfl) (F.at rfl)) ?_; clear F fa; intro fa F
  refine wpList_nil ?_
  refine hK5 _ _ ?_
  clear hK5
  refine wp_seq_k fun K6 hK6 => ?_
  refine cd_if F rfl (fun hc19 => ?_) (fun hc19 => ?_)
  · skip
    refine wp_skip ?_
    refine hK6 _ _ ?_
    clear hK6
    refine wp_seq_k fun K7 hK7 => ?_
    refine wp_block ?_
    refine wp_seq_k fun K8 hK8 => ?_
    obtain ⟨la, lca, hla, hlr⟩ := HX.out.d.2 _ (getD_mem (.bool true, []) (show d < x.D.length by omega))
    have hlen := (HV.out.dl _ (getD_mem (.bool true, []) (show d < x.D.length by omega))).1
    have hlb : (x.D.getD d (.bool true, [])).2.length = bn := by omega
    have HLR := Lib.hid (slAt_of_rows hlr 0)
    refine wp_region_lit ?_
    refine F.mv ?_; clear F fa; intro fa F
    obtain ⟨xb9, xo9, xa9, xr9⟩ := HD.out d (by omega)
    refine F.vl (R_ixSlice (sz := 1) rfl ((F.at rfl).trans (xa9 _ _)) (F.at rfl) Try.underlying22 (by kernel_rfl) (by omega) (by omega)) ?_; clear F fa; intro fa F
    refine F.vl (R_load rfl (F.at rfl) Try.underlying25 rfl (xr9 _ E 0 _ rfl)) ?_; clear F fa; intro fa F
    rw [hla] at F
    refine F.as ?_; clear F fa; intro fa F
    refine F.as ?_; clear F fa; intro fa F
    refine wpList_nil ?_
    refine hK8 _ _ ?_
    clear hK8
    refine wp_seq_k fun K10 hK10 => ?_
    refine wp_region_lit ?_
    refine F.mv ?_; clear F fa; intro fa F
    refine F.vl (R_len rfl rfl (F.at rfl) Try.underlying25) ?_; clear F fa; intro fa F
    refine F.vl (R_move rfl (ev_c fa _)) ?_; clear F fa; intro fa F
    refine wpList_nil ?_
    refine hK10 _ _ ?_
    clear hK10
    refine wp_block ?_
    have F0 := F.sub (.c 3 rfl (.c 5 rfl (.c 6 rfl (.c 16 rfl (.c 17 rfl (.c 18 rfl (.c 23 rfl (.c 24 rfl .n))))))))
    refine lp_for F0 (bn) (fun i Lv W => Lv = [(25, .int .i64 ((i : Nat) : Int))] ∧ Ext [] w W ∧ W.heap[n2]? = some (.cells #[.int .i64 x.B, .slice x.da x.D.length x.dc, .slice x.la x.L.length x.lc, .int .i64 x.tol] 80 (0, 0)) ∧ W.heap[n3]? = some (.cells (tubC f) 83 (0, 0)) ∧ W.ownsRow w.heap.size 3 1 (.slice (some ⟨n13, 0, none⟩) bn bn) bn (ivs (sumR x f bn d i))) ⟨_, ⟨rfl, E, q2, q3, oo⟩, F.sub (.c 25 rfl (.c 3 rfl (.c 5 rfl (.c 6 rfl (.c 16 rfl (.c 17 rfl (.c 18 rfl (.c 23 rfl (.c 24 rfl .n)))))))))⟩ ?_
    clear F F0
    clear E q2 q3
    clear oo
    rintro i _ fa w5 hi2 ⟨rfl, E, q2, q3, oo⟩ F
    refine wp_seq_k fun K11 hK11 => ?_
    refine wp_region_lit ?_
    refine F.vl (R_lss rfl (F.at rfl) (F.at rfl)) ?_; clear F fa; intro fa F
    refine wpList_nil ?_
    refine hK11 _ _ ?_
    clear hK11
    refine wp_seq_k fun K12 hK12 => ?_
    refine cd_if F rfl (fun hc26 => ?_) (fun hc26 => ?_)
    · skip
      refine wp_skip ?_
      refine hK12 _ _ ?_
      clear hK12
      refine wp_seq_k fun K13 hK13 => ?_
      refine wp_block ?_
      refine wp_seq_k fun K14 hK14 => ?_
      refine wp_region_lit ?_
      refine F.mv ?_; clear F fa; intro fa F
      obtain ⟨xb15, xo15, xa15, xr15⟩ := HLR.out i (by omega)
      refine F.vl (R_ixSlice (sz := 1) rfl ((F.at rfl).trans (xa15 _ _)) (F.at rfl) Try.underlying25 (by kernel_rfl) (by omega) (by omega)) ?_; clear F fa; intro fa F
      refine F.vl (R_load rfl (F.at rfl) Try.underlying3 rfl (xr15 _ E 0 _ rfl)) ?_; clear F fa; intro fa F
      refine F.as ?_; clear F fa; intro fa F
      refine F.as ?_; clear F fa; intro fa F
      refine wpList_nil ?_
      refine hK14 _ _ ?_
      clear hK14
      have hml := sumR_len x f bn d i
      have hmk := sumR_get x f d (show i < bn by omega)
      have hst := sumR_set x f d (show i < bn by omega)
      have EX : Ext [] w5 w5 := Ext.refl _ _
      have HS := Lib.hid (slAt_of_ivs oo hml.symm [] (by simp))
      have hil := ivs_lenZ (sumR x f bn d i)
      obtain ⟨hf0, hf1⟩ := HF.out d (by omega)
      obtain ⟨hg0, hg1⟩ := dye_bd HV.out (show d < x.D.length by omega) i
      simp only [val, Vm.dye] at hg0 hg1
      obtain ⟨hp0, hp1⟩ := mul_bd hf0 (by omega) hg0 (by omega)
      obtain ⟨ht0, ht1⟩ := tonE_bd HV.out HF.out i (show d ≤ x.D.length by omega)
      refine wp_region_st 11 follows (by kernel_rfl) fun w6 hh eh => ?_
      replace q2 := keep_same hh q2
      replace q3 := keep_same hh q3
      replace E := ext_same E eh
      replace EX := ext_same EX eh
      replace oo := owns_same hh oo
      clear hh eh
      refine F.smv ?_; clear F fa; intro fa F
      refine F.smv ?_; clear F fa; intro fa F
      obtain ⟨xb16, xo16, xa16, xr16⟩ := HS.out i (by omega)
      refine F.sv (R_ixSlice (sz := 1) rfl ((F.at rfl).trans (xa16 _ _)) (F.at rfl) Try.underlying25 (by kernel_rfl) (by omega) (by omega)) ?_; clear F fa; intro fa F
      refine F.sv (R_load rfl (F.at rfl) Try.underlying3 rfl (xr16 _ EX 0 _ rfl)) ?_; clear F fa; intro fa F
      refine F.smv ?_; clear F fa; intro fa F
      refine F.sv (R_ixArr (n := 4) (sz := 1) rfl (F.at rfl) (F.at rfl) Try.underlying83 (by kernel_rfl) (by omega) (by omega)) ?_; clear F fa; intro fa F
      refine F.sv (R_load rfl (F.at rfl) Try.underlying3 rfl (tub_at q3 (k := d) rfl (by omega))) ?_; clear F fa; intro fa F
      refine F.smv ?_; clear F fa; intro fa F
      refine F.sv (R_mul rfl (F.at rfl) (F.at rfl) (by omega) (by omega)) ?_; clear F fa; intro fa F
      refine F.sv (R_add rfl (F.at rfl) (F.at rfl) (by omega) (by omega)) ?_; clear F fa; intro fa F
      obtain ⟨xb17, xo17, xa17, xr17⟩ := HS.out i (by omega)
      refine F.sv (R_ixSlice (sz := 1) rfl ((F.at rfl).trans (xa17 _ _)) (F.at rfl) Try.underlying25 (by kernel_rfl) (by omega) (by omega)) ?_; clear F fa; intro fa F
      refine wpStill_nil ?_
      obtain ⟨⟨u0, hcu⟩, hfu, hst⟩ := owns_at oo xa17 (j := i) (p := xo17 + ((i : Nat) : Int).toNat * 1) (by first | omega | (simp; omega)) (by omega)
      refine sq_to rfl rfl (R_store rfl (F.at rfl) (F.at rfl) rfl (by kernel_rfl) hcu hfu) ?_; intro w7 hw
      obtain ⟨hown', hg⟩ := hst _ _ hw
      clear hst hcu hfu hw
      replace q2 := keep_type oo hg q2 (by decide)
      replace q3 := keep_type oo hg q3 (by decide)
      replace E := ext_appendX E oo hg (by omega)
      replace oo := hown'
      clear hg
      rw [ivs_setZ, hmk, show tonE x f i d + f d * (x.D.getD d (.bool true, [])).2.getD i 0 = tonE x f i (d + 1) from rfl, hst] at oo
      refine wpList_nil ?_
      refine hK13 _ _ ?_
      clear hK13
      refine wp_region_lit ?_
      refine F.vl (R_add rfl (F.at rfl) (ev_c fa _) (by omega) (by omega)) ?_; clear F fa; intro fa F
      refine F.mv ?_; clear F fa; intro fa F
      refine wpList_nil ?_
      show _ ∧ _
      exact ⟨by omega, _, ⟨rfl, E, q2, q3, oo⟩, F.sub (.c 25 rfl (.c 3 rfl (.c 5 rfl (.c 6 rfl (.c 16 rfl (.c 17 rfl (.c 18 rfl (.c 23 rfl (.c 24 rfl .n)))))))))⟩
    · skip
      refine wp_exit ?_
      rw [show i = bn by omega, sumR_next] at oo
      refine hK7 _ _ ?_
      clear hK7
      refine wp_region_lit ?_
      refine F.vl (R_add rfl (F.at rfl) (ev_c fa _) (by omega) (by omega)) ?_; clear F fa; intro fa F
      refine F.mv ?_; clear F fa; intro fa F
      refine wpList_nil ?_
      show _ ∧ _
      exact ⟨by omega, _, ⟨rfl, E, q2, q3, oo⟩, F.sub (.c 18 rfl (.c 3 rfl (.c 5 rfl (.c 16 rfl (.c 17 rfl .n)))))⟩
  · skip
    refine wp_exit ?_
    rw [show d = x.D.length by omega, sumR_end] at oo
    refine hK3 _ _ ?_
    clear hK3
    refine wp_seq_k fun K18 hK18 => ?_
    refine wp_region_lit ?_
    refine F.mv ?_; clear F fa; intro fa F
    refine F.as ?_; clear F fa; intro fa F
    refine wpList_nil ?_
    refine hK18 _ _ ?_
    clear hK18
    refine wp_ret ?_
    (try simp only [Exit.inBlock, Exit.then, reduceIte])
    refine rt_v F (rs_1 F rfl rfl) ?_
    exact ⟨_, rfl, oo, E⟩
end Go.Proofs.Ytdjeecgddbjbeaa
