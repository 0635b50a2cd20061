/- Recipes, lamps out of lots. Conditions: the vat is valid; few draws. -/
import Derived.Test.YtdjeecgddbjbeaaDkw
namespace Go.Proofs.Ytdjeecgddbjbeaa
open Go.RowKit
set_option linter.unusedVariables false
set_option linter.unusedSimpArgs false
theorem sum_set : ∀ (xs : List Int) (i : Nat) (v : Int), i < xs.length → (xs.set i v).sum = xs.sum - xs.getD i 0 + v
  | [], i, v, h => by simp at h
  | x :: xs, 0, v, h => by simp; omega
  | x :: xs, i + 1, v, h => by
    have := sum_set xs i v (by simpa using h)
    simp only [List.set_cons_succ, List.sum_cons, this, List.getD_cons_succ]
    omega
theorem le_sum {xs : List Int} (h : ∀ n ∈ xs, 0 ≤ n) : ∀ n ∈ xs, n ≤ xs.sum := by
  induction xs with
  | nil => intro n hn; simp at hn
  | cons x xs ih =>
    intro n hn
    have h0 : 0 ≤ xs.sum := by
      clear ih hn
      induction xs with
      | nil => simp
      | cons y ys ih2 =>
        have := h y (by simp)
        have := ih2 fun m hm => h m (by simp only [List.mem_cons] at hm ⊢; rcases hm with rfl | hm <;> simp [*])
        simp only [List.sum_cons]; omega
    have hx := h x (by simp)
    rw [List.sum_cons]
    rcases List.mem_cons.1 hn with rfl | hn
    · omega
    · have := ih (fun m hm => h m (by simp [hm])) n hn; omega
def RcpPost (x : Vm) (w0 : World) (b k : Nat) (nv : Value) (w : World) (e : Ending) (w' : World) : Prop := ∃ (a : Option Addr) (xs : List Int), e = .returned (.slice a x.D.length x.D.length) ∧ RcpOk x xs ∧ w'.ownsRow w.heap.size 3 1 (.slice a x.D.length x.D.length) x.D.length (ivs xs) ∧ LotsOk w0 w' b (k + 10) nv ∧ Ext [b] w w'
set_option maxRecDepth 100000 in
set_option maxHeartbeats 1000000 in
theorem recipeOf_any (x : Vm) (hv : VOk x) (w0 w : World) (b k : Nat) (nv : Value) (h : LotsOk w0 w b k nv) (hk : k ≤ 900000) :
    Calls Try.prog 15 #[.pointer (some ⟨b, 0, none⟩), .agg #[.int .i64 x.B, .slice x.da x.D.length x.dc, .slice x.la x.L.length x.lc, .int .i64 x.tol]] w (RcpPost x w0 b k nv w) := by
  have HL := h
  have hbw := lots_lt HL
  have hws : w0.heap.size ≤ w.heap.size := HL.2.2.1.size
  have E : Ext [b] w w := Ext.refl _ _
  have hd1 := hv.d1
  have hd4 := hv.d4
  clear h hv
  refine calls_has 31 Try.func15 rfl Try.ntmps15 (Nat.le_of_ble_eq_true rfl) ?_
  intro fa F
  refine wp_seq_k fun K1 hK1 => ?_
  refine wp_region_lit ?_
  refine sq_new F rfl (by decide) rfl (R_box rfl (F.at rfl)) ?_; clear F fa; intro fa w1 F hw
  obtain ⟨n3, hn⟩ : ∃ n, n = w.heap.size := ⟨_, rfl⟩
  rw [← hn] at F
  have s3 : w.heap.size ≤ n3 := Nat.le_of_eq hn.symm
  have l3_E : w.heap.size ≤ n3 := by rw [hn]; exact E.size
  have b3_HL := Nat.lt_of_lt_of_eq (lots_lt HL) hn.symm
  replace E := ext_alloc E hw
  replace HL := lots_alloc hw HL
  have q3 := new_row hw hn
  clear hw hn
  refine F.vl (R_assign rfl (ev_c fa _)) ?_; clear F fa; intro fa F
  refine wpList_nil ?_
  refine hK1 _ _ ?_
  clear hK1
  refine wp_seq_k fun K2 hK2 => ?_
  refine wp_region_lit ?_
  refine F.vl (R_field rfl (F.at rfl) Try.underlying24 rfl (n := 1) (sz := 1) rfl (by kernel_rfl) (by decide)) ?_; clear F fa; intro fa F
  refine F.vl (R_load rfl (F.at rfl) Try.underlying22 rfl ((cells_of_block q3 1).trans (getS (get0)))) ?_; clear F fa; intro fa F
  refine F.vl (R_len rfl rfl (F.at rfl) Try.underlying22) ?_; clear F fa; intro fa F
  have hEs := E.size
  refine sq_some F rfl (by decide) rfl (make_run rfl (w.heap.size) (e := 3) (bytes := 8) (z := .int .i64 0) Try.underlying25 (by kernel_rfl) rfl (F.at rfl) (F.at rfl) (n := x.D.length) (by omega) (by decide) (by omega)) ?_; clear F fa; rintro fa v' w2 F ⟨oo, hg, rfl⟩
  obtain ⟨n10, hn⟩ : ∃ n, n = w1.heap.size := ⟨_, rfl⟩
  rw [← hn] at F oo
  have s10 : w1.heap.size ≤ n10 := Nat.le_of_eq hn.symm
  replace q3 := keep_none hg q3
  replace E := ext_none E hg
  replace HL := lots_ext (ext_none (Ext.refl [] _) hg) HL
  clear hg hn
  rw [show List.replicate x.D.length (Value.int .i64 0) = ivs (List.replicate x.D.length 0) by simp [ivs]] at oo
  refine F.as ?_; clear F fa; intro fa F
  refine wpList_nil ?_
  refine hK2 _ _ ?_
  clear hK2
  refine wp_seq_k fun K3 hK3 => ?_
  refine wp_seq_k fun K4 hK4 => ?_
  refine wp_region_lit ?_
  refine F.mv ?_; clear F fa; intro fa F
  refine F.mv ?_; clear F fa; intro fa F
  refine sq_new F rfl (by decide) rfl (R_buildSliceV rfl (prS (ev_c fa _) (prS (ev_c fa _) (prS (ev_c fa _) (prS (ev_c fa _) pr0)))) Try.underlying25 (size := 1) (by kernel_rfl) (by decide) (by decide) Try.zeroValue3 (cells := #[.int .i64 1, .int .i64 2, .int .i64 3, .int .i64 6]) (by kernel_rfl)) ?_; clear F fa; intro fa w3 F hw
  obtain ⟨n13, hn⟩ : ∃ n, n = w2.heap.size := ⟨_, rfl⟩
  rw [← hn] at F
  have s13 : w2.heap.size ≤ n13 := Nat.le_of_eq hn.symm
  have l13_E : w.heap.size ≤ n13 := by rw [hn]; exact E.size
  have b13_HL := Nat.lt_of_lt_of_eq (lots_lt HL) hn.symm
  have m13_3 : n3 < n13 := by rw [hn]; exact blk_lt q3
  have o13_oo := Lib.hid (own_ne_new oo hn)
  replace oo := owns_alloc hw oo
  replace q3 := keep_alloc hw q3
  replace E := ext_alloc E hw
  replace HL := lots_alloc hw HL
  have q13 := new_block hw hn
  clear hw hn
  refine sq_call F rfl (by decide) rfl (R_callV rfl rfl Try.call50 (mpS (F.at rfl) (mpS (F.at rfl) mp0))) (of_any w0 _ b _ nv n13 _ [1, 2, 3, 6] HL (by omega) q13 (by omega) (by decide) (by decide)) fun e w4 hR => ?_
  obtain ⟨v, rfl, hvm, HL, e9⟩ := hR
  refine ⟨_, rfl, ?_⟩; clear F fa; intro fa F
  replace oo := owns_ext oo (e9) (by simp; omega)
  replace q3 := (e9).keep q3 (by simp; omega)
  replace q13 := (e9).keep q13 (by simp; omega)
  replace E := E.trans' e9 (fun i hi hl => by simp only [List.mem_cons, List.not_mem_nil, or_false] at hi ⊢; omega)
  have hv6 : 1 ≤ v ∧ v ≤ 6 := by simp only [List.mem_cons, List.not_mem_nil, or_false] at hvm; omega
  refine sq_call F rfl (by decide) rfl (R_callV rfl rfl Try.call49 (mpS (F.at rfl) (mpS (ev_c fa _) (mpS (F.at rfl) mp0)))) (in_any w0 _ b _ nv 1 v HL (by omega) (by omega) (by omega) (by omega) (by omega)) fun e w5 hR => ?_
  obtain ⟨n, rfl, hn1, hn2, HL, e9⟩ := hR
  refine ⟨_, rfl, ?_⟩; clear F fa; intro fa F
  replace oo := owns_ext oo (e9) (by simp; omega)
  replace q3 := (e9).keep q3 (by simp; omega)
  replace q13 := (e9).keep q13 (by simp; omega)
  replace E := E.trans' e9 (fun i hi hl => by simp only [List.mem_cons, List.not_mem_nil, or_false] at hi ⊢; omega)
  refine F.as ?_; clear F fa; intro fa F
  refine wpList_nil ?_
  rw [show n = n - ((0 : Nat) : Int) by omega] at F
  refine hK4 _ _ ?_
  clear hK4
  refine wp_block ?_
  have F0 := F.sub (.c 0 rfl (.c 5 rfl .n))
  replace HL : LotsOk w0 w5 b (k + 2 + 0) nv := lots_mono HL (by omega)
  refine lp_for F0 (6) (fun i Lv W => ∃ xs : List Int, Lv = [(6, .int .i64 (n - ((i : Nat) : Int)))] ∧ Ext [b] w W ∧ W.heap[n3]? = some (.cells #[.int .i64 x.B, .slice x.da x.D.length x.dc, .slice x.la x.L.length x.lc, .int .i64 x.tol] 24 (0, 0)) ∧ LotsOk w0 W b (k + 2 + i) nv ∧ W.ownsRow w.heap.size 3 1 (.slice (some ⟨n10, 0, none⟩) x.D.length x.D.length) x.D.length (ivs xs) ∧ xs.length = x.D.length ∧ (∀ m ∈ xs, 0 ≤ m) ∧ xs.sum = i ∧ (i : Int) ≤ n) ⟨_, ⟨_, rfl, E, q3, HL, oo, (by simp), (by simp), (by simp), (by omega)⟩, F.sub (.c 6 rfl (.c 0 rfl (.c 5 rfl .n)))⟩ ?_
  clear F F0
  clear E q3 HL
  clear oo
  rintro i _ fa w6 hi1 ⟨xs, rfl, E, q3, HL, oo, hxl, hx0, hxs, hin⟩ F
  refine wp_seq_k fun K5 hK5 => ?_
  refine wp_seq_k fun K6 hK6 => ?_
  refine wp_region_lit ?_
  refine F.mv ?_; clear F fa; intro fa F
  refine F.vl (R_gtr rfl (F.at rfl) (ev_c fa _)) ?_; clear F fa; intro fa F
  refine wpList_nil ?_
  refine hK6 _ _ ?_
  clear hK6
  refine cd_if F rfl (fun hc17 => ?_) (fun hc17 => ?_)
  · skip
    refine wp_skip ?_
    refine hK5 _ _ ?_
    clear hK5
    refine wp_seq_k fun K7 hK7 => ?_
    refine wp_block ?_
    refine wp_region_lit ?_
    refine F.mv ?_; clear F fa; intro fa F
    refine F.mv ?_; clear F fa; intro fa F
    refine F.mv ?_; clear F fa; intro fa F
    refine F.vl (R_len rfl rfl (F.at rfl) Try.underlying25) ?_; clear F fa; intro fa F
    refine F.vl (R_sub rfl (F.at rfl) (ev_c fa _) (by omega) (by omega)) ?_; clear F fa; intro fa F
    refine sq_call F rfl (by decide) rfl (R_callV rfl rfl Try.call26 (mpS (F.at rfl) (mpS (F.at rfl) mp0))) (upto_any w0 _ b _ nv (((x.D.length : Nat) : Int) - 1) HL (by omega) (by omega) (by omega)) fun e w7 hR => ?_
    obtain ⟨u, rfl, hu0, hu1, HL, e9⟩ := hR
    refine ⟨_, rfl, ?_⟩; clear F fa; intro fa F
    replace oo := owns_ext oo (e9) (by simp; omega)
    replace q3 := (e9).keep q3 (by simp; omega)
    replace E := E.trans' e9 (fun i hi hl => by simp only [List.mem_cons, List.not_mem_nil, or_false] at hi ⊢; omega)
    obtain ⟨u, rfl⟩ := Int.eq_ofNat_of_zero_le hu0
    have hux : u < xs.length := by rw [hxl]; omega
    have EX : Ext [] w7 w7 := Ext.refl _ _
    have HS := Lib.hid (slAt_of_ivs oo hxl.symm [] (by simp))
    have hil := ivs_lenZ xs
    have hm0 := hx0 _ (getD_mem 0 hux)
    have hmS := le_sum hx0 _ (getD_mem 0 hux)
    obtain ⟨xb8, xo8, xa8, xr8⟩ := HS.out u (by omega)
    refine F.vl (R_ixSlice (sz := 1) rfl ((F.at rfl).trans (xa8 _ _)) (F.at rfl) Try.underlying25 (by kernel_rfl) (by omega) (by omega)) ?_; clear F fa; intro fa F
    refine F.vl (R_load rfl (F.at rfl) Try.underlying3 rfl (xr8 _ EX 0 _ rfl)) ?_; clear F fa; intro fa F
    refine F.vl (R_add rfl (F.at rfl) (ev_c fa _) (by omega) (by omega)) ?_; clear F fa; intro fa F
    obtain ⟨xb9, xo9, xa9, xr9⟩ := HS.out u (by omega)
    refine F.vl (R_ixSlice (sz := 1) rfl ((F.at rfl).trans (xa9 _ _)) (F.at rfl) Try.underlying25 (by kernel_rfl) (by omega) (by omega)) ?_; clear F fa; intro fa F
    obtain ⟨⟨u0, hcu⟩, hfu, hst⟩ := owns_at oo xa9 (j := u) (p := xo9 + ((u : Nat) : Int).toNat * 1) (by first | omega | (simp; omega)) (by omega)
    refine sq_to rfl rfl (R_store rfl (F.at rfl) (F.at rfl) rfl (by kernel_rfl) hcu hfu) ?_; intro w8 hw
    obtain ⟨hown', hg⟩ := hst _ _ hw
    clear hst hcu hfu hw
    replace q3 := keep_type oo hg q3 (by decide)
    replace HL := lots_append HL oo hg (by omega) (by decide)
    replace E := ext_appendX E oo hg (by omega)
    replace oo := hown'
    clear hg
    rw [ivs_setZ] at oo
    have hst := sum_set xs u (xs.getD u 0 + 1) hux
    have hx2 : ∀ m ∈ xs.set u (xs.getD u 0 + 1), 0 ≤ m := by intro m hm; rcases List.mem_or_eq_of_mem_set hm with hm | rfl; (· exact hx0 m hm); (· omega)
    refine wpList_nil ?_
    refine hK7 _ _ ?_
    clear hK7
    refine wp_region_lit ?_
    refine F.mv ?_; clear F fa; intro fa F
    refine F.vl (R_sub rfl (F.at rfl) (ev_c fa _) (by omega) (by omega)) ?_; clear F fa; intro fa F
    rw [show n - ((i : Nat) : Int) - 1 = n - ((i + 1 : Nat) : Int) by omega] at F
    refine F.as ?_; clear F fa; intro fa F
    refine wpList_nil ?_
    replace HL : LotsOk w0 w8 b (k + 2 + (i + 1)) nv := lots_mono HL (by omega)
    show _ ∧ _
    exact ⟨by omega, _, ⟨_, rfl, E, q3, HL, oo, (by rw [List.length_set]; exact hxl), hx2, (by omega), (by omega)⟩, F.sub (.c 6 rfl (.c 0 rfl (.c 5 rfl .n)))⟩
  · skip
    refine wp_exit ?_
    refine hK3 _ _ ?_
    clear hK3
    refine wp_seq_k fun K10 hK10 => ?_
    refine wp_region_lit ?_
    refine F.mv ?_; clear F fa; intro fa F
    refine F.as ?_; clear F fa; intro fa F
    refine wpList_nil ?_
    refine hK10 _ _ ?_
    clear hK10
    refine wp_ret ?_
    (try simp only [Exit.inBlock, Exit.then, reduceIte])
    refine rt_v F (rs_1 F rfl rfl) ?_
    refine ⟨_, xs, rfl, ⟨hxl, fun m hm => ⟨hx0 m hm, ?_⟩, by omega, by omega⟩, oo, lots_mono HL (by omega), E⟩
    have := le_sum hx0 m hm; omega
theorem nonneg_sum {xs : List Int} (h : ∀ n ∈ xs, 0 ≤ n) : 0 ≤ xs.sum := by
  induction xs with
  | nil => simp
  | cons y ys ih =>
    have := h y (by simp)
    have := ih fun m hm => h m (by simp [hm])
    simp only [List.sum_cons]; omega
theorem asc_snoc {xs : List Int} {n : Int} (h : ∀ i, 0 < i → i < xs.length → xs.getD (i - 1) 0 < xs.getD i 0) (hb : ∀ m ∈ xs, m < n) : ∀ i, 0 < i → i < (xs ++ [n]).length → (xs ++ [n]).getD (i - 1) 0 < (xs ++ [n]).getD i 0 := by
  intro i h0 h1
  simp only [List.length_append, List.length_cons, List.length_nil] at h1
  by_cases hi : i < xs.length
  · have := h i h0 hi
    simpa [List.getD_eq_getElem?_getD, List.getElem?_append_left, hi, show i - 1 < xs.length by omega] using this
  · obtain rfl : i = xs.length := by omega
    have := hb _ (getD_mem 0 (show xs.length - 1 < xs.length by omega))
    simpa [List.getD_eq_getElem?_getD, List.getElem?_append_left, show xs.length - 1 < xs.length by omega] using this
def LmpPost (x : Vm) (w0 : World) (b k : Nat) (nv : Value) (w : World) (e : Ending) (w' : World) : Prop := ∃ (a : Option Addr) (c : Nat) (xs : List Int), e = .returned (.slice a xs.length c) ∧ LmpsOk x xs ∧ xs.length ≤ 3 ∧ w'.ownsRow w.heap.size 3 1 (.slice a xs.length c) xs.length (ivs xs) ∧ LotsOk w0 w' b (k + 10) nv ∧ Ext [b] w w'
set_option maxRecDepth 100000 in
set_option maxHeartbeats 1000000 in
theorem lampsOf_any (x : Vm) (hv : VOk x) (w0 w : World) (b k : Nat) (nv : Value) (h : LotsOk w0 w b k nv) (hk : k ≤ 900000) :
    Calls Try.prog 17 #[.pointer (some ⟨b, 0, none⟩), .agg #[.int .i64 x.B, .slice x.da x.D.length x.dc, .slice x.la x.L.length x.lc, .int .i64 x.tol]] w (LmpPost x w0 b k nv w) := by
  have HL := h
  have hbw := lots_lt HL
  have hws : w0.heap.size ≤ w.heap.size := HL.2.2.1.size
  have E : Ext [b] w w := Ext.refl _ _
  have hl1 := hv.l1
  have hl3 := hv.l3
  have oo : w.ownsRow w.heap.size 3 1 (.slice none 0 0) 0 (ivs []) := World.ownsRow_nil _ _ _ _
  clear h hv
  refine calls_has 31 Try.func17 rfl Try.ntmps17 (Nat.le_of_ble_eq_true rfl) ?_
  intro fa F
  refine wp_seq_k fun K1 hK1 => ?_
  refine wp_region_lit ?_
  refine sq_new F rfl (by decide) rfl (R_box rfl (F.at rfl)) ?_; clear F fa; intro fa w1 F hw
  obtain ⟨n3, hn⟩ : ∃ n, n = w.heap.size := ⟨_, rfl⟩
  rw [← hn] at F
  have s3 : w.heap.size ≤ n3 := Nat.le_of_eq hn.symm
  have l3_E : w.heap.size ≤ n3 := by rw [hn]; exact E.size
  have b3_HL := Nat.lt_of_lt_of_eq (lots_lt HL) hn.symm
  have o3_oo := Lib.hid (own_ne_new oo hn)
  replace oo := owns_alloc hw oo
  replace E := ext_alloc E hw
  replace HL := lots_alloc hw HL
  have q3 := new_row hw hn
  clear hw hn
  refine F.vl (R_assign rfl (ev_c fa _)) ?_; clear F fa; intro fa F
  refine wpList_nil ?_
  refine hK1 _ _ ?_
  clear hK1
  refine wp_seq_k fun K2 hK2 => ?_
  refine wp_region_lit ?_
  refine F.vl (R_assign rfl (ev_c fa _)) ?_; clear F fa; intro fa F
  refine wpList_nil ?_
  refine hK2 _ _ ?_
  clear hK2
  refine wp_seq_k fun K3 hK3 => ?_
  refine wp_seq_k fun K4 hK4 => ?_
  refine wp_region_lit ?_
  refine F.vl (R_assign rfl (ev_c fa _)) ?_; clear F fa; intro fa F
  refine wpList_nil ?_
  refine hK4 _ _ ?_
  clear hK4
  refine wp_block ?_
  have F0 := F.sub (.c 0 rfl (.c 3 rfl .n))
  replace HL : LotsOk w0 w1 b (k + 0) nv := lots_mono HL (by omega)
  refine lp_for F0 (x.L.length) (fun i Lv W => ∃ va : Option Addr, ∃ vc : Nat, ∃ xs : List Int, Lv = [(5, .slice va xs.length vc), (6, .int .i64 ((i : Nat) : Int))] ∧ Ext [b] w W ∧ W.heap[n3]? = some (.cells #[.int .i64 x.B, .slice x.da x.D.length x.dc, .slice x.la x.L.length x.lc, .int .i64 x.tol] 24 (0, 0)) ∧ LotsOk w0 W b (k + i) nv ∧ W.ownsRow w.heap.size 3 1 (.slice va xs.length vc) xs.length (ivs xs) ∧ (∀ m ∈ xs, 0 ≤ m ∧ m < i) ∧ (∀ j, 0 < j → j < xs.length → xs.getD (j - 1) 0 < xs.getD j 0) ∧ xs.length ≤ i) ⟨_, ⟨none, 0, [], rfl, E, q3, HL, oo, (by simp), (by simp), (by simp)⟩, F.sub (.c 5 rfl (.c 6 rfl (.c 0 rfl (.c 3 rfl .n))))⟩ ?_
  clear F F0
  clear E q3 HL
  clear oo
  rintro i _ fa w2 hi1 ⟨va, vc, xs, rfl, E, q3, HL, oo, hxb, hxa, hxl⟩ F
  refine wp_seq_k fun K5 hK5 => ?_
  refine wp_seq_k fun K6 hK6 => ?_
  refine wp_region_lit ?_
  refine F.mv ?_; clear F fa; intro fa F
  refine F.vl (R_field rfl (F.at rfl) Try.underlying24 rfl (n := 2) (sz := 1) rfl (by kernel_rfl) (by decide)) ?_; clear F fa; intro fa F
  refine F.vl (R_load rfl (F.at rfl) Try.underlying22 rfl ((cells_of_block q3 2).trans (getS (getS (get0))))) ?_; clear F fa; intro fa F
  refine F.vl (R_len rfl rfl (F.at rfl) Try.underlying22) ?_; clear F fa; intro fa F
  refine F.vl (R_lss rfl (F.at rfl) (F.at rfl)) ?_; clear F fa; intro fa F
  refine wpList_nil ?_
  refine hK6 _ _ ?_
  clear hK6
  refine cd_if F rfl (fun hc11 => ?_) (fun hc11 => ?_)
  · skip
    refine wp_skip ?_
    refine hK5 _ _ ?_
    clear hK5
    refine wp_seq_k fun K7 hK7 => ?_
    refine wp_block ?_
    refine wp_seq_k fun K8 hK8 => ?_
    refine wp_region_lit ?_
    refine F.mv ?_; clear F fa; intro fa F
    refine sq_call F rfl (by decide) rfl (R_callV rfl rfl Try.call52 (mpS (F.at rfl) (mpS (ev_c fa _) mp0))) (rare_any w0 _ b _ nv 2 HL (by omega) (by omega) (by omega)) fun e w3 hR => ?_
    obtain ⟨r, rfl, HL, e9⟩ := hR
    refine ⟨_, rfl, ?_⟩; clear F fa; intro fa F
    replace oo := owns_ext oo (e9) (by simp; omega)
    replace q3 := (e9).keep q3 (by simp; omega)
    replace E := E.trans' e9 (fun i hi hl => by simp only [List.mem_cons, List.not_mem_nil, or_false] at hi ⊢; omega)
    refine wpList_nil ?_
    refine hK8 _ _ ?_
    clear hK8
    refine cd_b F rfl (fun hc15 => ?_) (fun hc15 => ?_)
    · skip
      refine wp_region_lit ?_
      refine F.mv ?_; clear F fa; intro fa F
      refine F.mv ?_; clear F fa; intro fa F
      refine sq_new F rfl (by decide) rfl (R_buildSliceV rfl (prS (F.at rfl) pr0) Try.underlying25 (size := 1) (by kernel_rfl) (by decide) (by decide) Try.zeroValue3 (cells := #[.int .i64 ((i : Nat) : Int)]) (by kernel_rfl)) ?_; clear F fa; intro fa w4 F hw
      obtain ⟨n18, hn⟩ : ∃ n, n = w3.heap.size := ⟨_, rfl⟩
      rw [← hn] at F
      have s18 : w3.heap.size ≤ n18 := Nat.le_of_eq hn.symm
      have l18_E : w.heap.size ≤ n18 := by rw [hn]; exact E.size
      have b18_HL := Nat.lt_of_lt_of_eq (lots_lt HL) hn.symm
      have m18_3 : n3 < n18 := by rw [hn]; exact blk_lt q3
      have o18_oo := Lib.hid (own_ne_new oo hn)
      replace oo := owns_alloc hw oo
      replace q3 := keep_alloc hw q3
      replace E := ext_alloc E hw
      replace HL := lots_alloc hw HL
      have q18 := new_block hw hn
      clear hw hn
      have hzE := E.size
      refine sq_some F rfl (by decide) rfl (append_run rfl (w.heap.size) (e := 3) (size := 1) (bytes := 8) Try.underlying25 (by kernel_rfl) (by decide) (F.at rfl) oo (F.at rfl) q18 rfl (by simp [Value.oneCell']) (by omega) (by omega) (by omega)) ?_; clear F fa; rintro fa v' w5 F ⟨hown', hg⟩
      obtain ⟨va19, vc19, rfl⟩ := owns_slice hown'
      replace q3 := keep_type oo hg q3 (by decide)
      replace HL := lots_append HL oo hg (by omega) (by decide)
      replace E := ext_appendX E oo hg (by omega)
      replace oo := hown'
      clear hg
      rw [ivs_snoc1] at oo
      replace hxa := asc_snoc hxa (fun m hm => (hxb m hm).2)
      replace hxb : ∀ m ∈ xs ++ [((i : Nat) : Int)], 0 ≤ m ∧ m < ((i + 1 : Nat) : Int) := by intro m hm; rcases List.mem_append.1 hm with hm | hm; (· have := hxb m hm; omega); (· simp at hm; omega)
      obtain ⟨ys, hys⟩ : ∃ ys, ys = xs ++ [((i : Nat) : Int)] := ⟨_, rfl⟩
      have hyl : xs.length + 1 = ys.length := by rw [hys, List.length_append]; rfl
      rw [hyl] at F oo
      rw [← hys] at oo hxa hxb
      replace hxl : ys.length ≤ i + 1 := by omega
      refine F.as ?_; clear F fa; intro fa F
      refine wpList_nil ?_
      refine hK7 _ _ ?_
      clear hK7
      refine wp_region_lit ?_
      refine F.mv ?_; clear F fa; intro fa F
      refine F.vl (R_add rfl (F.at rfl) (ev_c fa _) (by omega) (by omega)) ?_; clear F fa; intro fa F
      refine F.as ?_; clear F fa; intro fa F
      refine wpList_nil ?_
      replace hxb : ∀ m ∈ _, 0 ≤ m ∧ m < ((i + 1 : Nat) : Int) := fun m hm => (by have := hxb m hm; omega)
      replace hxl := Nat.le_trans hxl (Nat.le_refl _)
      replace HL : LotsOk w0 w5 b (k + (i + 1)) nv := lots_mono HL (by omega)
      show _ ∧ _
      exact ⟨by omega, _, ⟨_, _, _, rfl, E, q3, HL, oo, hxb, hxa, hxl⟩, F.sub (.c 5 rfl (.c 6 rfl (.c 0 rfl (.c 3 rfl .n))))⟩
    · skip
      replace hxl : xs.length ≤ i + 1 := by omega
      refine wp_skip ?_
      refine hK7 _ _ ?_
      clear hK7
      refine wp_region_lit ?_
      refine F.mv ?_; clear F fa; intro fa F
      refine F.vl (R_add rfl (F.at rfl) (ev_c fa _) (by omega) (by omega)) ?_; clear F fa; intro fa F
      refine F.as ?_; clear F fa; intro fa F
      refine wpList_nil ?_
      replace hxb : ∀ m ∈ _, 0 ≤ m ∧ m < ((i + 1 : Nat) : Int) := fun m hm => (by have := hxb m hm; omega)
      replace hxl := Nat.le_trans hxl (Nat.le_refl _)
      replace HL : LotsOk w0 w3 b (k + (i + 1)) nv := lots_mono HL (by omega)
      show _ ∧ _
      exact ⟨by omega, _, ⟨_, _, _, rfl, E, q3, HL, oo, hxb, hxa, hxl⟩, F.sub (.c 5 rfl (.c 6 rfl (.c 0 rfl (.c 3 rfl .n))))⟩
  · skip
    refine wp_exit ?_
    refine hK3 _ _ ?_
    clear hK3
    refine wp_seq_k fun K9 hK9 => ?_
    refine wp_seq_k fun K10 hK10 => ?_
    refine wp_region_lit ?_
    refine F.mv ?_; clear F fa; intro fa F
    refine F.vl (R_len rfl rfl (F.at rfl) Try.underlying25) ?_; clear F fa; intro fa F
    refine F.vl (R_eqlD rfl (F.at rfl) (ev_c fa _)) ?_; clear F fa; intro fa F
    refine wpList_nil ?_
    refine hK10 _ _ ?_
    clear hK10
    refine cd_if F rfl (fun hc22 => ?_) (fun hc22 => ?_)
    · skip
      have hx0 : xs.length = 0 := by omega
      refine wp_region_lit ?_
      refine F.mv ?_; clear F fa; intro fa F
      refine F.vl (R_field rfl (F.at rfl) Try.underlying24 rfl (n := 2) (sz := 1) rfl (by kernel_rfl) (by decide)) ?_; clear F fa; intro fa F
      refine F.vl (R_load rfl (F.at rfl) Try.underlying22 rfl ((cells_of_block q3 2).trans (getS (getS (get0))))) ?_; clear F fa; intro fa F
      refine F.vl (R_len rfl rfl (F.at rfl) Try.underlying22) ?_; clear F fa; intro fa F
      refine F.vl (R_sub rfl (F.at rfl) (ev_c fa _) (by omega) (by omega)) ?_; clear F fa; intro fa F
      refine sq_call F rfl (by decide) rfl (R_callV rfl rfl Try.call26 (mpS (F.at rfl) (mpS (F.at rfl) mp0))) (upto_any w0 _ b _ nv (((x.L.length : Nat) : Int) - 1) HL (by omega) (by omega) (by omega)) fun e w6 hR => ?_
      obtain ⟨u, rfl, hu0, hu1, HL, e9⟩ := hR
      refine ⟨_, rfl, ?_⟩; clear F fa; intro fa F
      replace oo := owns_ext oo (e9) (by simp; omega)
      replace q3 := (e9).keep q3 (by simp; omega)
      replace E := E.trans' e9 (fun i hi hl => by simp only [List.mem_cons, List.not_mem_nil, or_false] at hi ⊢; omega)
      refine sq_new F rfl (by decide) rfl (R_buildSliceV rfl (prS (F.at rfl) pr0) Try.underlying25 (size := 1) (by kernel_rfl) (by decide) (by decide) Try.zeroValue3 (cells := #[.int .i64 u]) (by kernel_rfl)) ?_; clear F fa; intro fa w7 F hw
      obtain ⟨n29, hn⟩ : ∃ n, n = w6.heap.size := ⟨_, rfl⟩
      rw [← hn] at F
      have s29 : w6.heap.size ≤ n29 := Nat.le_of_eq hn.symm
      have l29_E : w.heap.size ≤ n29 := by rw [hn]; exact E.size
      have b29_HL := Nat.lt_of_lt_of_eq (lots_lt HL) hn.symm
      have m29_3 : n3 < n29 := by rw [hn]; exact blk_lt q3
      have o29_oo := Lib.hid (own_ne_new oo hn)
      replace oo := owns_alloc hw oo
      replace q3 := keep_alloc hw q3
      replace E := ext_alloc E hw
      replace HL := lots_alloc hw HL
      have q29 := new_block hw hn
      clear hw hn
      have o2 := owns_lit1 (base := w.heap.size) q29 (by omega)
      refine F.as ?_; clear F fa; intro fa F
      refine wpList_nil ?_
      refine hK9 _ _ ?_
      clear hK9
      refine wp_seq_k fun K11 hK11 => ?_
      refine wp_region_lit ?_
      refine F.mv ?_; clear F fa; intro fa F
      refine F.as ?_; clear F fa; intro fa F
      refine wpList_nil ?_
      refine hK11 _ _ ?_
      clear hK11
      refine wp_ret ?_
      (try simp only [Exit.inBlock, Exit.then, reduceIte])
      refine rt_v F (rs_1 F rfl rfl) ?_
      exact ⟨some ⟨n29, 0, none⟩, 1, [u], rfl, ⟨by simp, fun m hm => (by simp only [List.mem_cons, List.not_mem_nil, or_false] at hm; omega), fun j h0 h1 => (by simp at h1; omega)⟩, by simp, o2, lots_mono HL (by omega), E⟩
    · skip
      refine wp_skip ?_
      refine hK9 _ _ ?_
      clear hK9
      refine wp_seq_k fun K12 hK12 => ?_
      refine wp_region_lit ?_
      refine F.mv ?_; clear F fa; intro fa F
      refine F.as ?_; clear F fa; intro fa F
      refine wpList_nil ?_
      refine hK12 _ _ ?_
      clear hK12
      refine wp_ret ?_
      (try simp only [Exit.inBlock, Exit.then, reduceIte])
      refine rt_v F (rs_1 F rfl rfl) ?_
      exact ⟨va, vc, xs, rfl, ⟨by omega, fun m hm => (by have := hxb m hm; omega), hxa⟩, by omega, oo, lots_mono HL (by omega), E⟩
end Go.Proofs.Ytdjeecgddbjbeaa
