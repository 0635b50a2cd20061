/- The making of vats out of lots: lists of tones. Conditions: at most a million draws. -/
import Derived.Test.YtdjeecgddbjbeaaDdw
namespace Go.Proofs.Ytdjeecgddbjbeaa
open Go.RowKit
set_option linter.unusedVariables false
set_option linter.unusedSimpArgs false
set_option maxRecDepth 100000 in
theorem tonesOf_any (w0 w : World) (b k : Nat) (nv : Value) (many : Nat) (most : Int) (h : LotsOk w0 w b k nv) (hk : k ≤ 900000) (hm : many ≤ 1000) (h0 : 0 ≤ most) (h1 : most ≤ 1000) :
    Calls Try.prog 90 #[.pointer (some ⟨b, 0, none⟩), .int .i64 ((many : Nat) : Int), .int .i64 most] w fun e w' => ∃ (a : Option Addr) (c : Nat) (xs : List Int), e = .returned (.slice a many c) ∧ xs.length = many ∧ (∀ n ∈ xs, 0 ≤ n ∧ n ≤ most) ∧ w'.ownsRow w.heap.size 3 1 (.slice a many c) many (ivs xs) ∧ LotsOk w0 w' b (k + 1 + 2 * many) nv ∧ Ext [b] w w' := by
  have HL := h
  have hbw := lots_lt HL
  have hws : w0.heap.size ≤ w.heap.size := HL.2.2.1.size
  have E : Ext [b] w w := Ext.refl _ _
  have oo : w.ownsRow w.heap.size 3 1 (.slice none 0 0) 0 (ivs []) := World.ownsRow_nil _ _ _ _
  clear h
  refine calls_has 33 Try.func90 rfl Try.ntmps90 (Nat.le_of_ble_eq_true rfl) ?_
  intro fa F
  refine wp_seq_k fun K1 hK1 => ?_
  refine wp_region_lit ?_
  refine F.vl (R_assign rfl (ev_c fa _)) ?_; clear F fa; intro fa F
  refine wpList_nil ?_
  refine hK1 _ _ ?_
  clear hK1
  refine wp_seq_k fun K2 hK2 => ?_
  refine wp_region_lit ?_
  refine F.vl (R_assign rfl (ev_c fa _)) ?_; clear F fa; intro fa F
  refine wpList_nil ?_
  refine hK2 _ _ ?_
  clear hK2
  refine wp_seq_k fun K3 hK3 => ?_
  refine wp_region_lit ?_
  refine F.mv ?_; clear F fa; intro fa F
  refine sq_call F rfl (by decide) rfl (R_callV rfl rfl Try.call52 (mpS (F.at rfl) (mpS (ev_c fa _) mp0))) (rare_any w0 _ b _ nv 2 HL (by omega) (by omega) (by omega)) fun e w1 hR => ?_
  obtain ⟨r, rfl, HL, e9⟩ := hR
  refine ⟨_, rfl, ?_⟩; clear F fa; intro fa F
  replace oo := owns_ext oo (e9) (by simp; omega)
  replace E := E.trans' e9 (fun i hi hl => by simp only [List.mem_cons, List.not_mem_nil, or_false] at hi ⊢; omega)
  refine F.as ?_; clear F fa; intro fa F
  refine wpList_nil ?_
  refine hK3 _ _ ?_
  clear hK3
  refine wp_seq_k fun K4 hK4 => ?_
  refine wp_seq_k fun K5 hK5 => ?_
  refine wp_region_lit ?_
  refine F.vl (R_assign rfl (ev_c fa _)) ?_; clear F fa; intro fa F
  refine wpList_nil ?_
  refine hK5 _ _ ?_
  clear hK5
  refine wp_block ?_
  have F0 := F.sub (.c 0 rfl (.c 1 rfl (.c 2 rfl (.c 8 rfl .n))))
  replace HL : LotsOk w0 w1 b (k + 1 + 2 * 0) nv := lots_mono HL (by omega)
  refine lp_for F0 (many) (fun i Lv W => ∃ va : Option Addr, ∃ vc : Nat, ∃ xs : List Int, Lv = [(7, .slice va i vc), (9, .int .i64 ((i : Nat) : Int))] ∧ Ext [b] w W ∧ LotsOk w0 W b (k + 1 + 2 * i) nv ∧ W.ownsRow w.heap.size 3 1 (.slice va i vc) i (ivs xs) ∧ xs.length = i ∧ ∀ n ∈ xs, 0 ≤ n ∧ n ≤ most) ⟨_, ⟨none, 0, [], rfl, E, HL, oo, rfl, (by simp)⟩, F.sub (.c 7 rfl (.c 9 rfl (.c 0 rfl (.c 1 rfl (.c 2 rfl (.c 8 rfl .n))))))⟩ ?_
  clear F F0
  clear E HL
  clear oo
  rintro i _ fa w2 hi1 ⟨va, vc, xs, rfl, E, HL, oo, hxl, hxb⟩ F
  refine wp_seq_k fun K6 hK6 => ?_
  refine wp_seq_k fun K7 hK7 => ?_
  refine wp_region_lit ?_
  refine F.mv ?_; clear F fa; intro fa F
  refine F.mv ?_; clear F fa; intro fa F
  refine F.vl (R_lss rfl (F.at rfl) (F.at rfl)) ?_; clear F fa; intro fa F
  refine wpList_nil ?_
  refine hK7 _ _ ?_
  clear hK7
  refine cd_if F rfl (fun hc14 => ?_) (fun hc14 => ?_)
  · skip
    refine wp_skip ?_
    refine hK6 _ _ ?_
    clear hK6
    refine wp_seq_k fun K8 hK8 => ?_
    refine wp_block ?_
    refine wp_seq_k fun K9 hK9 => ?_
    refine wp_region_lit ?_
    refine F.mv ?_; clear F fa; intro fa F
    refine F.mv ?_; clear F fa; intro fa F
    cases hg1 : r
    · skip
      replace F := F.re (k := 18) rfl (congrArg Value.bool hg1)
      refine sq_no F rfl (by decide) (wantF F rfl rfl (by decide) rfl (by decide)) ?_; clear F fa; intro fa F
      refine sq_no F rfl (by decide) (wantF F rfl rfl (by decide) rfl (by decide)) ?_; clear F fa; intro fa F
      refine sq_no F rfl (by decide) (wantF F rfl rfl (by decide) rfl (by decide)) ?_; clear F fa; intro fa F
      refine F.vl (R_pickF rfl (F.at rfl) (ev_c fa _)) ?_; clear F fa; intro fa F
      refine wpList_nil ?_
      refine hK9 _ _ ?_
      clear hK9
      refine cd_F F rfl ?_
      refine wp_region_lit ?_
      refine F.mv ?_; clear F fa; intro fa F
      refine F.mv ?_; clear F fa; intro fa F
      refine F.mv ?_; clear F fa; intro fa F
      refine sq_call F rfl (by decide) rfl (R_callV rfl rfl Try.call26 (mpS (F.at rfl) (mpS (F.at rfl) mp0))) (upto_any w0 _ b _ nv most HL (by omega) (by omega) (by omega)) fun e w3 hR => ?_
      obtain ⟨u, rfl, hu0, hu1, HL, e9⟩ := hR
      refine ⟨_, rfl, ?_⟩; clear F fa; intro fa F
      replace oo := owns_ext oo (e9) (by simp; omega)
      replace E := E.trans' e9 (fun i hi hl => by simp only [List.mem_cons, List.not_mem_nil, or_false] at hi ⊢; omega)
      refine sq_new F rfl (by decide) rfl (R_buildSliceV rfl (prS (F.at rfl) pr0) Try.underlying25 (size := 1) (by kernel_rfl) (by decide) (by decide) Try.zeroValue3 (cells := #[.int .i64 u]) (by kernel_rfl)) ?_; clear F fa; intro fa w4 F hw
      obtain ⟨n30, hn⟩ : ∃ n, n = w3.heap.size := ⟨_, rfl⟩
      rw [← hn] at F
      have s30 : w3.heap.size ≤ n30 := Nat.le_of_eq hn.symm
      have l30_E : w.heap.size ≤ n30 := by rw [hn]; exact E.size
      have b30_HL := Nat.lt_of_lt_of_eq (lots_lt HL) hn.symm
      have o30_oo := Lib.hid (own_ne_new oo hn)
      replace oo := owns_alloc hw oo
      replace E := ext_alloc E hw
      replace HL := lots_alloc hw HL
      have q30 := new_block hw hn
      clear hw hn
      have hzE := E.size
      refine sq_some F rfl (by decide) rfl (append_run rfl (w.heap.size) (e := 3) (size := 1) (bytes := 8) Try.underlying25 (by kernel_rfl) (by decide) (F.at rfl) oo (F.at rfl) q30 rfl (by simp [Value.oneCell']) (by omega) (by omega) (by omega)) ?_; clear F fa; rintro fa v' w5 F ⟨hown', hg⟩
      obtain ⟨va31, vc31, rfl⟩ := owns_slice hown'
      replace HL := lots_append HL oo hg (by omega) (by decide)
      replace E := ext_appendX E oo hg (by omega)
      replace oo := hown'
      clear hg
      rw [ivs_snoc1] at oo
      have hx2 : (xs ++ [u]).length = i + 1 := by rw [List.length_append, hxl]; rfl
      have hx3 : ∀ n ∈ xs ++ [u], 0 ≤ n ∧ n ≤ most := by intro n hn; rcases List.mem_append.1 hn with hn | hn; (· exact hxb n hn); (· simp at hn; subst hn; omega)
      refine F.as ?_; clear F fa; intro fa F
      refine wpList_nil ?_
      refine hK8 _ _ ?_
      clear hK8
      refine wp_region_lit ?_
      refine F.mv ?_; clear F fa; intro fa F
      refine F.vl (R_add rfl (F.at rfl) (ev_c fa _) (by omega) (by omega)) ?_; clear F fa; intro fa F
      refine F.as ?_; clear F fa; intro fa F
      refine wpList_nil ?_
      replace HL : LotsOk w0 w5 b (k + 1 + 2 * (i + 1)) nv := lots_mono HL (by omega)
      show _ ∧ _
      exact ⟨by omega, _, ⟨_, _, _, rfl, E, HL, oo, hx2, hx3⟩, F.sub (.c 7 rfl (.c 9 rfl (.c 0 rfl (.c 1 rfl (.c 2 rfl (.c 8 rfl .n))))))⟩
    · skip
      replace F := F.re (k := 18) rfl (congrArg Value.bool hg1)
      refine F.mv ?_ (hw := (wantT F rfl rfl (by decide) rfl)); clear F fa; intro fa F
      refine sq_call F rfl (by decide) (wantT F rfl rfl (by decide) rfl) (R_callV rfl rfl Try.call52 (mpS (F.at rfl) (mpS (ev_c fa _) mp0))) (rare_any w0 _ b _ nv 2 HL (by omega) (by omega) (by omega)) fun e w6 hR => ?_
      obtain ⟨r2, rfl, HL, e9⟩ := hR
      refine ⟨_, rfl, ?_⟩; clear F fa; intro fa F
      replace oo := owns_ext oo (e9) (by simp; omega)
      replace E := E.trans' e9 (fun i hi hl => by simp only [List.mem_cons, List.not_mem_nil, or_false] at hi ⊢; omega)
      refine F.vl (R_not rfl (F.at rfl)) ?_ (hw := (wantT F rfl rfl (by decide) rfl)); clear F fa; intro fa F
      refine F.vl (R_pickT rfl (F.at rfl) (F.at rfl)) ?_; clear F fa; intro fa F
      refine wpList_nil ?_
      refine hK9 _ _ ?_
      clear hK9
      refine cd_b F rfl (fun hc22 => ?_) (fun hc22 => ?_)
      · skip
        refine wp_region_lit ?_
        refine F.mv ?_; clear F fa; intro fa F
        refine sq_new F rfl (by decide) rfl (R_buildSliceV rfl (prS (ev_c fa _) pr0) Try.underlying25 (size := 1) (by kernel_rfl) (by decide) (by decide) Try.zeroValue3 (cells := #[.int .i64 0]) (by kernel_rfl)) ?_; clear F fa; intro fa w7 F hw
        obtain ⟨n24, hn⟩ : ∃ n, n = w6.heap.size := ⟨_, rfl⟩
        rw [← hn] at F
        have s24 : w6.heap.size ≤ n24 := Nat.le_of_eq hn.symm
        have l24_E : w.heap.size ≤ n24 := by rw [hn]; exact E.size
        have b24_HL := Nat.lt_of_lt_of_eq (lots_lt HL) hn.symm
        have o24_oo := Lib.hid (own_ne_new oo hn)
        replace oo := owns_alloc hw oo
        replace E := ext_alloc E hw
        replace HL := lots_alloc hw HL
        have q24 := new_block hw hn
        clear hw hn
        have hzE := E.size
        refine sq_some F rfl (by decide) rfl (append_run rfl (w.heap.size) (e := 3) (size := 1) (bytes := 8) Try.underlying25 (by kernel_rfl) (by decide) (F.at rfl) oo (F.at rfl) q24 rfl (by simp [Value.oneCell']) (by omega) (by omega) (by omega)) ?_; clear F fa; rintro fa v' w8 F ⟨hown', hg⟩
        obtain ⟨va25, vc25, rfl⟩ := owns_slice hown'
        replace HL := lots_append HL oo hg (by omega) (by decide)
        replace E := ext_appendX E oo hg (by omega)
        replace oo := hown'
        clear hg
        rw [ivs_snoc1] at oo
        have hx2 : (xs ++ [(0 : Int)]).length = i + 1 := by rw [List.length_append, hxl]; rfl
        have hx3 : ∀ n ∈ xs ++ [(0 : Int)], 0 ≤ n ∧ n ≤ most := by intro n hn; rcases List.mem_append.1 hn with hn | hn; (· exact hxb n hn); (· simp at hn; omega)
        refine F.as ?_; clear F fa; intro fa F
        refine wpList_nil ?_
        refine hK8 _ _ ?_
        clear hK8
        refine wp_region_lit ?_
        refine F.mv ?_; clear F fa; intro fa F
        refine F.vl (R_add rfl (F.at rfl) (ev_c fa _) (by omega) (by omega)) ?_; clear F fa; intro fa F
        refine F.as ?_; clear F fa; intro fa F
        refine wpList_nil ?_
        replace HL : LotsOk w0 w8 b (k + 1 + 2 * (i + 1)) nv := lots_mono HL (by omega)
        show _ ∧ _
        exact ⟨by omega, _, ⟨_, _, _, rfl, E, HL, oo, hx2, hx3⟩, F.sub (.c 7 rfl (.c 9 rfl (.c 0 rfl (.c 1 rfl (.c 2 rfl (.c 8 rfl .n))))))⟩
      · skip
        refine wp_region_lit ?_
        refine F.mv ?_; clear F fa; intro fa F
        refine F.mv ?_; clear F fa; intro fa F
        refine F.mv ?_; clear F fa; intro fa F
        refine sq_call F rfl (by decide) rfl (R_callV rfl rfl Try.call26 (mpS (F.at rfl) (mpS (F.at rfl) mp0))) (upto_any w0 _ b _ nv most HL (by omega) (by omega) (by omega)) fun e w9 hR => ?_
        obtain ⟨u, rfl, hu0, hu1, HL, e9⟩ := hR
        refine ⟨_, rfl, ?_⟩; clear F fa; intro fa F
        replace oo := owns_ext oo (e9) (by simp; omega)
        replace E := E.trans' e9 (fun i hi hl => by simp only [List.mem_cons, List.not_mem_nil, or_false] at hi ⊢; omega)
        refine sq_new F rfl (by decide) rfl (R_buildSliceV rfl (prS (F.at rfl) pr0) Try.underlying25 (size := 1) (by kernel_rfl) (by decide) (by decide) Try.zeroValue3 (cells := #[.int .i64 u]) (by kernel_rfl)) ?_; clear F fa; intro fa w10 F hw
        obtain ⟨n30, hn⟩ : ∃ n, n = w9.heap.size := ⟨_, rfl⟩
        rw [← hn] at F
        have s30 : w9.heap.size ≤ n30 := Nat.le_of_eq hn.symm
        have l30_E : w.heap.size ≤ n30 := by rw [hn]; exact E.size
        have b30_HL := Nat.lt_of_lt_of_eq (lots_lt HL) hn.symm
        have o30_oo := Lib.hid (own_ne_new oo hn)
        replace oo := owns_alloc hw oo
        replace E := ext_alloc E hw
        replace HL := lots_alloc hw HL
        have q30 := new_block hw hn
        clear hw hn
        have hzE := E.size
        refine sq_some F rfl (by decide) rfl (append_run rfl (w.heap.size) (e := 3) (size := 1) (bytes := 8) Try.underlying25 (by kernel_rfl) (by decide) (F.at rfl) oo (F.at rfl) q30 rfl (by simp [Value.oneCell']) (by omega) (by omega) (by omega)) ?_; clear F fa; rintro fa v' w11 F ⟨hown', hg⟩
        obtain ⟨va31, vc31, rfl⟩ := owns_slice hown'
        replace HL := lots_append HL oo hg (by omega) (by decide)
        replace E := ext_appendX E oo hg (by omega)
        replace oo := hown'
        clear hg
        rw [ivs_snoc1] at oo
        have hx2 : (xs ++ [u]).length = i + 1 := by rw [List.length_append, hxl]; rfl
        have hx3 : ∀ n ∈ xs ++ [u], 0 ≤ n ∧ n ≤ most := by intro n hn; rcases List.mem_append.1 hn with hn | hn; (· exact hxb n hn); (· simp at hn; subst hn; omega)
        refine F.as ?_; clear F fa; intro fa F
        refine wpList_nil ?_
        refine hK8 _ _ ?_
        clear hK8
        refine wp_region_lit ?_
        refine F.mv ?_; clear F fa; intro fa F
        refine F.vl (R_add rfl (F.at rfl) (ev_c fa _) (by omega) (by omega)) ?_; clear F fa; intro fa F
        refine F.as ?_; clear F fa; intro fa F
        refine wpList_nil ?_
        replace HL : LotsOk w0 w11 b (k + 1 + 2 * (i + 1)) nv := lots_mono HL (by omega)
        show _ ∧ _
        exact ⟨by omega, _, ⟨_, _, _, rfl, E, HL, oo, hx2, hx3⟩, F.sub (.c 7 rfl (.c 9 rfl (.c 0 rfl (.c 1 rfl (.c 2 rfl (.c 8 rfl .n))))))⟩
  · skip
    refine wp_exit ?_
    refine hK4 _ _ ?_
    clear hK4
    refine wp_seq_k fun K10 hK10 => ?_
    refine wp_region_lit ?_
    refine F.mv ?_; clear F fa; intro fa F
    refine F.as ?_; clear F fa; intro fa F
    refine wpList_nil ?_
    refine hK10 _ _ ?_
    clear hK10
    refine wp_ret ?_
    (try simp only [Exit.inBlock, Exit.then, reduceIte])
    refine rt_v F (rs_1 F rfl rfl) ?_
    have hi := show i = many by omega
    subst hi
    exact ⟨va, vc, xs, rfl, hxl, hxb, oo, HL, E⟩
set_option maxRecDepth 100000 in
theorem isIn_any (M : List (Value × List Int)) (xs : List Int) (a b : Option Addr) (c d : Nat) (w : World) (h : LolAt w a M) (hx : IsRows w (.slice b xs.length d) 1 (xs.map intRow)) (hm : M.length ≤ 1000) (hs : ∀ p ∈ M, p.2.length ≤ 1000) (hl : xs.length ≤ 1000) :
    Calls Try.prog 91 #[.slice a M.length c, .slice b xs.length d] w fun e w' => e = .returned (.bool (decide (xs ∈ M.map (·.2)))) ∧ Ext [] w w' := by
  have E : Ext [] w w := Ext.refl _ _
  have HL := Lib.hid h
  have HS := Lib.hid h.1
  have HX := Lib.hid hx
  have Hs := Lib.hid hs
  clear h hx hs
  refine calls_has 18 Try.func91 rfl Try.ntmps91 (Nat.le_of_ble_eq_true rfl) ?_
  intro fa F
  refine wp_seq_k fun K1 hK1 => ?_
  refine wp_region_lit ?_
  refine F.vl (R_assign rfl (ev_c fa _)) ?_; clear F fa; intro fa F
  refine wpList_nil ?_
  refine hK1 _ _ ?_
  clear hK1
  refine wp_seq_k fun K2 hK2 => ?_
  refine wp_seq_k fun K3 hK3 => ?_
  refine wp_region_lit ?_
  refine F.vl (R_assign rfl (ev_c fa _)) ?_; clear F fa; intro fa F
  refine wpList_nil ?_
  refine hK3 _ _ ?_
  clear hK3
  refine wp_block ?_
  have F0 := F.sub (.c 0 rfl (.c 1 rfl .n))
  refine lp_for F0 (M.length) (fun i Lv W => Lv = [(5, .int .i64 ((i : Nat) : Int))] ∧ Ext [] w W ∧ ∀ j, j < i → (M.getD j (.bool true, [])).2 ≠ xs) ⟨_, ⟨rfl, E, (fun j h => by omega)⟩, F.sub (.c 5 rfl (.c 0 rfl (.c 1 rfl .n)))⟩ ?_
  clear F F0
  clear E
  rintro i _ fa w1 hi1 ⟨rfl, E, hno⟩ F
  refine wp_seq_k fun K4 hK4 => ?_
  refine wp_seq_k fun K5 hK5 => ?_
  refine wp_region_lit ?_
  refine F.mv ?_; clear F fa; intro fa F
  refine F.mv ?_; clear F fa; intro fa F
  refine F.vl (R_len rfl rfl (F.at rfl) Try.underlying22) ?_; clear F fa; intro fa F
  refine F.vl (R_lss rfl (F.at rfl) (F.at rfl)) ?_; clear F fa; intro fa F
  refine wpList_nil ?_
  refine hK5 _ _ ?_
  clear hK5
  refine cd_if F rfl (fun hc9 => ?_) (fun hc9 => ?_)
  · skip
    refine wp_skip ?_
    refine hK4 _ _ ?_
    clear hK4
    refine wp_seq_k fun K6 hK6 => ?_
    refine wp_block ?_
    refine wp_seq_k fun K7 hK7 => ?_
    obtain ⟨la, lca, hla, hlr⟩ := HL.out.2 _ (getD_mem (.bool true, []) (show i < M.length by omega))
    have hsz := Hs.out _ (getD_mem (.bool true, []) (show i < M.length by omega))
    refine wp_region_lit ?_
    refine F.mv ?_; clear F fa; intro fa F
    refine F.mv ?_; clear F fa; intro fa F
    obtain ⟨xb8, xo8, xa8, xr8⟩ := HS.out i (by omega)
    refine F.vl (R_ixSlice (sz := 1) rfl ((F.at rfl).trans (xa8 _ _)) (F.at rfl) Try.underlying22 (by kernel_rfl) (by omega) (by omega)) ?_; clear F fa; intro fa F
    refine F.vl (R_load rfl (F.at rfl) Try.underlying25 rfl (xr8 _ E 0 _ rfl)) ?_; clear F fa; intro fa F
    rw [hla] at F
    refine F.mv ?_; clear F fa; intro fa F
    refine sq_call F rfl (by decide) rfl (R_callV rfl rfl Try.call22 (mpS (F.at rfl) (mpS (F.at rfl) mp0))) (sameInts_any (M.getD i (.bool true, [])).2 xs la b lca d _ (hlr.ext E (by simp)) (HX.out.ext E (by simp)) (by omega) (by omega)) fun e w2 hR => ?_
    obtain ⟨rfl, e9⟩ := hR
    refine ⟨_, rfl, ?_⟩; clear F fa; intro fa F
    replace E := ext_same E (e9)
    clear e9
    refine wpList_nil ?_
    refine hK7 _ _ ?_
    clear hK7
    refine cd_if F rfl (fun hc17 => ?_) (fun hc17 => ?_)
    · skip
      refine wp_seq_k fun K9 hK9 => ?_
      refine wp_region_lit ?_
      refine F.vl (R_assign rfl (ev_c fa _)) ?_; clear F fa; intro fa F
      refine wpList_nil ?_
      refine hK9 _ _ ?_
      clear hK9
      refine wp_ret ?_
      (try simp only [Exit.inBlock, Exit.then, reduceIte])
      refine rt_v F (rs_1 F rfl rfl) ?_
      exact ⟨ret_bool (by rw [decide_eq_true]; exact List.mem_map.2 ⟨_, getD_mem (.bool true, []) (show i < M.length by omega), by simpa using hc17⟩), E⟩
    · skip
      refine wp_skip ?_
      refine hK6 _ _ ?_
      clear hK6
      refine wp_region_lit ?_
      refine F.mv ?_; clear F fa; intro fa F
      refine F.vl (R_add rfl (F.at rfl) (ev_c fa _) (by omega) (by omega)) ?_; clear F fa; intro fa F
      refine F.as ?_; clear F fa; intro fa F
      refine wpList_nil ?_
      show _ ∧ _
      exact ⟨by omega, _, ⟨rfl, E, (fun j h => by rcases Nat.lt_succ_iff_lt_or_eq.1 h with h | rfl; (· exact hno j h); (· exact hc17))⟩, F.sub (.c 5 rfl (.c 0 rfl (.c 1 rfl .n)))⟩
  · skip
    refine wp_exit ?_
    refine hK2 _ _ ?_
    clear hK2
    refine wp_seq_k fun K10 hK10 => ?_
    refine wp_region_lit ?_
    refine F.vl (R_assign rfl (ev_c fa _)) ?_; clear F fa; intro fa F
    refine wpList_nil ?_
    refine hK10 _ _ ?_
    clear hK10
    refine wp_ret ?_
    (try simp only [Exit.inBlock, Exit.then, reduceIte])
    refine rt_v F (rs_1 F rfl rfl) ?_
    exact ⟨ret_bool (by rw [decide_eq_false]; intro hm; obtain ⟨p, hp, he⟩ := List.mem_map.1 hm; obtain ⟨j, hj, rfl⟩ := List.getElem_of_mem hp; have := hno j (by omega); simp [hj] at this; exact this he), E⟩
end Go.Proofs.Ytdjeecgddbjbeaa
