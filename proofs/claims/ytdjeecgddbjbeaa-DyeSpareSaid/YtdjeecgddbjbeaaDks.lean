/- Samples, stuffs out of lots. Conditions: the vat is valid; few draws. -/
import Derived.Test.YtdjeecgddbjbeaaDkr
namespace Go.Proofs.Ytdjeecgddbjbeaa
open Go.RowKit
set_option linter.unusedVariables false
set_option linter.unusedSimpArgs false
/-- A vat lies where the lots do not. -/
def AtB (b : Nat) (x : Vm) (w : World) : Prop := ∀ W, Ext [b] w W → x.At W
theorem AtB.ext {b : Nat} {x : Vm} {w W : World} (h : AtB b x w) (e : Ext [b] w W) : AtB b x W := fun V k => h V (e.trans k)
theorem AtB.at {b : Nat} {x : Vm} {w : World} (h : AtB b x w) : x.At w := h w (Ext.refl _ _)
def SmpPost (x : Vm) (w0 : World) (b k : Nat) (nv : Value) (w : World) (e : Ending) (w' : World) : Prop := ∃ (a : Option Addr) (c : Nat) (xs : List Int), e = .returned (.slice a xs.length c) ∧ SmpOk x xs ∧ w'.ownsRow w.heap.size 3 1 (.slice a xs.length c) xs.length (ivs xs) ∧ LotsOk w0 w' b (k + 20) nv ∧ Ext [b] w w'
theorem div_bd {s p : Int} (h0 : 0 ≤ s) (h1 : s ≤ 240) (hp : 1 ≤ p) : 0 ≤ s / p ∧ s / p ≤ 240 := ⟨Int.ediv_nonneg h0 (by omega), Int.le_trans (Int.ediv_le_self _ h0) h1⟩
set_option maxRecDepth 100000 in
set_option maxHeartbeats 2000000 in
theorem sampleOf_any (x : Vm) (hv : VOk x) (w0 w : World) (b k : Nat) (nv : Value) (h : LotsOk w0 w b k nv) (hk : k ≤ 900000) (hx : AtB b x w) :
    Calls Try.prog 16 #[.pointer (some ⟨b, 0, none⟩), .agg #[.int .i64 x.B, .slice x.da x.D.length x.dc, .slice x.la x.L.length x.lc, .int .i64 x.tol]] w (SmpPost x w0 b k nv w) := by
  have HL := h
  have hbw := lots_lt HL
  have hb0 := HL.1
  have hws : w0.heap.size ≤ w.heap.size := HL.2.2.1.size
  have E : Ext [b] w w := Ext.refl _ _
  have HX := Lib.hid hx
  have HV := Lib.hid hv
  have hb1 := hv.b1
  have hb3 := hv.b3
  obtain ⟨bn, hbn⟩ : ∃ bn : Nat, x.B = bn := ⟨x.B.toNat, by omega⟩
  clear h hv hx
  refine calls_has 49 Try.func16 rfl Try.ntmps16 (Nat.le_of_ble_eq_true rfl) ?_
  intro fa F
  refine wp_seq_k fun K1 hK1 => ?_
  refine wp_region_lit ?_
  refine sq_new F rfl (by decide) rfl (R_box rfl (F.at rfl)) ?_; clear F fa; intro fa w1 F hw
  obtain ⟨n3, hn⟩ : ∃ n, n = w.heap.size := ⟨_, rfl⟩
  rw [← hn] at F
  have s3 : w.heap.size ≤ n3 := Nat.le_of_eq hn.symm
  have l3_E : w.heap.size ≤ n3 := by rw [hn]; exact E.size
  have b3_HL := Nat.lt_of_lt_of_eq (lots_lt HL) hn.symm
  replace E := ext_alloc E hw
  replace HL := lots_alloc hw HL
  have q3 := new_row hw hn
  clear hw hn
  refine F.vl (R_assign rfl (ev_c fa _)) ?_; clear F fa; intro fa F
  refine wpList_nil ?_
  refine hK1 _ _ ?_
  clear hK1
  refine wp_seq_k fun K2 hK2 => ?_
  refine region_x (Ext [b] w1) none follows fun w2 hh eh => ?_
  have q3_ := q3
  replace q3 := keep_same hh q3
  have E_ := E
  have zEw2 := E.size
  replace E := ext_same E eh
  have zbw2 := lots_lt HL
  replace HL := lots_ext eh HL
  have eT := eh.mono (Y := [b]) (by simp)
  clear hh eh
  refine F.xr (i := 0) rfl (fun w' hS => R_loadBlk rfl (F.at rfl) Try.underlying24 rfl (by kernel_rfl) (hS.keep q3_ (by simp; omega))) (fun _ => eT) ?_; clear F fa; intro fa F
  refine F.x (i := 1) rfl (fun w' => R_move rfl (F.at rfl)) (fun _ => eT) ?_; clear F fa; intro fa F
  refine F.xr (i := 2) rfl (fun w' hS => R_loadBlk rfl (F.at rfl) Try.underlying24 rfl (by kernel_rfl) (hS.keep q3_ (by simp; omega))) (fun _ => eT) ?_; clear F fa; intro fa F
  refine ax_only (i := 3) (by kernel_rfl) (op_call F rfl rfl (by decide) rfl (R_callV rfl rfl Try.call15 (mpS (F.at rfl) (mpS (F.at rfl) mp0))) (recipeOf_any x HV.out w0 _ b _ nv HL (by omega)) fun e w3 hR => ?_)
  obtain ⟨ra, rl, rfl, hrl, ro, HL, e9⟩ := hR
  refine ⟨_, rfl, ?_⟩; clear F fa; intro fa F
  replace q3 := (e9).keep q3 (by simp; omega)
  replace E := E.trans' e9 (fun i hi hl => by simp only [List.mem_cons, List.not_mem_nil, or_false] at hi ⊢; omega)
  replace eT := eT.trans' e9 (fun i hi hl => by simp only [List.mem_cons, List.not_mem_nil, or_false] at hi ⊢; omega)
  refine ⟨fun _ => eT, ?_⟩
  have hso := sumsOf_ok x HV.out bn hbn rl hrl.len (fun n hn => hrl.bd n hn) ra x.D.length w3 (HX.out _ E) (by rw [hrl.len]; exact rows_of_ivs ro hrl.len.symm)
  rw [hrl.len] at hso
  have hbX := lots_lt HL
  refine ax_only (i := 4) (by kernel_rfl) (op_call F rfl rfl (by decide) rfl (R_callV rfl rfl Try.call51 (mpS (F.at rfl) (mpS (F.at rfl) mp0))) (hso) fun e w4 hR => ?_)
  obtain ⟨sa, rfl, so, e9⟩ := hR
  refine ⟨_, rfl, ?_⟩; clear F fa; intro fa F
  replace q3 := (e9).keep0 q3
  replace E := ext_same E (e9)
  replace HL := lots_ext (e9) HL
  replace eT := ext_same eT (e9)
  clear e9
  refine ⟨fun _ => eT, ?_⟩
  have hEs0 := E.size
  have hsl : (sumL x (val rl) bn).length = bn := by simp [sumL]
  have HSS := Lib.hid (slAt_of_ivs so hsl.symm [b] (by simpa using hbX))
  obtain ⟨wS, hwS⟩ : ∃ wS, wS = w4 := ⟨_, rfl⟩
  have ES : Ext [b] wS w4 := by rw [hwS]; exact Ext.refl _ _
  rw [← hwS] at HSS
  clear ro so hso
  have hs1 := hrl.s1
  have hs6 := hrl.s6
  have hsb := Lib.hid (sumL_bd HV.out hrl.tub bn)
  refine F.x (i := 5) rfl (fun w' => R_move rfl (F.at rfl)) (fun _ => eT) ?_; clear F fa; intro fa F
  refine F.x (i := 6) rfl (fun w' => R_extract rfl (F.at rfl) (get0)) (fun _ => eT) ?_; clear F fa; intro fa F
  refine F.x (i := 7) rfl (fun w' => R_extract rfl (F.at rfl) (getS (get0))) (fun _ => eT) ?_; clear F fa; intro fa F
  refine F.x (i := 8) rfl (fun w' => R_assign rfl (F.at rfl)) (fun _ => eT) ?_; clear F fa; intro fa F
  refine F.x (i := 9) rfl (fun w' => R_assign rfl (F.at rfl)) (fun _ => eT) ?_; clear F fa; intro fa F
  refine ax_done (by kernel_rfl) ?_ _
  clear eT q3_ E_
  refine hK2 _ _ ?_
  clear hK2
  refine wp_seq_k fun K3 hK3 => ?_
  refine wp_region_lit ?_
  refine F.vl (R_assign rfl (ev_c fa _)) ?_; clear F fa; intro fa F
  refine wpList_nil ?_
  refine hK3 _ _ ?_
  clear hK3
  refine wp_seq_k fun K4 hK4 => ?_
  refine wp_seq_k fun K5 hK5 => ?_
  have oo : w4.ownsRow wS.heap.size 3 1 (.slice none 0 0) 0 (ivs []) := World.ownsRow_nil _ _ _ _
  have hwS0 : w.heap.size ≤ wS.heap.size := (by rw [hwS]; exact hEs0)
  refine wp_region_lit ?_
  refine F.vl (R_assign rfl (ev_c fa _)) ?_; clear F fa; intro fa F
  refine wpList_nil ?_
  refine hK5 _ _ ?_
  clear hK5
  refine wp_block ?_
  have F0 := F.sub (.c 0 rfl (.c 3 rfl (.c 5 rfl (.c 6 rfl .n))))
  replace HL : LotsOk w0 w4 b (k + 10 + 0) nv := lots_mono HL (by omega)
  refine lp_for F0 (bn) (fun i Lv W => ∃ va : Option Addr, ∃ vc : Nat, ∃ xs : List Int, Lv = [(7, .slice va i vc), (8, .int .i64 ((i : Nat) : Int))] ∧ Ext [b] w W ∧ Ext [b] wS W ∧ W.heap[n3]? = some (.cells #[.int .i64 x.B, .slice x.da x.D.length x.dc, .slice x.la x.L.length x.lc, .int .i64 x.tol] 24 (0, 0)) ∧ LotsOk w0 W b (k + 10 + i) nv ∧ W.ownsRow wS.heap.size 3 1 (.slice va i vc) i (ivs xs) ∧ xs.length = i ∧ (∀ m ∈ xs, 0 ≤ m ∧ m ≤ 9)) ⟨_, ⟨none, 0, [], rfl, E, ES, q3, HL, oo, rfl, (by simp)⟩, F.sub (.c 7 rfl (.c 8 rfl (.c 0 rfl (.c 3 rfl (.c 5 rfl (.c 6 rfl .n))))))⟩ ?_
  clear F F0
  clear E ES q3 HL
  clear oo
  rintro i _ fa w5 hi1 ⟨va, vc, xs, rfl, E, ES, q3, HL, oo, hxl, hxb⟩ F
  refine wp_seq_k fun K6 hK6 => ?_
  refine wp_seq_k fun K7 hK7 => ?_
  refine wp_region_lit ?_
  refine F.mv ?_; clear F fa; intro fa F
  refine F.vl (R_field rfl (F.at rfl) Try.underlying24 rfl (n := 0) (sz := 1) rfl (by kernel_rfl) (by decide)) ?_; clear F fa; intro fa F
  refine F.vl (R_load rfl (F.at rfl) Try.underlying3 rfl ((cells_of_block q3 0).trans (get0))) ?_; clear F fa; intro fa F
  rw [hbn] at F
  refine F.vl (R_lss rfl (F.at rfl) (F.at rfl)) ?_; clear F fa; intro fa F
  refine wpList_nil ?_
  refine hK7 _ _ ?_
  clear hK7
  refine cd_if F rfl (fun hc20 => ?_) (fun hc20 => ?_)
  · skip
    refine wp_skip ?_
    refine hK6 _ _ ?_
    clear hK6
    refine wp_seq_k fun K8 hK8 => ?_
    refine wp_block ?_
    obtain ⟨hq0, hq1⟩ := hsb.out _ (getD_mem 0 (show i < (sumL x (val rl) bn).length by omega))
    obtain ⟨hd0, hd1⟩ := div_bd hq0 hq1 hs1
    refine region_x (Ext [b] w5) (some 13) follows fun w6 hh eh => ?_
    have q3_ := q3
    replace q3 := keep_same hh q3
    have E_ := E
    have zEw6 := E.size
    replace E := ext_same E eh
    have ES_ := ES
    have zESw6 := ES.size
    replace ES := ext_same ES eh
    have zbw6 := lots_lt HL
    replace HL := lots_ext eh HL
    replace oo := owns_same hh oo
    have eT := eh.mono (Y := [b]) (by simp)
    clear hh eh
    refine F.x (i := 0) rfl (fun w' => R_move rfl (F.at rfl)) (fun _ => eT) ?_; clear F fa; intro fa F
    refine F.x (i := 1) rfl (fun w' => R_move rfl (F.at rfl)) (fun _ => eT) ?_; clear F fa; intro fa F
    refine F.x (i := 2) rfl (fun w' => R_move rfl (F.at rfl)) (fun _ => eT) ?_; clear F fa; intro fa F
    obtain ⟨xb9, xo9, xa9, xr9⟩ := HSS.out i (by omega)
    refine F.x (i := 3) rfl (fun w' => R_ixSlice (sz := 1) rfl ((F.at rfl).trans (xa9 _ _)) (F.at rfl) Try.underlying25 (by kernel_rfl) (by omega) (by omega)) (fun _ => eT) ?_; clear F fa; intro fa F
    refine F.xr2 (i := 4) [6, 10, 11, 12, 13] rfl (fun w' hS => R_load rfl (F.at rfl) Try.underlying3 rfl (xr9 _ (ES_.trans hS) 0 _ rfl)) (fun _ => eT) ?_; clear F fa; intro fa F
    refine F.x (i := 5) rfl (fun w' => R_move rfl (F.at rfl)) (fun _ => eT) ?_; clear F fa; intro fa F
    refine F.x (i := 6) rfl (fun w' => R_quoP rfl (F.at rfl) (F.at rfl) (by omega) (by omega) (by omega)) (fun _ => eT) ?_; clear F fa; intro fa F
    refine F.x (i := 7) rfl (fun w' => R_move rfl (F.at rfl)) (fun _ => eT) ?_; clear F fa; intro fa F
    refine ax_only (i := 8) (by kernel_rfl) (op_new F rfl rfl (by decide) rfl (R_buildSliceV rfl (prS (ev_c fa _) (prS (ev_c fa _) (prS (ev_c fa _) pr0))) Try.underlying25 (size := 1) (by kernel_rfl) (by decide) (by decide) Try.zeroValue3 (cells := #[.int .i64 0, .int .i64 0, .int .i64 1]) (by kernel_rfl)) ?_); clear F fa; intro fa w7 F hw
    obtain ⟨n31, hn⟩ : ∃ n, n = w6.heap.size := ⟨_, rfl⟩
    rw [← hn] at F
    have s31 : w6.heap.size ≤ n31 := Nat.le_of_eq hn.symm
    have l31_E : w.heap.size ≤ n31 := by rw [hn]; exact E.size
    have l31_ES : wS.heap.size ≤ n31 := by rw [hn]; exact ES.size
    have lT31 : w5.heap.size ≤ n31 := by rw [hn]; exact eT.size
    have b31_HL := Nat.lt_of_lt_of_eq (lots_lt HL) hn.symm
    have m31_3 : n3 < n31 := by rw [hn]; exact blk_lt q3
    have o31_oo := Lib.hid (own_ne_new oo hn)
    replace oo := owns_alloc hw oo
    replace q3 := keep_alloc hw q3
    replace E := ext_alloc E hw
    replace ES := ext_alloc ES hw
    replace HL := lots_alloc hw HL
    replace eT := ext_alloc eT hw
    have q31 := new_block hw hn
    clear hw hn
    refine ⟨fun _ => eT, ?_⟩
    refine ax_only (i := 9) (by kernel_rfl) (op_call F rfl rfl (by decide) rfl (R_callV rfl rfl Try.call50 (mpS (F.at rfl) (mpS (F.at rfl) mp0))) (of_any w0 _ b _ nv n31 _ [0, 0, 1] HL (by omega) q31 (by omega) (by decide) (by decide)) fun e w8 hR => ?_)
    obtain ⟨v, rfl, hvm, HL, e9⟩ := hR
    refine ⟨_, rfl, ?_⟩; clear F fa; intro fa F
    replace oo := owns_ext oo (e9) (by simp; omega)
    replace q3 := (e9).keep q3 (by simp; omega)
    replace q31 := (e9).keep q31 (by simp; omega)
    replace E := E.trans' e9 (fun i hi hl => by simp only [List.mem_cons, List.not_mem_nil, or_false] at hi ⊢; omega)
    replace ES := ES.trans' e9 (fun i hi hl => by simp only [List.mem_cons, List.not_mem_nil, or_false] at hi ⊢; omega)
    replace eT := eT.trans' e9 (fun i hi hl => by simp only [List.mem_cons, List.not_mem_nil, or_false] at hi ⊢; omega)
    refine ⟨fun _ => eT, ?_⟩
    have hv1 : 0 ≤ v ∧ v ≤ 1 := by simp only [List.mem_cons, List.not_mem_nil, or_false] at hvm; omega
    refine F.x (i := 10) rfl (fun w' => R_add rfl (F.at rfl) (F.at rfl) (by omega) (by omega)) (fun _ => eT) ?_; clear F fa; intro fa F
    refine F.x (i := 11) rfl (fun w' => R_min rfl rfl (ev_c fa _) (F.at rfl)) (fun _ => eT) ?_; clear F fa; intro fa F
    refine ax_only (i := 12) (by kernel_rfl) (op_new F rfl rfl (by decide) rfl (R_buildSliceV rfl (prS (F.at rfl) pr0) Try.underlying25 (size := 1) (by kernel_rfl) (by decide) (by decide) Try.zeroValue3 (cells := #[.int .i64 (min 9 ((((sumL x (val rl) bn).getD i 0) / rl.sum) + v))]) (by kernel_rfl)) ?_); clear F fa; intro fa w9 F hw
    obtain ⟨n35, hn⟩ : ∃ n, n = w8.heap.size := ⟨_, rfl⟩
    rw [← hn] at F
    have s35 : w8.heap.size ≤ n35 := Nat.le_of_eq hn.symm
    have l35_E : w.heap.size ≤ n35 := by rw [hn]; exact E.size
    have l35_ES : wS.heap.size ≤ n35 := by rw [hn]; exact ES.size
    have lT35 : w5.heap.size ≤ n35 := by rw [hn]; exact eT.size
    have b35_HL := Nat.lt_of_lt_of_eq (lots_lt HL) hn.symm
    have m35_3 : n3 < n35 := by rw [hn]; exact blk_lt q3
    have o35_oo := Lib.hid (own_ne_new oo hn)
    replace oo := owns_alloc hw oo
    replace q3 := keep_alloc hw q3
    replace E := ext_alloc E hw
    replace ES := ext_alloc ES hw
    replace HL := lots_alloc hw HL
    replace eT := ext_alloc eT hw
    have q35 := new_block hw hn
    clear hw hn
    refine ⟨fun _ => eT, ?_⟩
    have hzE := ES.size
    refine ax_only (i := 13) (by kernel_rfl) (op_some F rfl rfl (by decide) rfl (append_run rfl (wS.heap.size) (e := 3) (size := 1) (bytes := 8) Try.underlying25 (by kernel_rfl) (by decide) (F.at rfl) oo (F.at rfl) q35 rfl (by simp [Value.oneCell']) (by omega) (by omega) (by omega)) ?_); clear F fa; rintro fa v' w10 F ⟨hown', hg⟩
    obtain ⟨va36, vc36, rfl⟩ := owns_slice hown'
    replace q3 := keep_type oo hg q3 (by decide)
    replace HL := lots_append HL oo hg (by omega) (by decide)
    replace E := ext_appendX E oo hg (by omega)
    replace ES := ext_appendX ES oo hg (by omega)
    replace oo := hown'
    clear hg
    refine ⟨gone (by kernel_rfl), ?_⟩
    rw [ivs_snoc1] at oo
    have hx2 : (xs ++ [min 9 ((sumL x (val rl) bn).getD i 0 / rl.sum + v)]).length = i + 1 := by rw [List.length_append, hxl]; rfl
    have hx3 : ∀ m ∈ xs ++ [min 9 ((sumL x (val rl) bn).getD i 0 / rl.sum + v)], 0 ≤ m ∧ m ≤ 9 := by intro m hm; rcases List.mem_append.1 hm with hm | hm; (· exact hxb m hm); (· simp only [List.mem_cons, List.not_mem_nil, or_false] at hm; subst hm; omega)
    refine F.x (i := 14) rfl (fun w' => R_assign rfl (F.at rfl)) (gone (by kernel_rfl)) ?_; clear F fa; intro fa F
    refine ax_done (by kernel_rfl) ?_ _
    clear eT q3_ E_ ES_
    refine hK8 _ _ ?_
    clear hK8
    refine wp_region_lit ?_
    refine F.mv ?_; clear F fa; intro fa F
    refine F.vl (R_add rfl (F.at rfl) (ev_c fa _) (by omega) (by omega)) ?_; clear F fa; intro fa F
    refine F.as ?_; clear F fa; intro fa F
    refine wpList_nil ?_
    replace HL : LotsOk w0 w10 b (k + 10 + (i + 1)) nv := lots_mono HL (by omega)
    show _ ∧ _
    exact ⟨by omega, _, ⟨_, _, _, rfl, E, ES, q3, HL, oo, hx2, hx3⟩, F.sub (.c 7 rfl (.c 8 rfl (.c 0 rfl (.c 3 rfl (.c 5 rfl (.c 6 rfl .n))))))⟩
  · skip
    refine wp_exit ?_
    rw [show i = bn by omega] at F oo hxl
    refine hK4 _ _ ?_
    clear hK4
    refine wp_seq_k fun K10 hK10 => ?_
    refine wp_seq_k fun K11 hK11 => ?_
    refine wp_region_lit ?_
    refine F.mv ?_; clear F fa; intro fa F
    refine sq_call F rfl (by decide) rfl (R_callV rfl rfl Try.call52 (mpS (F.at rfl) (mpS (ev_c fa _) mp0))) (rare_any w0 _ b _ nv 4 HL (by omega) (by omega) (by omega)) fun e w11 hR => ?_
    obtain ⟨r, rfl, HL, e9⟩ := hR
    refine ⟨_, rfl, ?_⟩; clear F fa; intro fa F
    replace oo := owns_ext oo (e9) (by simp; omega)
    replace q3 := (e9).keep q3 (by simp; omega)
    replace E := E.trans' e9 (fun i hi hl => by simp only [List.mem_cons, List.not_mem_nil, or_false] at hi ⊢; omega)
    refine wpList_nil ?_
    refine hK11 _ _ ?_
    clear hK11
    refine cd_b F rfl (fun hc38 => ?_) (fun hc38 => ?_)
    · skip
      refine wp_region_lit ?_
      refine F.mv ?_; clear F fa; intro fa F
      refine F.mv ?_; clear F fa; intro fa F
      refine F.vl (R_field rfl (F.at rfl) Try.underlying24 rfl (n := 0) (sz := 1) rfl (by kernel_rfl) (by decide)) ?_; clear F fa; intro fa F
      refine F.vl (R_load rfl (F.at rfl) Try.underlying3 rfl ((cells_of_block q3 0).trans (get0))) ?_; clear F fa; intro fa F
      refine F.vl (R_sub rfl (F.at rfl) (ev_c fa _) (by omega) (by omega)) ?_; clear F fa; intro fa F
      rw [hbn] at F
      refine sq_call F rfl (by decide) rfl (R_callV rfl rfl Try.call26 (mpS (F.at rfl) (mpS (F.at rfl) mp0))) (upto_any w0 _ b _ nv (((bn : Nat) : Int) - 1) HL (by omega) (by omega) (by omega)) fun e w12 hR => ?_
      obtain ⟨u, rfl, hu0, hu1, HL, e9⟩ := hR
      refine ⟨_, rfl, ?_⟩; clear F fa; intro fa F
      replace oo := owns_ext oo (e9) (by simp; omega)
      replace q3 := (e9).keep q3 (by simp; omega)
      replace E := E.trans' e9 (fun i hi hl => by simp only [List.mem_cons, List.not_mem_nil, or_false] at hi ⊢; omega)
      obtain ⟨u, rfl⟩ := Int.eq_ofNat_of_zero_le hu0
      refine F.mv ?_; clear F fa; intro fa F
      refine sq_call F rfl (by decide) rfl (R_callV rfl rfl Try.call26 (mpS (F.at rfl) (mpS (ev_c fa _) mp0))) (upto_any w0 _ b _ nv 9 HL (by omega) (by omega) (by omega)) fun e w13 hR => ?_
      obtain ⟨z, rfl, hz0, hz1, HL, e9⟩ := hR
      refine ⟨_, rfl, ?_⟩; clear F fa; intro fa F
      replace oo := owns_ext oo (e9) (by simp; omega)
      replace q3 := (e9).keep q3 (by simp; omega)
      replace E := E.trans' e9 (fun i hi hl => by simp only [List.mem_cons, List.not_mem_nil, or_false] at hi ⊢; omega)
      have EX : Ext [] w13 w13 := Ext.refl _ _
      have HS := Lib.hid (slAt_of_ivs oo hxl.symm [] (by simp))
      have hil := ivs_lenZ xs
      obtain ⟨xb12, xo12, xa12, xr12⟩ := HS.out u (by omega)
      refine F.vl (R_ixSlice (sz := 1) rfl ((F.at rfl).trans (xa12 _ _)) (F.at rfl) Try.underlying25 (by kernel_rfl) (by omega) (by omega)) ?_; clear F fa; intro fa F
      obtain ⟨⟨u0, hcu⟩, hfu, hst⟩ := owns_at oo xa12 (j := u) (p := xo12 + ((u : Nat) : Int).toNat * 1) (by first | omega | (simp; omega)) (by omega)
      refine sq_to rfl rfl (R_store rfl (F.at rfl) (F.at rfl) rfl (by kernel_rfl) hcu hfu) ?_; intro w14 hw
      obtain ⟨hown', hg⟩ := hst _ _ hw
      clear hst hcu hfu hw
      replace q3 := keep_type oo hg q3 (by decide)
      replace HL := lots_append HL oo hg (by omega) (by decide)
      replace E := ext_appendX E oo hg (by omega)
      replace oo := hown'
      clear hg
      rw [ivs_setZ] at oo
      have hx2 : (xs.set u z).length = bn := by rw [List.length_set]; exact hxl
      have hx3 : ∀ m ∈ xs.set u z, 0 ≤ m ∧ m ≤ 9 := by intro m hm; rcases List.mem_or_eq_of_mem_set hm with hm | rfl; (· exact hxb m hm); (· omega)
      refine wpList_nil ?_
      refine hK10 _ _ ?_
      clear hK10
      refine wp_seq_k fun K13 hK13 => ?_
      refine wp_region_lit ?_
      refine F.mv ?_; clear F fa; intro fa F
      refine F.as ?_; clear F fa; intro fa F
      refine wpList_nil ?_
      refine hK13 _ _ ?_
      clear hK13
      refine wp_ret ?_
      (try simp only [Exit.inBlock, Exit.then, reduceIte])
      refine rt_v F (rs_1 F rfl rfl) ?_
      exact ⟨va, vc, xs.set u z, by rw [hx2], ⟨by rw [hx2, hbn], hx3⟩, by rw [hx2]; exact owns_lower oo hwS0, lots_mono HL (by omega), E⟩
    · skip
      refine wp_skip ?_
      refine hK10 _ _ ?_
      clear hK10
      refine wp_seq_k fun K14 hK14 => ?_
      refine wp_region_lit ?_
      refine F.mv ?_; clear F fa; intro fa F
      refine F.as ?_; clear F fa; intro fa F
      refine wpList_nil ?_
      refine hK14 _ _ ?_
      clear hK14
      refine wp_ret ?_
      (try simp only [Exit.inBlock, Exit.then, reduceIte])
      refine rt_v F (rs_1 F rfl rfl) ?_
      exact ⟨va, vc, xs, by rw [hxl], ⟨by rw [hxl, hbn], hxb⟩, by rw [hxl]; exact owns_lower oo hwS0, lots_mono HL (by omega), E⟩
end Go.Proofs.Ytdjeecgddbjbeaa
