/- Sums and weights as the laws reckon them; recipes out of lots. Conditions: the vat is valid. -/
import Derived.Test.YtdjeecgddbjbeaaDkt
namespace Go.Proofs.Ytdjeecgddbjbeaa
open Go.RowKit
set_option linter.unusedVariables false
set_option linter.unusedSimpArgs false
theorem sum_bd {l : List Int} (h : ∀ n ∈ l, 0 ≤ n ∧ n ≤ 6) : 0 ≤ l.sum ∧ l.sum ≤ 6 * l.length := by
  induction l with
  | nil => simp
  | cons a l ih =>
    have h1 := h a (by simp)
    have h2 := ih fun n hn => h n (by simp [hn])
    simp only [List.sum_cons, List.length_cons]
    omega
theorem sum_take_bd {l : List Int} (h : ∀ n ∈ l, 0 ≤ n ∧ n ≤ 6) (i : Nat) : 0 ≤ (l.take i).sum ∧ (l.take i).sum ≤ 6 * l.length := by
  have := sum_bd (l := l.take i) fun n hn => h n (List.mem_of_mem_take hn)
  have h2 := List.length_take_le i l
  rw [List.length_take] at this
  omega
set_option maxRecDepth 100000 in
set_option maxHeartbeats 1000000 in
theorem sumsOf_ok (x : Vm) (hv : VOk x) (bn : Nat) (hbn : x.B = bn) (l : List Int) (hl : l.length = x.D.length) (hb : ∀ n ∈ l, 0 ≤ n ∧ n ≤ 6) (a : Option Addr) (c : Nat) (w : World) (h : x.At w) (hr : IsRows w (.slice a l.length c) 1 (l.map intRow)) :
    Calls Try.prog 51 #[.agg #[.int .i64 x.B, .slice x.da x.D.length x.dc, .slice x.la x.L.length x.lc, .int .i64 x.tol], .slice a l.length c] w fun e w' => ∃ a, e = .returned (.tuple #[.slice a bn bn, .int .i64 l.sum]) ∧ w'.ownsRow w.heap.size 3 1 (.slice a bn bn) bn (ivs (sumL x (val l) bn)) ∧ Ext [] w w' := by
  have E : Ext [] w w := Ext.refl _ _
  have HX := Lib.hid h
  have HV := Lib.hid hv
  have HSR := Lib.hid (slAt_of_rows hr 0)
  have HB := Lib.hid hb
  have HD := Lib.hid h.d.1
  have hb1 := hv.b1
  have hb3 := hv.b3
  have hd4 := hv.d4
  have HF : RowKit.Hid (TubS (val l)) := Lib.hid (fun k _ => val_bd hb (by omega) (by omega) k)
  clear h hv hr hb
  refine calls_has 54 Try.func51 rfl Try.ntmps51 (Nat.le_of_ble_eq_true rfl) ?_
  intro fa F
  refine wp_seq_k fun K1 hK1 => ?_
  refine wp_region_lit ?_
  refine sq_new F rfl (by decide) rfl (R_box rfl (F.at rfl)) ?_; clear F fa; intro fa w1 F hw
  obtain ⟨n2, hn⟩ : ∃ n, n = w.heap.size := ⟨_, rfl⟩
  rw [← hn] at F
  have s2 : w.heap.size ≤ n2 := Nat.le_of_eq hn.symm
  have l2_E : w.heap.size ≤ n2 := by rw [hn]; exact E.size
  replace E := ext_alloc E hw
  have q2 := new_row hw hn
  clear hw hn
  refine F.vl (R_assign rfl (ev_c fa _)) ?_; clear F fa; intro fa F
  refine F.vl (R_assign rfl (ev_c fa _)) ?_; clear F fa; intro fa F
  refine wpList_nil ?_
  refine hK1 _ _ ?_
  clear hK1
  refine wp_seq_k fun K2 hK2 => ?_
  refine wp_region_lit ?_
  refine F.vl (R_field rfl (F.at rfl) Try.underlying24 rfl (n := 0) (sz := 1) rfl (by kernel_rfl) (by decide)) ?_; clear F fa; intro fa F
  refine F.vl (R_load rfl (F.at rfl) Try.underlying3 rfl ((cells_of_block q2 0).trans (get0))) ?_; clear F fa; intro fa F
  rw [hbn] at F
  have hEs := E.size
  refine sq_some F rfl (by decide) rfl (make_run rfl (w.heap.size) (e := 3) (bytes := 8) (z := .int .i64 0) Try.underlying25 (by kernel_rfl) rfl (F.at rfl) (F.at rfl) (n := bn) (by omega) (by decide) (by omega)) ?_; clear F fa; rintro fa v' w2 F ⟨oo, hg, rfl⟩
  obtain ⟨n12, hn⟩ : ∃ n, n = w1.heap.size := ⟨_, rfl⟩
  rw [← hn] at F oo
  have s12 : w1.heap.size ≤ n12 := Nat.le_of_eq hn.symm
  replace q2 := keep_none hg q2
  replace E := ext_none E hg
  clear hg hn
  rw [← sumR_zero x (val l) bn] at oo
  refine F.as ?_; clear F fa; intro fa F
  refine F.vl (R_assign rfl (ev_c fa _)) ?_; clear F fa; intro fa F
  rw [show (0 : Int) = (l.take 0).sum from rfl] at F
  refine wpList_nil ?_
  refine hK2 _ _ ?_
  clear hK2
  refine wp_seq_k fun K3 hK3 => ?_
  refine wp_seq_k fun K4 hK4 => ?_
  refine wp_region_lit ?_
  refine F.vl (R_assign rfl (ev_c fa _)) ?_; clear F fa; intro fa F
  refine wpList_nil ?_
  refine hK4 _ _ ?_
  clear hK4
  refine wp_block ?_
  have F0 := F.sub (.c 1 rfl (.c 2 rfl (.c 6 rfl .n)))
  refine lp_for F0 (l.length) (fun d Lv W => Lv = [(7, .int .i64 ((l.take d).sum)), (8, .int .i64 ((d : Nat) : Int))] ∧ Ext [] w W ∧ W.heap[n2]? = some (.cells #[.int .i64 x.B, .slice x.da x.D.length x.dc, .slice x.la x.L.length x.lc, .int .i64 x.tol] 24 (0, 0)) ∧ W.ownsRow w.heap.size 3 1 (.slice (some ⟨n12, 0, none⟩) bn bn) bn (ivs (sumR x (val l) bn d 0))) ⟨_, ⟨rfl, E, q2, oo⟩, F.sub (.c 7 rfl (.c 8 rfl (.c 1 rfl (.c 2 rfl (.c 6 rfl .n)))))⟩ ?_
  clear F F0
  clear E q2
  clear oo
  rintro d _ fa w3 hi1 ⟨rfl, E, q2, oo⟩ F
  refine wp_seq_k fun K5 hK5 => ?_
  refine wp_seq_k fun K6 hK6 => ?_
  refine wp_region_lit ?_
  refine F.mv ?_; clear F fa; intro fa F
  refine F.mv ?_; clear F fa; intro fa F
  refine F.vl (R_len rfl rfl (F.at rfl) Try.underlying25) ?_; clear F fa; intro fa F
  refine F.vl (R_lss rfl (F.at rfl) (F.at rfl)) ?_; clear F fa; intro fa F
  refine wpList_nil ?_
  refine hK6 _ _ ?_
  clear hK6
  refine cd_if F rfl (fun hc16 => ?_) (fun hc16 => ?_)
  · skip
    refine wp_skip ?_
    refine hK5 _ _ ?_
    clear hK5
    refine wp_seq_k fun K7 hK7 => ?_
    refine wp_block ?_
    refine wp_seq_k fun K8 hK8 => ?_
    refine wp_seq_k fun K9 hK9 => ?_
    refine wp_region_lit ?_
    refine F.vl (R_assign rfl (ev_c fa _)) ?_; clear F fa; intro fa F
    refine wpList_nil ?_
    refine hK9 _ _ ?_
    clear hK9
    refine wp_block ?_
    have F0 := F.sub (.c 1 rfl (.c 2 rfl (.c 6 rfl (.c 7 rfl (.c 8 rfl .n)))))
    refine lp_for F0 (bn) (fun i Lv W => Lv = [(9, .int .i64 ((i : Nat) : Int))] ∧ Ext [] w W ∧ W.heap[n2]? = some (.cells #[.int .i64 x.B, .slice x.da x.D.length x.dc, .slice x.la x.L.length x.lc, .int .i64 x.tol] 24 (0, 0)) ∧ W.ownsRow w.heap.size 3 1 (.slice (some ⟨n12, 0, none⟩) bn bn) bn (ivs (sumR x (val l) bn d i))) ⟨_, ⟨rfl, E, q2, oo⟩, F.sub (.c 9 rfl (.c 1 rfl (.c 2 rfl (.c 6 rfl (.c 7 rfl (.c 8 rfl .n))))))⟩ ?_
    clear F F0
    clear E q2
    clear oo
    rintro i _ fa w4 hi2 ⟨rfl, E, q2, oo⟩ F
    refine wp_seq_k fun K10 hK10 => ?_
    refine wp_seq_k fun K11 hK11 => ?_
    refine wp_region_lit ?_
    refine F.mv ?_; clear F fa; intro fa F
    refine F.vl (R_field rfl (F.at rfl) Try.underlying24 rfl (n := 0) (sz := 1) rfl (by kernel_rfl) (by decide)) ?_; clear F fa; intro fa F
    refine F.vl (R_load rfl (F.at rfl) Try.underlying3 rfl ((cells_of_block q2 0).trans (get0))) ?_; clear F fa; intro fa F
    rw [hbn] at F
    refine F.vl (R_lss rfl (F.at rfl) (F.at rfl)) ?_; clear F fa; intro fa F
    refine wpList_nil ?_
    refine hK11 _ _ ?_
    clear hK11
    refine cd_if F rfl (fun hc22 => ?_) (fun hc22 => ?_)
    · skip
      refine wp_skip ?_
      refine hK10 _ _ ?_
      clear hK10
      refine wp_seq_k fun K12 hK12 => ?_
      refine wp_block ?_
      obtain ⟨la, lca, hla, hlr⟩ := HX.out.d.2 _ (getD_mem (.bool true, []) (show d < x.D.length by omega))
      have hlen := (HV.out.dl _ (getD_mem (.bool true, []) (show d < x.D.length by omega))).1
      have hlb : (x.D.getD d (.bool true, [])).2.length = bn := by omega
      have HLR := Lib.hid (slAt_of_rows hlr 0)
      have hml := sumR_len x (val l) bn d i
      have hmk := sumR_get x (val l) d (show i < bn by omega)
      have hst := sumR_set x (val l) d (show i < bn by omega)
      have EX : Ext [] w4 w4 := Ext.refl _ _
      have HS := Lib.hid (slAt_of_ivs oo hml.symm [] (by simp))
      have hil := ivs_lenZ (sumR x (val l) bn d i)
      obtain ⟨hf0, hf1⟩ := HF.out d (by omega)
      obtain ⟨hg0, hg1⟩ := dye_bd HV.out (show d < x.D.length by omega) i
      simp only [val, Vm.dye] at hg0 hg1 hf0 hf1
      obtain ⟨hp0, hp1⟩ := mul_bd hf0 (by omega) hg0 (by omega)
      obtain ⟨ht0, ht1⟩ := tonE_bd HV.out HF.out i (show d ≤ x.D.length by omega)
      refine wp_region_st 21 follows (by kernel_rfl) fun w5 hh eh => ?_
      replace q2 := keep_same hh q2
      replace E := ext_same E eh
      replace EX := ext_same EX eh
      replace oo := owns_same hh oo
      clear hh eh
      refine F.smv ?_; clear F fa; intro fa F
      refine F.smv ?_; clear F fa; intro fa F
      refine F.smv ?_; clear F fa; intro fa F
      refine F.smv ?_; clear F fa; intro fa F
      obtain ⟨xb13, xo13, xa13, xr13⟩ := HS.out i (by omega)
      refine F.sv (R_ixSlice (sz := 1) rfl ((F.at rfl).trans (xa13 _ _)) (F.at rfl) Try.underlying25 (by kernel_rfl) (by omega) (by omega)) ?_; clear F fa; intro fa F
      refine F.sv (R_load rfl (F.at rfl) Try.underlying3 rfl (xr13 _ EX 0 _ rfl)) ?_; clear F fa; intro fa F
      refine F.smv ?_; clear F fa; intro fa F
      refine F.smv ?_; clear F fa; intro fa F
      obtain ⟨xb14, xo14, xa14, xr14⟩ := HSR.out d (by omega)
      refine F.sv (R_ixSlice (sz := 1) rfl ((F.at rfl).trans (xa14 _ _)) (F.at rfl) Try.underlying25 (by kernel_rfl) (by omega) (by omega)) ?_; clear F fa; intro fa F
      refine F.sv (R_load rfl (F.at rfl) Try.underlying3 rfl (xr14 _ E 0 _ rfl)) ?_; clear F fa; intro fa F
      refine F.sv (R_field rfl (F.at rfl) Try.underlying24 rfl (n := 1) (sz := 1) rfl (by kernel_rfl) (by decide)) ?_; clear F fa; intro fa F
      refine F.sv (R_load rfl (F.at rfl) Try.underlying22 rfl ((cells_of_block q2 1).trans (getS (get0)))) ?_; clear F fa; intro fa F
      refine F.smv ?_; clear F fa; intro fa F
      obtain ⟨xb15, xo15, xa15, xr15⟩ := HD.out d (by omega)
      refine F.sv (R_ixSlice (sz := 1) rfl ((F.at rfl).trans (xa15 _ _)) (F.at rfl) Try.underlying22 (by kernel_rfl) (by omega) (by omega)) ?_; clear F fa; intro fa F
      refine F.sv (R_load rfl (F.at rfl) Try.underlying25 rfl (xr15 _ E 0 _ rfl)) ?_; clear F fa; intro fa F
      rw [hla] at F
      refine F.smv ?_; clear F fa; intro fa F
      obtain ⟨xb16, xo16, xa16, xr16⟩ := HLR.out i (by omega)
      refine F.sv (R_ixSlice (sz := 1) rfl ((F.at rfl).trans (xa16 _ _)) (F.at rfl) Try.underlying25 (by kernel_rfl) (by omega) (by omega)) ?_; clear F fa; intro fa F
      refine F.sv (R_load rfl (F.at rfl) Try.underlying3 rfl (xr16 _ E 0 _ rfl)) ?_; clear F fa; intro fa F
      refine F.sv (R_mul rfl (F.at rfl) (F.at rfl) (by omega) (by omega)) ?_; clear F fa; intro fa F
      refine F.sv (R_add rfl (F.at rfl) (F.at rfl) (by omega) (by omega)) ?_; clear F fa; intro fa F
      obtain ⟨xb17, xo17, xa17, xr17⟩ := HS.out i (by omega)
      refine F.sv (R_ixSlice (sz := 1) rfl ((F.at rfl).trans (xa17 _ _)) (F.at rfl) Try.underlying25 (by kernel_rfl) (by omega) (by omega)) ?_; clear F fa; intro fa F
      refine wpStill_nil ?_
      obtain ⟨⟨u0, hcu⟩, hfu, hst⟩ := owns_at oo xa17 (j := i) (p := xo17 + ((i : Nat) : Int).toNat * 1) (by first | omega | (simp; omega)) (by omega)
      refine sq_to rfl rfl (R_store rfl (F.at rfl) (F.at rfl) rfl (by kernel_rfl) hcu hfu) ?_; intro w6 hw
      obtain ⟨hown', hg⟩ := hst _ _ hw
      clear hst hcu hfu hw
      replace q2 := keep_type oo hg q2 (by decide)
      replace E := ext_appendX E oo hg (by omega)
      replace oo := hown'
      clear hg
      rw [ivs_setZ, hmk, show tonE x (val l) i d + l.getD d 0 * (x.D.getD d (.bool true, [])).2.getD i 0 = tonE x (val l) i (d + 1) from rfl, hst] at oo
      refine wpList_nil ?_
      refine hK12 _ _ ?_
      clear hK12
      refine wp_region_lit ?_
      refine F.mv ?_; clear F fa; intro fa F
      refine F.vl (R_add rfl (F.at rfl) (ev_c fa _) (by omega) (by omega)) ?_; clear F fa; intro fa F
      refine F.as ?_; clear F fa; intro fa F
      refine wpList_nil ?_
      show _ ∧ _
      exact ⟨by omega, _, ⟨rfl, E, q2, oo⟩, F.sub (.c 9 rfl (.c 1 rfl (.c 2 rfl (.c 6 rfl (.c 7 rfl (.c 8 rfl .n))))))⟩
    · skip
      refine wp_exit ?_
      rw [show i = bn by omega, sumR_next] at oo
      refine hK8 _ _ ?_
      clear hK8
      have hsb := sum_take_bd HB.out d
      have hnb := HB.out _ (getD_mem 0 (show d < l.length by omega))
      refine wp_region_lit ?_
      refine F.mv ?_; clear F fa; intro fa F
      refine F.mv ?_; clear F fa; intro fa F
      refine F.mv ?_; clear F fa; intro fa F
      obtain ⟨xb18, xo18, xa18, xr18⟩ := HSR.out d (by omega)
      refine F.vl (R_ixSlice (sz := 1) rfl ((F.at rfl).trans (xa18 _ _)) (F.at rfl) Try.underlying25 (by kernel_rfl) (by omega) (by omega)) ?_; clear F fa; intro fa F
      refine F.vl (R_load rfl (F.at rfl) Try.underlying3 rfl (xr18 _ E 0 _ rfl)) ?_; clear F fa; intro fa F
      refine F.vl (R_add rfl (F.at rfl) (F.at rfl) (by omega) (by omega)) ?_; clear F fa; intro fa F
      rw [← sum_take l (by omega)] at F
      refine F.as ?_; clear F fa; intro fa F
      refine wpList_nil ?_
      refine hK7 _ _ ?_
      clear hK7
      refine wp_region_lit ?_
      refine F.mv ?_; clear F fa; intro fa F
      refine F.vl (R_add rfl (F.at rfl) (ev_c fa _) (by omega) (by omega)) ?_; clear F fa; intro fa F
      refine F.as ?_; clear F fa; intro fa F
      refine wpList_nil ?_
      show _ ∧ _
      exact ⟨by omega, _, ⟨rfl, E, q2, oo⟩, F.sub (.c 7 rfl (.c 8 rfl (.c 1 rfl (.c 2 rfl (.c 6 rfl .n)))))⟩
  · skip
    refine wp_exit ?_
    rw [show d = x.D.length by omega, sumR_end] at oo
    rw [List.take_of_length_le (show l.length ≤ d by omega)] at F
    refine hK3 _ _ ?_
    clear hK3
    refine wp_seq_k fun K19 hK19 => ?_
    refine wp_region_lit ?_
    refine F.mv ?_; clear F fa; intro fa F
    refine F.mv ?_; clear F fa; intro fa F
    refine F.as ?_; clear F fa; intro fa F
    refine F.as ?_; clear F fa; intro fa F
    refine wpList_nil ?_
    refine hK19 _ _ ?_
    clear hK19
    refine wp_ret ?_
    (try simp only [Exit.inBlock, Exit.then, reduceIte])
    refine rt_v F (rs_2 F rfl rfl rfl) ?_
    exact ⟨_, rfl, oo, E⟩
set_option maxRecDepth 100000 in
set_option maxHeartbeats 1000000 in
theorem weightOf_ok (x : Vm) (hv : VOk x) (k : Nat) (hk : k < x.L.length) (bn : Nat) (hbn : x.B = bn) (s : List Int) (hs : s.length = bn) (hb : ∀ n ∈ s, 0 ≤ n ∧ n ≤ 100000) (a : Option Addr) (c : Nat) (w : World) (h : x.At w) (hr : IsRows w (.slice a s.length c) 1 (s.map intRow)) :
    Calls Try.prog 93 #[.agg #[.int .i64 x.B, .slice x.da x.D.length x.dc, .slice x.la x.L.length x.lc, .int .i64 x.tol], .int .i64 ((k : Nat) : Int), .slice a s.length c] w fun e w' => e = .returned (.int .i64 (dotE (val (x.lamp k)) (val s) bn)) ∧ Ext [] w w' := by
  have E : Ext [] w w := Ext.refl _ _
  have HX := Lib.hid h
  have HV := Lib.hid hv
  have HSR := Lib.hid (slAt_of_rows hr 0)
  have HB := Lib.hid hb
  have HL := Lib.hid h.l.1
  have hb3 := hv.b3
  have hb1 := hv.b1
  obtain ⟨la, lca, hla, hlr⟩ := h.l.2 _ (getD_mem (.bool true, []) hk)
  have hlen := (hv.ll _ (getD_mem (.bool true, []) hk)).1
  have hlb : (x.L.getD k (.bool true, [])).2.length = bn := by omega
  have HLR := Lib.hid (slAt_of_rows hlr 0)
  clear h hv hr hb hlr
  refine calls_has 31 Try.func93 rfl Try.ntmps93 (Nat.le_of_ble_eq_true rfl) ?_
  intro fa F
  refine wp_seq_k fun K1 hK1 => ?_
  refine wp_region_lit ?_
  refine sq_new F rfl (by decide) rfl (R_box rfl (F.at rfl)) ?_; clear F fa; intro fa w1 F hw
  obtain ⟨n3, hn⟩ : ∃ n, n = w.heap.size := ⟨_, rfl⟩
  rw [← hn] at F
  have s3 : w.heap.size ≤ n3 := Nat.le_of_eq hn.symm
  have l3_E : w.heap.size ≤ n3 := by rw [hn]; exact E.size
  replace E := ext_alloc E hw
  have q3 := new_row hw hn
  clear hw hn
  refine F.vl (R_assign rfl (ev_c fa _)) ?_; clear F fa; intro fa F
  refine wpList_nil ?_
  refine hK1 _ _ ?_
  clear hK1
  refine wp_seq_k fun K2 hK2 => ?_
  refine wp_region_lit ?_
  refine F.vl (R_assign rfl (ev_c fa _)) ?_; clear F fa; intro fa F
  refine wpList_nil ?_
  rw [show (0 : Int) = dotE (val (x.lamp k)) (val s) 0 from rfl] at F
  refine hK2 _ _ ?_
  clear hK2
  refine wp_seq_k fun K3 hK3 => ?_
  refine wp_seq_k fun K4 hK4 => ?_
  refine wp_region_lit ?_
  refine F.vl (R_assign rfl (ev_c fa _)) ?_; clear F fa; intro fa F
  refine wpList_nil ?_
  refine hK4 _ _ ?_
  clear hK4
  refine wp_block ?_
  have F0 := F.sub (.c 1 rfl (.c 2 rfl (.c 3 rfl .n)))
  refine lp_for F0 (bn) (fun i Lv W => Lv = [(7, .int .i64 (dotE (val (x.lamp k)) (val s) i)), (8, .int .i64 ((i : Nat) : Int))] ∧ Ext [] w W ∧ W.heap[n3]? = some (.cells #[.int .i64 x.B, .slice x.da x.D.length x.dc, .slice x.la x.L.length x.lc, .int .i64 x.tol] 24 (0, 0)) ∧ 0 ≤ dotE (val (x.lamp k)) (val s) i ∧ dotE (val (x.lamp k)) (val s) i ≤ 1000000 * i) ⟨_, ⟨rfl, E, q3, (by simp [dotE, sumTo])⟩, F.sub (.c 7 rfl (.c 8 rfl (.c 1 rfl (.c 2 rfl (.c 3 rfl .n)))))⟩ ?_
  clear F F0
  clear E q3
  rintro i _ fa w2 hi1 ⟨rfl, E, q3, hdb⟩ F
  refine wp_seq_k fun K5 hK5 => ?_
  refine wp_seq_k fun K6 hK6 => ?_
  refine wp_region_lit ?_
  refine F.mv ?_; clear F fa; intro fa F
  refine F.vl (R_field rfl (F.at rfl) Try.underlying24 rfl (n := 0) (sz := 1) rfl (by kernel_rfl) (by decide)) ?_; clear F fa; intro fa F
  refine F.vl (R_load rfl (F.at rfl) Try.underlying3 rfl ((cells_of_block q3 0).trans (get0))) ?_; clear F fa; intro fa F
  rw [hbn] at F
  refine F.vl (R_lss rfl (F.at rfl) (F.at rfl)) ?_; clear F fa; intro fa F
  refine wpList_nil ?_
  refine hK6 _ _ ?_
  clear hK6
  refine cd_if F rfl (fun hc12 => ?_) (fun hc12 => ?_)
  · skip
    refine wp_skip ?_
    refine hK5 _ _ ?_
    clear hK5
    refine wp_seq_k fun K7 hK7 => ?_
    refine wp_block ?_
    have hlq := lamp_bd HV.out hk i
    simp only [val, Vm.lamp] at hlq
    have hsq := HB.out _ (getD_mem 0 (show i < s.length by omega))
    obtain ⟨hp0, hp1⟩ := mul_bd hlq.1 (by omega) hsq.1 hsq.2
    refine wp_region_st 15 follows (by kernel_rfl) fun w3 hh eh => ?_
    replace q3 := keep_same hh q3
    replace E := ext_same E eh
    clear hh eh
    refine F.smv ?_; clear F fa; intro fa F
    refine F.sv (R_field rfl (F.at rfl) Try.underlying24 rfl (n := 2) (sz := 1) rfl (by kernel_rfl) (by decide)) ?_; clear F fa; intro fa F
    refine F.sv (R_load rfl (F.at rfl) Try.underlying22 rfl ((cells_of_block q3 2).trans (getS (getS (get0))))) ?_; clear F fa; intro fa F
    refine F.smv ?_; clear F fa; intro fa F
    obtain ⟨xb8, xo8, xa8, xr8⟩ := HL.out k (by omega)
    refine F.sv (R_ixSlice (sz := 1) rfl ((F.at rfl).trans (xa8 _ _)) (F.at rfl) Try.underlying22 (by kernel_rfl) (by omega) (by omega)) ?_; clear F fa; intro fa F
    refine F.sv (R_load rfl (F.at rfl) Try.underlying25 rfl (xr8 _ E 0 _ rfl)) ?_; clear F fa; intro fa F
    rw [hla] at F
    refine F.smv ?_; clear F fa; intro fa F
    obtain ⟨xb9, xo9, xa9, xr9⟩ := HLR.out i (by omega)
    refine F.sv (R_ixSlice (sz := 1) rfl ((F.at rfl).trans (xa9 _ _)) (F.at rfl) Try.underlying25 (by kernel_rfl) (by omega) (by omega)) ?_; clear F fa; intro fa F
    refine F.sv (R_load rfl (F.at rfl) Try.underlying3 rfl (xr9 _ E 0 _ rfl)) ?_; clear F fa; intro fa F
    refine F.smv ?_; clear F fa; intro fa F
    refine F.smv ?_; clear F fa; intro fa F
    obtain ⟨xb10, xo10, xa10, xr10⟩ := HSR.out i (by omega)
    refine F.sv (R_ixSlice (sz := 1) rfl ((F.at rfl).trans (xa10 _ _)) (F.at rfl) Try.underlying25 (by kernel_rfl) (by omega) (by omega)) ?_; clear F fa; intro fa F
    refine F.sv (R_load rfl (F.at rfl) Try.underlying3 rfl (xr10 _ E 0 _ rfl)) ?_; clear F fa; intro fa F
    refine F.sv (R_mul rfl (F.at rfl) (F.at rfl) (by omega) (by omega)) ?_; clear F fa; intro fa F
    refine F.sv (R_add rfl (F.at rfl) (F.at rfl) (by omega) (by omega)) ?_; clear F fa; intro fa F
    refine wpStill_nil ?_
    refine F.as ?_; clear F fa; intro fa F
    refine wpList_nil ?_
    rw [show dotE (val (x.lamp k)) (val s) i + (x.L.getD k (.bool true, [])).2.getD i 0 * s.getD i 0 = dotE (val (x.lamp k)) (val s) (i + 1) from rfl] at F
    refine hK7 _ _ ?_
    clear hK7
    refine wp_region_lit ?_
    refine F.mv ?_; clear F fa; intro fa F
    refine F.vl (R_add rfl (F.at rfl) (ev_c fa _) (by omega) (by omega)) ?_; clear F fa; intro fa F
    refine F.as ?_; clear F fa; intro fa F
    refine wpList_nil ?_
    show _ ∧ _
    exact ⟨by omega, _, ⟨rfl, E, q3, (by have h2 : dotE (val (x.lamp k)) (val s) (i + 1) = dotE (val (x.lamp k)) (val s) i + (x.L.getD k (.bool true, [])).2.getD i 0 * s.getD i 0 := rfl; constructor <;> omega)⟩, F.sub (.c 7 rfl (.c 8 rfl (.c 1 rfl (.c 2 rfl (.c 3 rfl .n)))))⟩
  · skip
    refine wp_exit ?_
    rw [show i = bn by omega] at F
    refine hK3 _ _ ?_
    clear hK3
    refine wp_seq_k fun K11 hK11 => ?_
    refine wp_region_lit ?_
    refine F.mv ?_; clear F fa; intro fa F
    refine F.as ?_; clear F fa; intro fa F
    refine wpList_nil ?_
    refine hK11 _ _ ?_
    clear hK11
    refine wp_ret ?_
    (try simp only [Exit.inBlock, Exit.then, reduceIte])
    refine rt_v F (rs_1 F rfl rfl) ?_
    exact ⟨rfl, E⟩
end Go.Proofs.Ytdjeecgddbjbeaa
