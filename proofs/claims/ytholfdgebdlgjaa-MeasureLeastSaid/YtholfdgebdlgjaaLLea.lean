/- The law MeasureLeast: the least numbers are a truth. No conditions. -/
import Derived.Test.YtholfdgebdlgjaaVr
import Derived.Test.YtholfdgebdlgjaaVt
namespace Go.Proofs.Ytholfdgebdlgjaa
open Go.RowKit
set_option linter.unusedVariables false
set_option linter.unusedSimpArgs false
/-- All greatest measures and least pulls are a truth, and all least measures and greatest pulls. -/
theorem mos_tr {t : Tp} (h : t.Live) : Tr t 0 (fun j => bdV t 0 0 j) ∧ bdV t 0 0 0 = 0 := by
  obtain ⟨y, hy⟩ := h.some
  rw [bdV_some hy]
  exact bd_reach h.ok hy (by omega)
theorem les_tr {t : Tp} (h : t.Live) : Tr t 0 (fun j => -(bdV t 0 j 0)) ∧ -(bdV t 0 0 0) = 0 := by
  obtain ⟨y, hy⟩ := h.some
  have h0 := (bd_reach h.ok hy (i := 0) (by omega)).2
  rw [bdV_some hy]
  have hc := closed_of_round (fun p _ => by rw [(small_loose h.ok 0).2 p]; exact Int.le_refl _) hy
  refine ⟨((sol_loose h.ok 0).1 (sol_back hy (fun i j hi hj => ?_))).2, by omega⟩
  have := hc.2 j i 0 hj hi (by omega)
  show -(y j 0) - -(y i 0) ≤ y i j
  omega
theorem flat2_get (f : Nat → Nat → Int) (A : Nat) : ∀ S s a, s < S → a < A → (((List.range S).map fun s => (List.range A).map (f s)).flatten).getD (s * A + a) 0 = f s a
  | 0, s, a, h, _ => by omega
  | S + 1, s, a, h, ha => by
    have hl : (((List.range S).map fun s => (List.range A).map (f s)).flatten).length = S * A := by
      rw [flat_lens (A := A) fun l hl => by obtain ⟨s, -, rfl⟩ := List.mem_map.1 hl; simp]
      simp
    rw [List.range_succ, List.map_append, List.flatten_append, List.getD_eq_getElem?_getD]
    by_cases e : s < S
    · have : s * A + a < S * A := by
        have := Nat.mul_le_mul_right A (show s + 1 ≤ S by omega)
        rw [Nat.add_mul] at this
        omega
      rw [List.getElem?_append_left (by rw [hl]; exact this), ← List.getD_eq_getElem?_getD]
      exact flat2_get f A S s a e ha
    · obtain rfl : s = S := by omega
      rw [List.getElem?_append_right (by rw [hl]; omega), hl, Nat.add_sub_cancel_left]
      simp [ha]
theorem truth_grow {t : Tp} (ok : t.Ok) {x : Nat → Int} (hx : Tr t 0 x) (h0 : x 0 = 0) {m : List Int} (hm : ∀ s a : Nat, (s : Int) < t.S → (a : Int) < t.A → m.getD ((s : Int) * t.A + (a : Int)).toNat 0 = x (nodeC s a)) : growP t m := by
  refine ⟨fun s a hs ha => ?_, fun i hi => ?_⟩
  · have q := hx.cell s a hs ha
    have q1 := q.lo
    have q2 := q.hi
    have e := hm s a hs ha
    refine ⟨by rw [e]; omega, by rw [e]; omega, fun hp => ?_⟩
    have q3 := q.glo (by omega)
    have q4 := q.ghi (by omega)
    obtain ⟨b, rfl⟩ : ∃ b, a = b + 1 := ⟨a - 1, by omega⟩
    have e2 := hm s b hs (by omega)
    rw [show (s : Int) * t.A + ((b + 1 : Nat) : Int) - 1 = (s : Int) * t.A + (b : Int) by omega, e, e2, Int.toNat_natCast]
    rw [show ((b + 1 : Nat) : Int) - 1 = (b : Int) by omega] at q3 q4
    exact ⟨q3, q4⟩
  · have q := hx.link i hi
    have hr := ok.lk _ (getD_mem (0, 0, 0, 0, 0, 0) hi)
    unfold LinkG
    generalize t.lk.getD i (0, 0, 0, 0, 0, 0) = l at q hr
    have q1 := q.lo
    have q2 := q.hi
    have e1 := hm l.1.toNat l.2.1.toNat (by omega) (by omega)
    have e2 := hm l.2.2.1.toNat l.2.2.2.1.toNat (by omega) (by omega)
    rw [Int.toNat_of_nonneg (by omega), Int.toNat_of_nonneg (by omega)] at e1 e2
    rw [e1, e2]
    exact ⟨q1, q2⟩
theorem truth_pull {t : Tp} (ok : t.Ok) {x : Nat → Int} (hx : Tr t 0 x) (h0 : x 0 = 0) {m : List Int} (hm : ∀ s a : Nat, (s : Int) < t.S → (a : Int) < t.A → m.getD ((s : Int) * t.A + (a : Int)).toNat 0 = x (nodeC s a)) {i : Nat} (hi : (i : Int) < t.T) :
    t.pl ≤ -(x (nodeT i)) ∧ -(x (nodeT i)) ≤ t.pm ∧ pullP t m i (-(x (nodeT i))) := by
  have q := hx.tail i hi
  have q1 := q.lo
  have q2 := q.hi
  refine ⟨by omega, by omega, fun j hj e => ?_⟩
  have r := hx.read j hj (by simp [hasB])
  have hr := ok.rd _ (getD_mem (0, 0, 0, 0) hj)
  generalize t.rd.getD j (0, 0, 0, 0) = l at e r hr
  have r1 := r.lo
  have r2 := r.hi
  have e1 := hm l.1.toNat l.2.1.toNat (by omega) (by omega)
  rw [Int.toNat_of_nonneg (by omega), Int.toNat_of_nonneg (by omega)] at e1
  rw [e1]
  rw [e] at r1 r2
  omega
/-- The lists of Least and of Most. -/
theorem end_get {t : Tp} (pe : Int → Int → Int) (A1 : 0 ≤ t.A) {s a : Nat} (hs : (s : Int) < t.S) (ha : (a : Int) < t.A) : (endL t pe).flatten.getD ((s : Int) * t.A + (a : Int)).toNat 0 = pe (mlo t s a) (mhi t s a) := by
  have e : ((s : Int) * t.A + (a : Int)).toNat = s * t.A.toNat + a := by
    have : (s : Int) * t.A = ((s * t.A.toNat : Nat) : Int) := by rw [Int.natCast_mul, Int.toNat_of_nonneg A1]
    omega
  rw [e]
  exact flat2_get (fun s a => pe (mlo t (s : Nat) (a : Nat)) (mhi t (s : Nat) (a : Nat))) t.A.toNat t.S.toNat s a (by omega) (by omega)
theorem end_row {t : Tp} (pe : Int → Int → Int) {L : List (Value × List Int)} (h : L.map (·.2) = endL t pe) : L.length = t.S.toNat ∧ (∀ p ∈ L, p.2.length = t.A.toNat) ∧ ∀ s a : Nat, (s : Int) < t.S → (a : Int) < t.A → (L.getD s (.bool true, [])).2.getD a 0 = pe (mlo t s a) (mhi t s a) := by
  have hl : L.length = t.S.toNat := by have := congrArg List.length h; simpa [endL] using this
  refine ⟨hl, fun p hp => ?_, fun s a hs ha => ?_⟩
  · have : p.2 ∈ L.map (·.2) := List.mem_map_of_mem hp
    rw [h] at this
    obtain ⟨s, -, e⟩ := List.mem_map.1 this
    rw [← e]
    simp
  · have := congrArg (fun l => l.getD s []) h
    simp only [getD_key (fun p : Value × List Int => p.2) (.bool true, []) L (show s < L.length by omega)] at this
    rw [this]
    have h1 : s < t.S.toNat := by omega
    have h2 : a < t.A.toNat := by omega
    simp [endL, h1, h2]
theorem end_mem {t : Tp} (hL : t.Live) (pe : Int → Int → Int) (hp : ∀ a b, pe a b = a ∨ pe a b = b) : ∀ x ∈ (endL t pe).flatten, -100000 ≤ x ∧ x ≤ 100000 := by
  intro x hx
  obtain ⟨l, hl, hx⟩ := List.mem_flatten.1 hx
  obtain ⟨s, hs, rfl⟩ := List.mem_map.1 hl
  obtain ⟨a, ha, rfl⟩ := List.mem_map.1 hx
  have hs := List.mem_range.1 hs
  have ha := List.mem_range.1 ha
  have := mbd hL (s := (s : Nat)) (a := (a : Nat)) (by omega) (by omega) (by omega) (by omega)
  rcases hp (mlo t (s : Nat) (a : Nat)) (mhi t (s : Nat) (a : Nat)) with e | e <;> rw [e] <;> omega
theorem pull_get {t : Tp} (po : Int → Int → Int) {i : Nat} (hi : (i : Int) < t.T) : (pullL t po).getD i 0 = po (plo t i) (phi t i) := by
  have h1 : i < t.T.toNat := by omega
  simp [pullL, h1]
def fstI (a _b : Int) : Int := a
def sndI (_a b : Int) : Int := b
theorem least_any (a b : Int) (w : World) : Calls Try.prog 118 #[.agg #[.int .i64 a, .int .i64 b]] w fun e w' => e = .returned (.int .i64 (fstI a b)) ∧ Ext [] w w' := by
  have E : Ext [] w w := Ext.refl _ _
  refine calls_has 5 Try.func118 rfl Try.ntmps118 (Nat.le_of_ble_eq_true rfl) ?_
  intro fa F
  refine wp_seq_k fun K1 hK1 => ?_
  refine wp_region_lit ?_
  refine sq_new F rfl (by decide) rfl (R_box rfl (F.at rfl)) ?_; clear F fa; intro fa w1 F hw
  obtain ⟨n1, hn⟩ : ∃ n, n = w.heap.size := ⟨_, rfl⟩
  rw [← hn] at F
  have s1 : w.heap.size ≤ n1 := Nat.le_of_eq hn.symm
  have l1_E : w.heap.size ≤ n1 := by rw [hn]; exact E.size
  replace E := ext_alloc E hw
  have q1 := new_row hw hn
  clear hw hn
  refine F.vl (R_assign rfl (ev_c fa _)) ?_; clear F fa; intro fa F
  refine wpList_nil ?_
  refine hK1 _ _ ?_
  clear hK1
  refine wp_seq_k fun K2 hK2 => ?_
  refine wp_region_lit ?_
  refine F.vl (R_field rfl (F.at rfl) Try.underlying23 rfl (n := 0) (sz := 1) rfl (by kernel_rfl) (by decide)) ?_; clear F fa; intro fa F
  refine F.vl (R_load rfl (F.at rfl) Try.underlying3 rfl ((cells_of_block q1 0).trans (get0))) ?_; clear F fa; intro fa F
  refine F.as ?_; clear F fa; intro fa F
  refine wpList_nil ?_
  refine hK2 _ _ ?_
  clear hK2
  refine wp_ret ?_
  (try simp only [Exit.inBlock, Exit.then])
  refine rt_v F (rs_1 F rfl rfl) ?_
  exact ⟨rfl, E⟩
theorem most_any (a b : Int) (w : World) : Calls Try.prog 119 #[.agg #[.int .i64 a, .int .i64 b]] w fun e w' => e = .returned (.int .i64 (sndI a b)) ∧ Ext [] w w' := by
  have E : Ext [] w w := Ext.refl _ _
  refine calls_has 5 Try.func119 rfl Try.ntmps119 (Nat.le_of_ble_eq_true rfl) ?_
  intro fa F
  refine wp_seq_k fun K1 hK1 => ?_
  refine wp_region_lit ?_
  refine sq_new F rfl (by decide) rfl (R_box rfl (F.at rfl)) ?_; clear F fa; intro fa w1 F hw
  obtain ⟨n1, hn⟩ : ∃ n, n = w.heap.size := ⟨_, rfl⟩
  rw [← hn] at F
  have s1 : w.heap.size ≤ n1 := Nat.le_of_eq hn.symm
  have l1_E : w.heap.size ≤ n1 := by rw [hn]; exact E.size
  replace E := ext_alloc E hw
  have q1 := new_row hw hn
  clear hw hn
  refine F.vl (R_assign rfl (ev_c fa _)) ?_; clear F fa; intro fa F
  refine wpList_nil ?_
  refine hK1 _ _ ?_
  clear hK1
  refine wp_seq_k fun K2 hK2 => ?_
  refine wp_region_lit ?_
  refine F.vl (R_field rfl (F.at rfl) Try.underlying23 rfl (n := 1) (sz := 1) rfl (by kernel_rfl) (by decide)) ?_; clear F fa; intro fa F
  refine F.vl (R_load rfl (F.at rfl) Try.underlying3 rfl ((cells_of_block q1 1).trans (getS (get0)))) ?_; clear F fa; intro fa F
  refine F.as ?_; clear F fa; intro fa F
  refine wpList_nil ?_
  refine hK2 _ _ ?_
  clear hK2
  refine wp_ret ?_
  (try simp only [Exit.inBlock, Exit.then])
  refine rt_v F (rs_1 F rfl rfl) ?_
  exact ⟨rfl, E⟩
theorem least_live {t : Tp} (hL : t.Live) (ga ra la : Option Addr) (gc rc lc : Nat) (w : World) (ht : IsTp w (.slice ga t.gr.length gc) (.slice ra t.rd.length rc) (.slice la t.lk.length lc) t) :
    Calls Try.prog 65 #[tpV t (.slice ga t.gr.length gc) (.slice ra t.rd.length rc) (.slice la t.lk.length lc)] w (EndPost t fstI sndI w) := by
  have E : Ext [] w w := Ext.refl _ _
  have HT := Lib.hid ht
  clear ht
  have HK := Lib.hid (fun W (h : Ext [] w W) => ends_yes hL 118 119 fstI sndI Try.call118 Try.call119 least_any most_any ga ra la gc rc lc W (HT.out.ext h (by simp)))
  unfold tpV at HK ⊢
  refine calls_has 10 Try.func65 rfl Try.ntmps65 (Nat.le_of_ble_eq_true rfl) ?_
  intro fa F
  refine wp_seq_k fun K1 hK1 => ?_
  refine wp_region_lit ?_
  refine sq_new F rfl (by decide) rfl (R_box rfl (F.at rfl)) ?_; clear F fa; intro fa w1 F hw
  obtain ⟨n1, hn⟩ : ∃ n, n = w.heap.size := ⟨_, rfl⟩
  rw [← hn] at F
  have s1 : w.heap.size ≤ n1 := Nat.le_of_eq hn.symm
  have l1_E : w.heap.size ≤ n1 := by rw [hn]; exact E.size
  replace E := ext_alloc E hw
  have q1 := new_row hw hn
  clear hw hn
  refine F.vl (R_assign rfl (ev_c fa _)) ?_; clear F fa; intro fa F
  refine F.vl (R_assign rfl (ev_c fa _)) ?_; clear F fa; intro fa F
  refine F.vl (R_assign rfl (ev_c fa _)) ?_; clear F fa; intro fa F
  refine wpList_nil ?_
  refine hK1 _ _ ?_
  clear hK1
  refine wp_seq_k fun K2 hK2 => ?_
  refine wp_region_lit ?_
  refine F.vl (R_loadBlk rfl (F.at rfl) Try.underlying28 rfl (by kernel_rfl) q1) ?_; clear F fa; intro fa F
  refine sq_call F rfl (by decide) rfl (R_callV rfl rfl Try.call117 (mpS (F.at rfl) (mpS rfl (mpS rfl mp0)))) (HK.out _ E) fun e w2 hR => ?_
  obtain ⟨L, P, a, pa, c, pc, rfl, h1, h2, h3, h4, h5, eX⟩ := hR
  refine ⟨_, rfl, ?_⟩; clear F fa; intro fa F
  replace q1 := (eX).keep0 q1
  replace E := ext_same E (eX)
  have EX : Ext [] w2 w2 := Ext.refl _ _
  replace h3 := Lib.hid h3
  replace h4 := Lib.hid h4
  replace h5 := Lib.hid h5
  refine F.vl (R_extract rfl (F.at rfl) (get0)) ?_; clear F fa; intro fa F
  refine F.vl (R_extract rfl (F.at rfl) (getS (get0))) ?_; clear F fa; intro fa F
  refine F.vl (R_extract rfl (F.at rfl) (getS (getS (get0)))) ?_; clear F fa; intro fa F
  refine F.as ?_; clear F fa; intro fa F
  refine F.as ?_; clear F fa; intro fa F
  refine F.as ?_; clear F fa; intro fa F
  refine wpList_nil ?_
  refine hK2 _ _ ?_
  clear hK2
  refine wp_ret ?_
  (try simp only [Exit.inBlock, Exit.then])
  refine rt_v F (rs_3 F rfl rfl rfl rfl) ?_
  exact ⟨L, P, a, pa, c, pc, rfl, h1, h2, slAt_ext h3.out EX, fun p hp => (h4.out p hp).ext EX, h5.out.ext EX (by simp), E⟩
theorem most_live {t : Tp} (hL : t.Live) (ga ra la : Option Addr) (gc rc lc : Nat) (w : World) (ht : IsTp w (.slice ga t.gr.length gc) (.slice ra t.rd.length rc) (.slice la t.lk.length lc) t) :
    Calls Try.prog 66 #[tpV t (.slice ga t.gr.length gc) (.slice ra t.rd.length rc) (.slice la t.lk.length lc)] w (EndPost t sndI fstI w) := by
  have E : Ext [] w w := Ext.refl _ _
  have HT := Lib.hid ht
  clear ht
  have HK := Lib.hid (fun W (h : Ext [] w W) => ends_yes hL 119 118 sndI fstI Try.call119 Try.call118 most_any least_any ga ra la gc rc lc W (HT.out.ext h (by simp)))
  unfold tpV at HK ⊢
  refine calls_has 10 Try.func66 rfl Try.ntmps66 (Nat.le_of_ble_eq_true rfl) ?_
  intro fa F
  refine wp_seq_k fun K1 hK1 => ?_
  refine wp_region_lit ?_
  refine sq_new F rfl (by decide) rfl (R_box rfl (F.at rfl)) ?_; clear F fa; intro fa w1 F hw
  obtain ⟨n1, hn⟩ : ∃ n, n = w.heap.size := ⟨_, rfl⟩
  rw [← hn] at F
  have s1 : w.heap.size ≤ n1 := Nat.le_of_eq hn.symm
  have l1_E : w.heap.size ≤ n1 := by rw [hn]; exact E.size
  replace E := ext_alloc E hw
  have q1 := new_row hw hn
  clear hw hn
  refine F.vl (R_assign rfl (ev_c fa _)) ?_; clear F fa; intro fa F
  refine F.vl (R_assign rfl (ev_c fa _)) ?_; clear F fa; intro fa F
  refine F.vl (R_assign rfl (ev_c fa _)) ?_; clear F fa; intro fa F
  refine wpList_nil ?_
  refine hK1 _ _ ?_
  clear hK1
  refine wp_seq_k fun K2 hK2 => ?_
  refine wp_region_lit ?_
  refine F.vl (R_loadBlk rfl (F.at rfl) Try.underlying28 rfl (by kernel_rfl) q1) ?_; clear F fa; intro fa F
  refine sq_call F rfl (by decide) rfl (R_callV rfl rfl Try.call117 (mpS (F.at rfl) (mpS rfl (mpS rfl mp0)))) (HK.out _ E) fun e w2 hR => ?_
  obtain ⟨L, P, a, pa, c, pc, rfl, h1, h2, h3, h4, h5, eX⟩ := hR
  refine ⟨_, rfl, ?_⟩; clear F fa; intro fa F
  replace q1 := (eX).keep0 q1
  replace E := ext_same E (eX)
  have EX : Ext [] w2 w2 := Ext.refl _ _
  replace h3 := Lib.hid h3
  replace h4 := Lib.hid h4
  replace h5 := Lib.hid h5
  refine F.vl (R_extract rfl (F.at rfl) (get0)) ?_; clear F fa; intro fa F
  refine F.vl (R_extract rfl (F.at rfl) (getS (get0))) ?_; clear F fa; intro fa F
  refine F.vl (R_extract rfl (F.at rfl) (getS (getS (get0)))) ?_; clear F fa; intro fa F
  refine F.as ?_; clear F fa; intro fa F
  refine F.as ?_; clear F fa; intro fa F
  refine F.as ?_; clear F fa; intro fa F
  refine wpList_nil ?_
  refine hK2 _ _ ?_
  clear hK2
  refine wp_ret ?_
  (try simp only [Exit.inBlock, Exit.then])
  refine rt_v F (rs_3 F rfl rfl rfl rfl) ?_
  exact ⟨L, P, a, pa, c, pc, rfl, h1, h2, slAt_ext h3.out EX, fun p hp => (h4.out p hp).ext EX, h5.out.ext EX (by simp), E⟩
theorem least_no {t : Tp} (ok : t.Ok) (h8 : t.rd.length ≤ 8) (hb : bdB t 0 = false) (ga ra la : Option Addr) (gc rc lc : Nat) (w : World) (ht : IsTp w (.slice ga t.gr.length gc) (.slice ra t.rd.length rc) (.slice la t.lk.length lc) t) :
    Calls Try.prog 65 #[tpV t (.slice ga t.gr.length gc) (.slice ra t.rd.length rc) (.slice la t.lk.length lc)] w fun e w' => e = .returned (.tuple #[.slice none 0 0, .slice none 0 0, .int .i64 9]) ∧ Ext [] w w' := by
  have E : Ext [] w w := Ext.refl _ _
  have HT := Lib.hid ht
  clear ht
  have HK := Lib.hid (fun W (h : Ext [] w W) => ends_no ok h8 hb 118 119 ga ra la gc rc lc W (HT.out.ext h (by simp)))
  unfold tpV at HK ⊢
  refine calls_has 10 Try.func65 rfl Try.ntmps65 (Nat.le_of_ble_eq_true rfl) ?_
  intro fa F
  refine wp_seq_k fun K1 hK1 => ?_
  refine wp_region_lit ?_
  refine sq_new F rfl (by decide) rfl (R_box rfl (F.at rfl)) ?_; clear F fa; intro fa w1 F hw
  obtain ⟨n1, hn⟩ : ∃ n, n = w.heap.size := ⟨_, rfl⟩
  rw [← hn] at F
  have s1 : w.heap.size ≤ n1 := Nat.le_of_eq hn.symm
  have l1_E : w.heap.size ≤ n1 := by rw [hn]; exact E.size
  replace E := ext_alloc E hw
  have q1 := new_row hw hn
  clear hw hn
  refine F.vl (R_assign rfl (ev_c fa _)) ?_; clear F fa; intro fa F
  refine F.vl (R_assign rfl (ev_c fa _)) ?_; clear F fa; intro fa F
  refine F.vl (R_assign rfl (ev_c fa _)) ?_; clear F fa; intro fa F
  refine wpList_nil ?_
  refine hK1 _ _ ?_
  clear hK1
  refine wp_seq_k fun K2 hK2 => ?_
  refine wp_region_lit ?_
  refine F.vl (R_loadBlk rfl (F.at rfl) Try.underlying28 rfl (by kernel_rfl) q1) ?_; clear F fa; intro fa F
  refine sq_call F rfl (by decide) rfl (R_callV rfl rfl Try.call117 (mpS (F.at rfl) (mpS rfl (mpS rfl mp0)))) (HK.out _ E) fun e w2 hR => ?_
  obtain ⟨rfl, e9⟩ := hR
  refine ⟨_, rfl, ?_⟩; clear F fa; intro fa F
  replace q1 := (e9).keep0 q1
  replace E := ext_same E (e9)
  clear e9
  refine F.vl (R_extract rfl (F.at rfl) (get0)) ?_; clear F fa; intro fa F
  refine F.vl (R_extract rfl (F.at rfl) (getS (get0))) ?_; clear F fa; intro fa F
  refine F.vl (R_extract rfl (F.at rfl) (getS (getS (get0)))) ?_; clear F fa; intro fa F
  refine F.as ?_; clear F fa; intro fa F
  refine F.as ?_; clear F fa; intro fa F
  refine F.as ?_; clear F fa; intro fa F
  refine wpList_nil ?_
  refine hK2 _ _ ?_
  clear hK2
  refine wp_ret ?_
  (try simp only [Exit.inBlock, Exit.then])
  refine rt_v F (rs_3 F rfl rfl rfl rfl) ?_
  exact ⟨rfl, E⟩
theorem most_no {t : Tp} (ok : t.Ok) (h8 : t.rd.length ≤ 8) (hb : bdB t 0 = false) (ga ra la : Option Addr) (gc rc lc : Nat) (w : World) (ht : IsTp w (.slice ga t.gr.length gc) (.slice ra t.rd.length rc) (.slice la t.lk.length lc) t) :
    Calls Try.prog 66 #[tpV t (.slice ga t.gr.length gc) (.slice ra t.rd.length rc) (.slice la t.lk.length lc)] w fun e w' => e = .returned (.tuple #[.slice none 0 0, .slice none 0 0, .int .i64 9]) ∧ Ext [] w w' := by
  have E : Ext [] w w := Ext.refl _ _
  have HT := Lib.hid ht
  clear ht
  have HK := Lib.hid (fun W (h : Ext [] w W) => ends_no ok h8 hb 119 118 ga ra la gc rc lc W (HT.out.ext h (by simp)))
  unfold tpV at HK ⊢
  refine calls_has 10 Try.func66 rfl Try.ntmps66 (Nat.le_of_ble_eq_true rfl) ?_
  intro fa F
  refine wp_seq_k fun K1 hK1 => ?_
  refine wp_region_lit ?_
  refine sq_new F rfl (by decide) rfl (R_box rfl (F.at rfl)) ?_; clear F fa; intro fa w1 F hw
  obtain ⟨n1, hn⟩ : ∃ n, n = w.heap.size := ⟨_, rfl⟩
  rw [← hn] at F
  have s1 : w.heap.size ≤ n1 := Nat.le_of_eq hn.symm
  have l1_E : w.heap.size ≤ n1 := by rw [hn]; exact E.size
  replace E := ext_alloc E hw
  have q1 := new_row hw hn
  clear hw hn
  refine F.vl (R_assign rfl (ev_c fa _)) ?_; clear F fa; intro fa F
  refine F.vl (R_assign rfl (ev_c fa _)) ?_; clear F fa; intro fa F
  refine F.vl (R_assign rfl (ev_c fa _)) ?_; clear F fa; intro fa F
  refine wpList_nil ?_
  refine hK1 _ _ ?_
  clear hK1
  refine wp_seq_k fun K2 hK2 => ?_
  refine wp_region_lit ?_
  refine F.vl (R_loadBlk rfl (F.at rfl) Try.underlying28 rfl (by kernel_rfl) q1) ?_; clear F fa; intro fa F
  refine sq_call F rfl (by decide) rfl (R_callV rfl rfl Try.call117 (mpS (F.at rfl) (mpS rfl (mpS rfl mp0)))) (HK.out _ E) fun e w2 hR => ?_
  obtain ⟨rfl, e9⟩ := hR
  refine ⟨_, rfl, ?_⟩; clear F fa; intro fa F
  replace q1 := (e9).keep0 q1
  replace E := ext_same E (e9)
  clear e9
  refine F.vl (R_extract rfl (F.at rfl) (get0)) ?_; clear F fa; intro fa F
  refine F.vl (R_extract rfl (F.at rfl) (getS (get0))) ?_; clear F fa; intro fa F
  refine F.vl (R_extract rfl (F.at rfl) (getS (getS (get0)))) ?_; clear F fa; intro fa F
  refine F.as ?_; clear F fa; intro fa F
  refine F.as ?_; clear F fa; intro fa F
  refine F.as ?_; clear F fa; intro fa F
  refine wpList_nil ?_
  refine hK2 _ _ ?_
  clear hK2
  refine wp_ret ?_
  (try simp only [Exit.inBlock, Exit.then])
  refine rt_v F (rs_3 F rfl rfl rfl rfl) ?_
  exact ⟨rfl, E⟩
/-- What right is asked, of Least and of Most. -/
theorem right_end {t : Tp} (hL : t.Live) (pe po : Int → Int → Int) (hpe : ∀ a b, pe a b = a ∨ pe a b = b) {x : Nat → Int} (hx : Tr t 0 x) (h0 : x 0 = 0) (hc : ∀ s a : Nat, (s : Int) < t.S → (a : Int) < t.A → pe (mlo t s a) (mhi t s a) = x (nodeC s a)) (ht : ∀ i : Nat, po (plo t i) (phi t i) = -(x (nodeT i)))
    {L : List (Value × List Int)} {P : List Int} (h1 : L.map (·.2) = endL t pe) (h2 : P = pullL t po) (ga ra la ya pa : Option Addr) (gc rc lc yc pc : Nat) (w : World) (h : IsTp w (.slice ga t.gr.length gc) (.slice ra t.rd.length rc) (.slice la t.lk.length lc) t)
    (HLs : SlAt [] w ya 1 L.length (fun i => [(L.getD i (.bool true, [])).1])) (HLr : ∀ p ∈ L, RowOf w p.1 p.2) (hpr : IsRows w (.slice pa P.length pc) 1 (P.map intRow)) :
    Calls Try.prog 67 #[tpV t (.slice ga t.gr.length gc) (.slice ra t.rd.length rc) (.slice la t.lk.length lc), .slice ya L.length yc, .slice pa P.length pc] w fun e w' => e = .returned (.bool true) ∧ Ext [] w w' := by
  have ok := hL.ok
  have o1 := ok.S1
  have o2 := ok.A1
  have o3 := ok.T1
  obtain ⟨l1, l2, l3⟩ := end_row pe h1
  have hm : ∀ s a : Nat, (s : Int) < t.S → (a : Int) < t.A → (endL t pe).flatten.getD ((s : Int) * t.A + (a : Int)).toNat 0 = x (nodeC s a) := fun s a hs ha => (end_get pe (by omega) hs ha).trans (hc s a hs ha)
  refine right_yes ok L (by omega) (fun p hp => by rw [l2 p hp]; omega) (endL t pe).flatten (by rw [h1]) P (by rw [h2, pullL, List.length_map, List.length_range]; omega) (truth_grow ok hx h0 hm) (fun i hi => ?_) (end_mem hL pe hpe) ga ra la ya pa gc rc lc yc pc w h HLs HLr hpr
  rw [h2, pull_get po hi, ht]
  exact truth_pull ok hx h0 hm hi
set_option maxRecDepth 100000 in
set_option maxHeartbeats 1000000 in
theorem least_walk (a0 : Option Addr) (len0 cap0 : Nat) (z0 : List Int) (w : World) (h0 : IsRow .i64 w a0 len0 cap0 z0) :
    Calls Try.prog 18 #[.slice a0 len0 cap0] w fun e w' => e = .returned (.bool true) ∧ Ext [] w w' := by
  have HN := Lib.hid (newLots_any w a0 len0 cap0 z0 h0)
  clear h0
  have E : Ext [] w w := Ext.refl _ _
  refine calls_has 151 Try.func18 rfl Try.ntmps18 (Nat.le_of_ble_eq_true rfl) ?_
  intro fa F
  refine wp_seq_k fun K1 hK1 => ?_
  refine wp_region_lit ?_
  refine F.vl (R_assign rfl (ev_c fa _)) ?_; clear F fa; intro fa F
  refine wpList_nil ?_
  refine hK1 _ _ ?_
  clear hK1
  refine wp_seq_k fun K2 hK2 => ?_
  refine wp_region_lit ?_
  refine F.mv ?_; clear F fa; intro fa F
  refine sq_call F rfl (by decide) rfl (R_callV rfl rfl Try.call27 (mpS (F.at rfl) mp0)) (HN.out) fun e w1 hR => ?_
  obtain ⟨b, rfl, hb, hb2, HL, e1⟩ := hR
  refine ⟨_, rfl, ?_⟩; clear F fa; intro fa F
  replace E := ext_same E (e1)
  clear e1
  have hbB := lots_lt HL
  obtain ⟨B0, hB0⟩ : ∃ B0, B0 = w1.heap.size := ⟨_, rfl⟩
  rw [← hB0] at hbB
  have hwB : w.heap.size ≤ B0 := by rw [hB0]; exact E.size
  refine sq_call F rfl (by decide) rfl (R_callV rfl rfl Try.call46 (mpS (F.at rfl) mp0)) (tapesOf_any w _ b _ _ HL (by omega)) fun e w2 hR => ?_
  obtain ⟨t, gv, rv, lv, rfl, hW, ⟨og, orr, olk⟩, HL, e2⟩ := hR
  refine ⟨_, rfl, ?_⟩; clear F fa; intro fa F
  replace E := E.trans' e2 (fun i hi hl => by simp only [List.mem_cons, List.not_mem_nil, or_false] at hi ⊢; omega)
  rw [← hB0] at og orr olk
  have hB1 : B0 ≤ w2.heap.size := by rw [hB0]; exact e2.size
  clear hB0 e2
  obtain ⟨ga, gc, rfl⟩ := owns_slice og
  obtain ⟨ra, rc, rfl⟩ := owns_slice orr
  obtain ⟨la, lc, rfl⟩ := owns_slice olk
  have HT := Lib.hid (tp_of_owns og orr olk)
  clear og orr olk
  have EO : Ext [] w2 w2 := Ext.refl _ _
  have HRd := Lib.hid (slAt_of_rows HT.out.rd (0, 0, 0, 0))
  have HGr := Lib.hid (slAt_of_rows HT.out.gr (0, 0))
  have HLk := Lib.hid (slAt_of_rows HT.out.lk (0, 0, 0, 0, 0, 0))
  have hokT := hW.ok
  have hS1 := hokT.S1
  have hS3 := hokT.S3
  have hA1 := hokT.A1
  have hA3 := hokT.A3
  have hT1 := hokT.T1
  have hT3 := hokT.T3
  have hgl := hokT.grl
  have hrl := hW.rdl
  have hkl := hW.lkl
  obtain ⟨hP1, hP2⟩ := ok_prod hokT
  refine sq_new F rfl (by decide) rfl (R_alloc rfl Try.zeroValue28) ?_; clear F fa; intro fa w3 F hw
  obtain ⟨n3, hn⟩ : ∃ n, n = w2.heap.size := ⟨_, rfl⟩
  rw [← hn] at F
  have s3 : w2.heap.size ≤ n3 := Nat.le_of_eq hn.symm
  have l3_E : w.heap.size ≤ n3 := by rw [hn]; exact E.size
  have l3_EO : w2.heap.size ≤ n3 := by rw [hn]; exact EO.size
  replace E := ext_alloc E hw
  replace EO := ext_alloc EO hw
  have q3 := new_row hw hn
  clear hw hn
  refine sq_to rfl rfl (R_storeRow rfl (F.at rfl) (F.at rfl) (by kernel_rfl) (by first | (simp [Value.oneCell']; done) | (simp [Value.oneCell', grRow, rdRow, lkRow]; done)) q3 rfl) ?_; intro w4 hw
  replace q3 := put_row hw q3 rfl
  replace E := ext_cells E hw (fun h => by first | exact absurd h (by omega) | simp)
  replace EO := ext_cells EO hw (fun h => by first | exact absurd h (by omega) | simp)
  clear hw
  refine wpList_nil ?_
  have t8 : t.rd.length ≤ 8 := by omega
  refine hK2 _ _ ?_
  clear hK2
  refine wp_seq_k fun K3 hK3 => ?_
  by_cases hB : bdB t 0 = true
  · skip
    have hLv := live_of hokT t8 hB
    refine wp_region_lit ?_
    refine F.vl (R_loadBlk rfl (F.at rfl) Try.underlying28 rfl (by kernel_rfl) q3) ?_; clear F fa; intro fa F
    refine sq_call F rfl (by decide) rfl (R_callV rfl rfl Try.call65 (mpS (F.at rfl) mp0)) (least_live hLv ga ra la gc rc lc _ (HT.out.ext EO (by simp))) fun e w5 hR => ?_
    obtain ⟨L, P, ya, pa, yc, pc, rfl, h1, h2, h3, h4, h5, eX⟩ := hR
    refine ⟨_, rfl, ?_⟩; clear F fa; intro fa F
    replace q3 := (eX).keep0 q3
    replace E := ext_same E (eX)
    replace EO := ext_same EO (eX)
    have EX : Ext [] w5 w5 := Ext.refl _ _
    replace h3 := Lib.hid h3
    replace h4 := Lib.hid h4
    replace h5 := Lib.hid h5
    clear eX
    obtain ⟨hl1, hl2, hl3⟩ := end_row fstI h1
    replace hl2 := Lib.hid hl2
    replace hl3 := Lib.hid hl3
    have HP := Lib.hid (slAt_of_rows h5.out 0)
    refine F.mv ?_; clear F fa; intro fa F
    refine F.vl (R_extract rfl (F.at rfl) (get0)) ?_; clear F fa; intro fa F
    refine F.vl (R_extract rfl (F.at rfl) (getS (get0))) ?_; clear F fa; intro fa F
    refine F.vl (R_extract rfl (F.at rfl) (getS (getS (get0)))) ?_; clear F fa; intro fa F
    refine F.as ?_; clear F fa; intro fa F
    refine F.as ?_; clear F fa; intro fa F
    refine F.as ?_; clear F fa; intro fa F
    refine wpList_nil ?_
    refine hK3 _ _ ?_
    clear hK3
    refine wp_seq_k fun K4 hK4 => ?_
    refine wp_region_lit ?_
    refine F.vl (R_loadBlk rfl (F.at rfl) Try.underlying28 rfl (by kernel_rfl) q3) ?_; clear F fa; intro fa F
    refine sq_call F rfl (by decide) rfl (R_callV rfl rfl Try.call66 (mpS (F.at rfl) mp0)) (most_live hLv ga ra la gc rc lc _ (HT.out.ext EO (by simp))) fun e w6 hR => ?_
    obtain ⟨M, Q, za, qa, zc, qc, rfl, k1, k2, k3, k4, k5, eX⟩ := hR
    refine ⟨_, rfl, ?_⟩; clear F fa; intro fa F
    replace q3 := (eX).keep0 q3
    replace E := ext_same E (eX)
    replace EO := ext_same EO (eX)
    replace EX := ext_same EX (eX)
    have EY : Ext [] w6 w6 := Ext.refl _ _
    replace k3 := Lib.hid k3
    replace k4 := Lib.hid k4
    replace k5 := Lib.hid k5
    clear eX
    obtain ⟨kl1, kl2, kl3⟩ := end_row sndI k1
    replace kl2 := Lib.hid kl2
    replace kl3 := Lib.hid kl3
    have HQ := Lib.hid (slAt_of_rows k5.out 0)
    refine F.mv ?_; clear F fa; intro fa F
    refine F.vl (R_extract rfl (F.at rfl) (get0)) ?_; clear F fa; intro fa F
    refine F.vl (R_extract rfl (F.at rfl) (getS (get0))) ?_; clear F fa; intro fa F
    refine F.vl (R_extract rfl (F.at rfl) (getS (getS (get0)))) ?_; clear F fa; intro fa F
    refine F.as ?_; clear F fa; intro fa F
    refine F.as ?_; clear F fa; intro fa F
    refine F.as ?_; clear F fa; intro fa F
    refine wpList_nil ?_
    refine hK4 _ _ ?_
    clear hK4
    refine wp_seq_k fun K5 hK5 => ?_
    refine wp_region_lit ?_
    refine F.vl (R_loadBlk rfl (F.at rfl) Try.underlying28 rfl (by kernel_rfl) q3) ?_; clear F fa; intro fa F
    refine sq_call F rfl (by decide) rfl (R_callV rfl rfl Try.call29 (mpS (F.at rfl) mp0)) (can_ok hokT t8 (HT.out.ext EO (by simp))) fun e w7 hR => ?_
    obtain ⟨rfl, e9⟩ := hR
    refine ⟨_, rfl, ?_⟩; clear F fa; intro fa F
    replace q3 := (e9).keep0 q3
    replace E := ext_same E (e9)
    replace EO := ext_same EO (e9)
    replace EX := ext_same EX (e9)
    replace EY := ext_same EY (e9)
    clear e9
    rw [hB] at F
    refine F.mv ?_; clear F fa; intro fa F
    refine F.vl (R_extract rfl (F.at rfl) (get0)) ?_; clear F fa; intro fa F
    refine F.vl (R_extract rfl (F.at rfl) (getS (get0))) ?_; clear F fa; intro fa F
    refine F.as ?_; clear F fa; intro fa F
    refine F.as ?_; clear F fa; intro fa F
    refine wpList_nil ?_
    refine hK5 _ _ ?_
    clear hK5
    refine wp_seq_k fun K6 hK6 => ?_
    refine wp_seq_k fun K7 hK7 => ?_
    refine wp_region_lit ?_
    refine F.mv ?_; clear F fa; intro fa F
    refine F.vl (R_neqB (b := false) rfl (F.at rfl) (ev_c fa _) (by decide)) ?_; clear F fa; intro fa F
    refine F.mv ?_; clear F fa; intro fa F
    refine F.mv ?_ (hw := (wantT F rfl rfl (by decide) rfl)); clear F fa; intro fa F
    refine F.mv ?_ (hw := (wantT F rfl rfl (by decide) rfl)); clear F fa; intro fa F
    refine F.vl (R_neqB (b := false) rfl (F.at rfl) (F.at rfl) (by decide)) ?_ (hw := (wantT F rfl rfl (by decide) rfl)); clear F fa; intro fa F
    refine F.vl (R_pickF rfl (F.at rfl) (F.at rfl)) ?_; clear F fa; intro fa F
    refine wpList_nil ?_
    refine hK7 _ _ ?_
    clear hK7
    refine cd_F F rfl ?_
    refine wp_skip ?_
    refine hK6 _ _ ?_
    clear hK6
    refine wp_seq_k fun K8 hK8 => ?_
    refine wp_seq_k fun K9 hK9 => ?_
    refine wp_region_lit ?_
    refine F.mv ?_; clear F fa; intro fa F
    refine F.vl (R_not rfl (F.at rfl)) ?_; clear F fa; intro fa F
    refine wpList_nil ?_
    refine hK9 _ _ ?_
    clear hK9
    refine cd_F F rfl ?_
    refine wp_skip ?_
    refine hK8 _ _ ?_
    clear hK8
    refine wp_seq_k fun K10 hK10 => ?_
    refine wp_seq_k fun K11 hK11 => ?_
    refine wp_region_lit ?_
    refine F.mv ?_; clear F fa; intro fa F
    refine F.vl (R_neqB (b := false) rfl (F.at rfl) (ev_c fa _) (by decide)) ?_; clear F fa; intro fa F
    refine F.mv ?_; clear F fa; intro fa F
    refine F.vl (R_loadBlk rfl (F.at rfl) Try.underlying28 rfl (by kernel_rfl) q3) ?_ (hw := (wantT F rfl rfl (by decide) rfl)); clear F fa; intro fa F
    refine F.mv ?_ (hw := (wantT F rfl rfl (by decide) rfl)); clear F fa; intro fa F
    refine F.mv ?_ (hw := (wantT F rfl rfl (by decide) rfl)); clear F fa; intro fa F
    refine sq_call F rfl (by decide) (wantT F rfl rfl (by decide) rfl) (R_callV rfl rfl Try.call67 (mpS (F.at rfl) (mpS (F.at rfl) (mpS (F.at rfl) mp0)))) (right_end hLv fstI sndI (fun a b => .inl rfl) (les_tr hLv).1 (les_tr hLv).2 (fun s a _ _ => rfl) (fun i => (Int.neg_neg _).symm) h1 h2 ga ra la ya pa gc rc lc yc pc _ (HT.out.ext EO (by simp)) (slAt_ext h3.out EX) (fun p hp => (h4.out p hp).ext EX) (h5.out.ext EX (by simp))) fun e w8 hR => ?_
    obtain ⟨rfl, e9⟩ := hR
    refine ⟨_, rfl, ?_⟩; clear F fa; intro fa F
    replace q3 := (e9).keep0 q3
    replace E := ext_same E (e9)
    replace EO := ext_same EO (e9)
    replace EX := ext_same EX (e9)
    replace EY := ext_same EY (e9)
    clear e9
    refine F.vl (R_not rfl (F.at rfl)) ?_ (hw := (wantT F rfl rfl (by decide) rfl)); clear F fa; intro fa F
    refine F.vl (R_pickF rfl (F.at rfl) (F.at rfl)) ?_; clear F fa; intro fa F
    refine F.mv ?_; clear F fa; intro fa F
    refine F.vl (R_loadBlk rfl (F.at rfl) Try.underlying28 rfl (by kernel_rfl) q3) ?_ (hw := (wantT F rfl rfl (by decide) rfl)); clear F fa; intro fa F
    refine F.mv ?_ (hw := (wantT F rfl rfl (by decide) rfl)); clear F fa; intro fa F
    refine F.mv ?_ (hw := (wantT F rfl rfl (by decide) rfl)); clear F fa; intro fa F
    refine sq_call F rfl (by decide) (wantT F rfl rfl (by decide) rfl) (R_callV rfl rfl Try.call67 (mpS (F.at rfl) (mpS (F.at rfl) (mpS (F.at rfl) mp0)))) (right_end hLv sndI fstI (fun a b => .inr rfl) (mos_tr hLv).1 (mos_tr hLv).2 (fun s a _ _ => rfl) (fun i => rfl) k1 k2 ga ra la za qa gc rc lc zc qc _ (HT.out.ext EO (by simp)) (slAt_ext k3.out EY) (fun p hp => (k4.out p hp).ext EY) (k5.out.ext EY (by simp))) fun e w9 hR => ?_
    obtain ⟨rfl, e9⟩ := hR
    refine ⟨_, rfl, ?_⟩; clear F fa; intro fa F
    replace q3 := (e9).keep0 q3
    replace E := ext_same E (e9)
    replace EO := ext_same EO (e9)
    replace EX := ext_same EX (e9)
    replace EY := ext_same EY (e9)
    clear e9
    refine F.vl (R_not rfl (F.at rfl)) ?_ (hw := (wantT F rfl rfl (by decide) rfl)); clear F fa; intro fa F
    refine F.vl (R_pickF rfl (F.at rfl) (F.at rfl)) ?_; clear F fa; intro fa F
    refine wpList_nil ?_
    refine hK11 _ _ ?_
    clear hK11
    refine cd_F F rfl ?_
    refine wp_skip ?_
    refine hK10 _ _ ?_
    clear hK10
    refine wp_seq_k fun K12 hK12 => ?_
    refine wp_seq_k fun K13 hK13 => ?_
    refine wp_region_lit ?_
    refine F.vl (R_assign rfl (ev_c fa _)) ?_; clear F fa; intro fa F
    refine wpList_nil ?_
    refine hK13 _ _ ?_
    clear hK13
    refine wp_block ?_
    have F0 := F.sub (.c 3 rfl (.c 4 rfl (.c 5 rfl (.c 7 rfl (.c 8 rfl .n)))))
    refine lp_for F0 (t.S.toNat) (fun i Lv W => Lv = [(12, .int .i64 ((i : Nat) : Int))] ∧ Ext [] w9 W) ⟨_, ⟨rfl, Ext.refl _ _⟩, F.sub (.c 12 rfl (.c 3 rfl (.c 4 rfl (.c 5 rfl (.c 7 rfl (.c 8 rfl .n))))))⟩ ?_
    clear F F0
    rintro i _ fa w10 hi1 ⟨rfl, EL1⟩ F
    have q3 := EL1.keep0 q3
    have E := E.nil EL1
    have EO := EO.nil EL1
    have EX := EX.nil EL1
    have EY := EY.nil EL1
    refine wp_seq_k fun K14 hK14 => ?_
    refine wp_seq_k fun K15 hK15 => ?_
    refine wp_region_lit ?_
    refine F.mv ?_; clear F fa; intro fa F
    refine F.vl (R_field rfl (F.at rfl) Try.underlying28 rfl (n := 0) (sz := 1) rfl (by kernel_rfl) (by decide)) ?_; clear F fa; intro fa F
    refine F.vl (R_load rfl (F.at rfl) Try.underlying3 rfl ((cells_of_block q3 0).trans (get0))) ?_; clear F fa; intro fa F
    refine F.vl (R_lss rfl (F.at rfl) (F.at rfl)) ?_; clear F fa; intro fa F
    refine wpList_nil ?_
    refine hK15 _ _ ?_
    clear hK15
    refine cd_if F rfl (fun hc86 => ?_) (fun hc86 => ?_)
    · skip
      refine wp_skip ?_
      refine hK14 _ _ ?_
      clear hK14
      refine wp_seq_k fun K16 hK16 => ?_
      refine wp_block ?_
      refine wp_seq_k fun K17 hK17 => ?_
      refine wp_region_lit ?_
      refine F.vl (R_assign rfl (ev_c fa _)) ?_; clear F fa; intro fa F
      refine wpList_nil ?_
      refine hK17 _ _ ?_
      clear hK17
      refine wp_block ?_
      have F0 := F.sub (.c 3 rfl (.c 4 rfl (.c 5 rfl (.c 7 rfl (.c 8 rfl (.c 12 rfl .n))))))
      refine lp_for F0 (t.A.toNat) (fun j Lv W => Lv = [(13, .int .i64 ((j : Nat) : Int))] ∧ Ext [] w10 W) ⟨_, ⟨rfl, Ext.refl _ _⟩, F.sub (.c 13 rfl (.c 3 rfl (.c 4 rfl (.c 5 rfl (.c 7 rfl (.c 8 rfl (.c 12 rfl .n)))))))⟩ ?_
      clear F F0
      rintro j _ fa w11 hi2 ⟨rfl, EL2⟩ F
      have q3 := EL2.keep0 q3
      have E := E.nil EL2
      have EO := EO.nil EL2
      have EX := EX.nil EL2
      have EY := EY.nil EL2
      have EL1 := EL1.nil EL2
      refine wp_seq_k fun K18 hK18 => ?_
      refine wp_seq_k fun K19 hK19 => ?_
      refine wp_region_lit ?_
      refine F.mv ?_; clear F fa; intro fa F
      refine F.vl (R_field rfl (F.at rfl) Try.underlying28 rfl (n := 1) (sz := 1) rfl (by kernel_rfl) (by decide)) ?_; clear F fa; intro fa F
      refine F.vl (R_load rfl (F.at rfl) Try.underlying3 rfl ((cells_of_block q3 1).trans (getS (get0)))) ?_; clear F fa; intro fa F
      refine F.vl (R_lss rfl (F.at rfl) (F.at rfl)) ?_; clear F fa; intro fa F
      refine wpList_nil ?_
      refine hK19 _ _ ?_
      clear hK19
      refine cd_if F rfl (fun hc92 => ?_) (fun hc92 => ?_)
      · skip
        refine wp_skip ?_
        refine hK18 _ _ ?_
        clear hK18
        refine wp_seq_k fun K20 hK20 => ?_
        refine wp_block ?_
        refine wp_seq_k fun K21 hK21 => ?_
        have y1 : (i : Int) < t.S := by omega
        have y2 : (j : Int) < t.A := by omega
        refine wp_region_lit ?_
        refine F.vl (R_loadBlk rfl (F.at rfl) Try.underlying28 rfl (by kernel_rfl) q3) ?_; clear F fa; intro fa F
        refine F.mv ?_; clear F fa; intro fa F
        refine F.mv ?_; clear F fa; intro fa F
        refine sq_call F rfl (by decide) rfl (R_callV rfl rfl Try.call33 (mpS (F.at rfl) (mpS (F.at rfl) (mpS (F.at rfl) mp0)))) (meas_live hLv (HT.out.ext EO (by simp)) (by omega) y1 (by omega) y2) fun e w12 hR => ?_
        obtain ⟨rfl, e9⟩ := hR
        refine ⟨_, rfl, ?_⟩; clear F fa; intro fa F
        replace q3 := (e9).keep0 q3
        replace E := ext_same E (e9)
        replace EO := ext_same EO (e9)
        replace EX := ext_same EX (e9)
        replace EY := ext_same EY (e9)
        replace EL1 := ext_same EL1 (e9)
        replace EL2 := ext_same EL2 (e9)
        clear e9
        refine F.mv ?_; clear F fa; intro fa F
        refine F.vl (R_extract rfl (F.at rfl) (get0)) ?_; clear F fa; intro fa F
        refine F.vl (R_extract rfl (F.at rfl) (getS (get0))) ?_; clear F fa; intro fa F
        refine sq_new F rfl (by decide) rfl (R_alloc rfl Try.zeroValue23) ?_; clear F fa; intro fa w13 F hw
        obtain ⟨n14, hn⟩ : ∃ n, n = w12.heap.size := ⟨_, rfl⟩
        rw [← hn] at F
        have s14 : w12.heap.size ≤ n14 := Nat.le_of_eq hn.symm
        have l14_E : w.heap.size ≤ n14 := by rw [hn]; exact E.size
        have l14_EO : w2.heap.size ≤ n14 := by rw [hn]; exact EO.size
        have l14_EX : w5.heap.size ≤ n14 := by rw [hn]; exact EX.size
        have l14_EY : w6.heap.size ≤ n14 := by rw [hn]; exact EY.size
        have l14_EL1 : w9.heap.size ≤ n14 := by rw [hn]; exact EL1.size
        have l14_EL2 : w10.heap.size ≤ n14 := by rw [hn]; exact EL2.size
        have m14_3 : n3 < n14 := by rw [hn]; exact blk_lt q3
        replace q3 := keep_alloc hw q3
        replace E := ext_alloc E hw
        replace EO := ext_alloc EO hw
        replace EX := ext_alloc EX hw
        replace EY := ext_alloc EY hw
        replace EL1 := ext_alloc EL1 hw
        replace EL2 := ext_alloc EL2 hw
        have q14 := new_row hw hn
        clear hw hn
        refine sq_to rfl rfl (R_storeRow rfl (F.at rfl) (F.at rfl) (by kernel_rfl) (by first | (simp [Value.oneCell']; done) | (simp [Value.oneCell', grRow, rdRow, lkRow]; done)) q14 rfl) ?_; intro w14 hw
        replace q3 := keep_cells hw q3 (by omega)
        replace q14 := put_row hw q14 rfl
        replace E := ext_cells E hw (fun h => by first | exact absurd h (by omega) | simp)
        replace EO := ext_cells EO hw (fun h => by first | exact absurd h (by omega) | simp)
        replace EX := ext_cells EX hw (fun h => by first | exact absurd h (by omega) | simp)
        replace EY := ext_cells EY hw (fun h => by first | exact absurd h (by omega) | simp)
        replace EL1 := ext_cells EL1 hw (fun h => by first | exact absurd h (by omega) | simp)
        replace EL2 := ext_cells EL2 hw (fun h => by first | exact absurd h (by omega) | simp)
        clear hw
        refine F.as ?_; clear F fa; intro fa F
        refine wpList_nil ?_
        refine hK21 _ _ ?_
        clear hK21
        refine wp_seq_k fun K22 hK22 => ?_
        have hmm : L.getD i (.bool true, []) ∈ L := getD_mem _ (by omega)
        have hnn : M.getD i (.bool true, []) ∈ M := getD_mem _ (by omega)
        obtain ⟨ua, uc, hu1, hu2⟩ := h4.out _ hmm
        obtain ⟨va, vc, hv1, hv2⟩ := k4.out _ hnn
        have HU := Lib.hid (slAt_of_rows hu2 0)
        have HV := Lib.hid (slAt_of_rows hv2 0)
        have hul := hl2.out _ hmm
        have hvl := kl2.out _ hnn
        have hug := hl3.out i j y1 y2
        have hvg := kl3.out i j y1 y2
        refine wp_region_st 20 follows (by kernel_rfl) fun w15 hh eh => ?_
        replace q3 := keep_same hh q3
        replace q14 := keep_same hh q14
        replace E := ext_same E eh
        replace EO := ext_same EO eh
        replace EX := ext_same EX eh
        replace EY := ext_same EY eh
        replace EL1 := ext_same EL1 eh
        replace EL2 := ext_same EL2 eh
        clear hh eh
        refine F.smv ?_; clear F fa; intro fa F
        refine F.sv (R_neqB (b := false) rfl (F.at rfl) (ev_c fa _) (by decide)) ?_; clear F fa; intro fa F
        refine F.smv ?_; clear F fa; intro fa F
        refine F.sv (R_loadBlk rfl (F.at rfl) Try.underlying23 rfl (by kernel_rfl) q14) ?_ (hw := (wantT F rfl rfl (by decide) rfl)); clear F fa; intro fa F
        refine F.smv ?_ (hw := (wantT F rfl rfl (by decide) rfl)); clear F fa; intro fa F
        refine F.smv ?_ (hw := (wantT F rfl rfl (by decide) rfl)); clear F fa; intro fa F
        obtain ⟨xb23, xo23, xa23, xr23⟩ := h3.out i (by omega)
        refine F.sv (R_ixSlice (sz := 1) rfl ((F.at rfl).trans (xa23 _ _)) (F.at rfl) Try.underlying50 (by kernel_rfl) (by omega) (by omega)) ?_ (hw := (wantT F rfl rfl (by decide) rfl)); clear F fa; intro fa F
        refine F.sv (R_load rfl (F.at rfl) Try.underlying29 rfl (xr23 _ EX 0 _ rfl)) ?_ (hw := (wantT F rfl rfl (by decide) rfl)); clear F fa; intro fa F
        rw [hu1] at F
        refine F.smv ?_ (hw := (wantT F rfl rfl (by decide) rfl)); clear F fa; intro fa F
        obtain ⟨xb24, xo24, xa24, xr24⟩ := HU.out j (by omega)
        refine F.sv (R_ixSlice (sz := 1) rfl ((F.at rfl).trans (xa24 _ _)) (F.at rfl) Try.underlying29 (by kernel_rfl) (by omega) (by omega)) ?_ (hw := (wantT F rfl rfl (by decide) rfl)); clear F fa; intro fa F
        refine F.sv (R_load rfl (F.at rfl) Try.underlying3 rfl (xr24 _ EX 0 _ rfl)) ?_ (hw := (wantT F rfl rfl (by decide) rfl)); clear F fa; intro fa F
        refine F.smv ?_ (hw := (wantT F rfl rfl (by decide) rfl)); clear F fa; intro fa F
        refine F.smv ?_ (hw := (wantT F rfl rfl (by decide) rfl)); clear F fa; intro fa F
        obtain ⟨xb25, xo25, xa25, xr25⟩ := k3.out i (by omega)
        refine F.sv (R_ixSlice (sz := 1) rfl ((F.at rfl).trans (xa25 _ _)) (F.at rfl) Try.underlying50 (by kernel_rfl) (by omega) (by omega)) ?_ (hw := (wantT F rfl rfl (by decide) rfl)); clear F fa; intro fa F
        refine F.sv (R_load rfl (F.at rfl) Try.underlying29 rfl (xr25 _ EY 0 _ rfl)) ?_ (hw := (wantT F rfl rfl (by decide) rfl)); clear F fa; intro fa F
        rw [hv1] at F
        refine F.smv ?_ (hw := (wantT F rfl rfl (by decide) rfl)); clear F fa; intro fa F
        obtain ⟨xb26, xo26, xa26, xr26⟩ := HV.out j (by omega)
        refine F.sv (R_ixSlice (sz := 1) rfl ((F.at rfl).trans (xa26 _ _)) (F.at rfl) Try.underlying29 (by kernel_rfl) (by omega) (by omega)) ?_ (hw := (wantT F rfl rfl (by decide) rfl)); clear F fa; intro fa F
        refine F.sv (R_load rfl (F.at rfl) Try.underlying3 rfl (xr26 _ EY 0 _ rfl)) ?_ (hw := (wantT F rfl rfl (by decide) rfl)); clear F fa; intro fa F
        refine F.sv (R_buildV rfl (prS (F.at rfl) (prS (F.at rfl) pr0)) (cells := #[.int .i64 ((L.getD i (.bool true, [])).2.getD j 0), .int .i64 ((M.getD i (.bool true, [])).2.getD j 0)]) (by kernel_rfl)) ?_ (hw := (wantT F rfl rfl (by decide) rfl)); clear F fa; intro fa F
        refine F.sv (R_neqBt (r := false) rfl (F.at rfl) (F.at rfl) (decide_eq_true (⟨hug.symm, hvg.symm⟩))) ?_ (hw := (wantT F rfl rfl (by decide) rfl)); clear F fa; intro fa F
        refine wpStill_nil ?_
        refine F.vl (R_pickF rfl (F.at rfl) (F.at rfl)) ?_; clear F fa; intro fa F
        refine wpList_nil ?_
        refine hK22 _ _ ?_
        clear hK22
        refine cd_F F rfl ?_
        refine wp_skip ?_
        refine hK20 _ _ ?_
        clear hK20
        refine wp_region_lit ?_
        refine F.mv ?_; clear F fa; intro fa F
        refine F.vl (R_add rfl (F.at rfl) (ev_c fa _) (by omega) (by omega)) ?_; clear F fa; intro fa F
        refine F.as ?_; clear F fa; intro fa F
        refine wpList_nil ?_
        show _ ∧ _
        exact ⟨by omega, _, ⟨rfl, EL2⟩, F.sub (.c 13 rfl (.c 3 rfl (.c 4 rfl (.c 5 rfl (.c 7 rfl (.c 8 rfl (.c 12 rfl .n)))))))⟩
      · skip
        refine wp_exit ?_
        refine hK16 _ _ ?_
        clear hK16
        refine wp_region_lit ?_
        refine F.mv ?_; clear F fa; intro fa F
        refine F.vl (R_add rfl (F.at rfl) (ev_c fa _) (by omega) (by omega)) ?_; clear F fa; intro fa F
        refine F.as ?_; clear F fa; intro fa F
        refine wpList_nil ?_
        show _ ∧ _
        exact ⟨by omega, _, ⟨rfl, EL1⟩, F.sub (.c 12 rfl (.c 3 rfl (.c 4 rfl (.c 5 rfl (.c 7 rfl (.c 8 rfl .n))))))⟩
    · skip
      refine wp_exit ?_
      refine hK12 _ _ ?_
      clear hK12
      refine wp_seq_k fun K27 hK27 => ?_
      refine wp_seq_k fun K28 hK28 => ?_
      refine wp_region_lit ?_
      refine F.vl (R_assign rfl (ev_c fa _)) ?_; clear F fa; intro fa F
      refine wpList_nil ?_
      refine hK28 _ _ ?_
      clear hK28
      refine wp_block ?_
      have F0 := F.sub (.c 3 rfl (.c 5 rfl (.c 8 rfl .n)))
      refine lp_for F0 (t.T.toNat) (fun i Lv W => Lv = [(16, .int .i64 ((i : Nat) : Int))] ∧ Ext [] w10 W) ⟨_, ⟨rfl, Ext.refl _ _⟩, F.sub (.c 16 rfl (.c 3 rfl (.c 5 rfl (.c 8 rfl .n))))⟩ ?_
      clear F F0
      rintro i _ fa w16 hi3 ⟨rfl, EL3⟩ F
      have q3 := EL3.keep0 q3
      have E := E.nil EL3
      have EO := EO.nil EL3
      have EX := EX.nil EL3
      have EY := EY.nil EL3
      refine wp_seq_k fun K29 hK29 => ?_
      refine wp_seq_k fun K30 hK30 => ?_
      refine wp_region_lit ?_
      refine F.mv ?_; clear F fa; intro fa F
      refine F.vl (R_field rfl (F.at rfl) Try.underlying28 rfl (n := 2) (sz := 1) rfl (by kernel_rfl) (by decide)) ?_; clear F fa; intro fa F
      refine F.vl (R_load rfl (F.at rfl) Try.underlying3 rfl ((cells_of_block q3 2).trans (getS (getS (get0))))) ?_; clear F fa; intro fa F
      refine F.vl (R_lss rfl (F.at rfl) (F.at rfl)) ?_; clear F fa; intro fa F
      refine wpList_nil ?_
      refine hK30 _ _ ?_
      clear hK30
      refine cd_if F rfl (fun hc126 => ?_) (fun hc126 => ?_)
      · skip
        refine wp_skip ?_
        refine hK29 _ _ ?_
        clear hK29
        refine wp_seq_k fun K31 hK31 => ?_
        refine wp_block ?_
        refine wp_seq_k fun K32 hK32 => ?_
        have y1 : (i : Int) < t.T := by omega
        refine wp_region_lit ?_
        refine F.vl (R_loadBlk rfl (F.at rfl) Try.underlying28 rfl (by kernel_rfl) q3) ?_; clear F fa; intro fa F
        refine F.mv ?_; clear F fa; intro fa F
        refine sq_call F rfl (by decide) rfl (R_callV rfl rfl Try.call35 (mpS (F.at rfl) (mpS (F.at rfl) mp0))) (pull_live hLv (HT.out.ext EO (by simp)) (by omega) y1) fun e w17 hR => ?_
        obtain ⟨rfl, e9⟩ := hR
        refine ⟨_, rfl, ?_⟩; clear F fa; intro fa F
        replace q3 := (e9).keep0 q3
        replace E := ext_same E (e9)
        replace EO := ext_same EO (e9)
        replace EX := ext_same EX (e9)
        replace EY := ext_same EY (e9)
        replace EL3 := ext_same EL3 (e9)
        clear e9
        refine F.mv ?_; clear F fa; intro fa F
        refine F.vl (R_extract rfl (F.at rfl) (get0)) ?_; clear F fa; intro fa F
        refine F.vl (R_extract rfl (F.at rfl) (getS (get0))) ?_; clear F fa; intro fa F
        refine sq_new F rfl (by decide) rfl (R_alloc rfl Try.zeroValue23) ?_; clear F fa; intro fa w18 F hw
        obtain ⟨n17, hn⟩ : ∃ n, n = w17.heap.size := ⟨_, rfl⟩
        rw [← hn] at F
        have s17 : w17.heap.size ≤ n17 := Nat.le_of_eq hn.symm
        have l17_E : w.heap.size ≤ n17 := by rw [hn]; exact E.size
        have l17_EO : w2.heap.size ≤ n17 := by rw [hn]; exact EO.size
        have l17_EX : w5.heap.size ≤ n17 := by rw [hn]; exact EX.size
        have l17_EY : w6.heap.size ≤ n17 := by rw [hn]; exact EY.size
        have l17_EL3 : w10.heap.size ≤ n17 := by rw [hn]; exact EL3.size
        have m17_3 : n3 < n17 := by rw [hn]; exact blk_lt q3
        replace q3 := keep_alloc hw q3
        replace E := ext_alloc E hw
        replace EO := ext_alloc EO hw
        replace EX := ext_alloc EX hw
        replace EY := ext_alloc EY hw
        replace EL3 := ext_alloc EL3 hw
        have q17 := new_row hw hn
        clear hw hn
        refine sq_to rfl rfl (R_storeRow rfl (F.at rfl) (F.at rfl) (by kernel_rfl) (by first | (simp [Value.oneCell']; done) | (simp [Value.oneCell', grRow, rdRow, lkRow]; done)) q17 rfl) ?_; intro w19 hw
        replace q3 := keep_cells hw q3 (by omega)
        replace q17 := put_row hw q17 rfl
        replace E := ext_cells E hw (fun h => by first | exact absurd h (by omega) | simp)
        replace EO := ext_cells EO hw (fun h => by first | exact absurd h (by omega) | simp)
        replace EX := ext_cells EX hw (fun h => by first | exact absurd h (by omega) | simp)
        replace EY := ext_cells EY hw (fun h => by first | exact absurd h (by omega) | simp)
        replace EL3 := ext_cells EL3 hw (fun h => by first | exact absurd h (by omega) | simp)
        clear hw
        refine F.as ?_; clear F fa; intro fa F
        refine wpList_nil ?_
        refine hK32 _ _ ?_
        clear hK32
        refine wp_seq_k fun K33 hK33 => ?_
        have hPl : P.length = t.T.toNat := by rw [h2, pullL, List.length_map, List.length_range]
        have hQl : Q.length = t.T.toNat := by rw [k2, pullL, List.length_map, List.length_range]
        have hpg : P.getD i 0 = phi t i := by rw [h2]; exact pull_get sndI y1
        have hqg : Q.getD i 0 = plo t i := by rw [k2]; exact pull_get fstI y1
        refine wp_region_st 14 follows (by kernel_rfl) fun w20 hh eh => ?_
        replace q3 := keep_same hh q3
        replace q17 := keep_same hh q17
        replace E := ext_same E eh
        replace EO := ext_same EO eh
        replace EX := ext_same EX eh
        replace EY := ext_same EY eh
        replace EL3 := ext_same EL3 eh
        clear hh eh
        refine F.smv ?_; clear F fa; intro fa F
        refine F.sv (R_neqB (b := false) rfl (F.at rfl) (ev_c fa _) (by decide)) ?_; clear F fa; intro fa F
        refine F.smv ?_; clear F fa; intro fa F
        refine F.sv (R_loadBlk rfl (F.at rfl) Try.underlying23 rfl (by kernel_rfl) q17) ?_ (hw := (wantT F rfl rfl (by decide) rfl)); clear F fa; intro fa F
        refine F.smv ?_ (hw := (wantT F rfl rfl (by decide) rfl)); clear F fa; intro fa F
        refine F.smv ?_ (hw := (wantT F rfl rfl (by decide) rfl)); clear F fa; intro fa F
        obtain ⟨xb34, xo34, xa34, xr34⟩ := HQ.out i (by omega)
        refine F.sv (R_ixSlice (sz := 1) rfl ((F.at rfl).trans (xa34 _ _)) (F.at rfl) Try.underlying29 (by kernel_rfl) (by omega) (by omega)) ?_ (hw := (wantT F rfl rfl (by decide) rfl)); clear F fa; intro fa F
        refine F.sv (R_load rfl (F.at rfl) Try.underlying3 rfl (xr34 _ EY 0 _ rfl)) ?_ (hw := (wantT F rfl rfl (by decide) rfl)); clear F fa; intro fa F
        refine F.smv ?_ (hw := (wantT F rfl rfl (by decide) rfl)); clear F fa; intro fa F
        refine F.smv ?_ (hw := (wantT F rfl rfl (by decide) rfl)); clear F fa; intro fa F
        obtain ⟨xb35, xo35, xa35, xr35⟩ := HP.out i (by omega)
        refine F.sv (R_ixSlice (sz := 1) rfl ((F.at rfl).trans (xa35 _ _)) (F.at rfl) Try.underlying29 (by kernel_rfl) (by omega) (by omega)) ?_ (hw := (wantT F rfl rfl (by decide) rfl)); clear F fa; intro fa F
        refine F.sv (R_load rfl (F.at rfl) Try.underlying3 rfl (xr35 _ EX 0 _ rfl)) ?_ (hw := (wantT F rfl rfl (by decide) rfl)); clear F fa; intro fa F
        refine F.sv (R_buildV rfl (prS (F.at rfl) (prS (F.at rfl) pr0)) (cells := #[.int .i64 (Q.getD i 0), .int .i64 (P.getD i 0)]) (by kernel_rfl)) ?_ (hw := (wantT F rfl rfl (by decide) rfl)); clear F fa; intro fa F
        refine F.sv (R_neqBt (r := false) rfl (F.at rfl) (F.at rfl) (decide_eq_true (⟨hqg.symm, hpg.symm⟩))) ?_ (hw := (wantT F rfl rfl (by decide) rfl)); clear F fa; intro fa F
        refine wpStill_nil ?_
        refine F.vl (R_pickF rfl (F.at rfl) (F.at rfl)) ?_; clear F fa; intro fa F
        refine wpList_nil ?_
        refine hK33 _ _ ?_
        clear hK33
        refine cd_F F rfl ?_
        refine wp_skip ?_
        refine hK31 _ _ ?_
        clear hK31
        refine wp_region_lit ?_
        refine F.mv ?_; clear F fa; intro fa F
        refine F.vl (R_add rfl (F.at rfl) (ev_c fa _) (by omega) (by omega)) ?_; clear F fa; intro fa F
        refine F.as ?_; clear F fa; intro fa F
        refine wpList_nil ?_
        show _ ∧ _
        exact ⟨by omega, _, ⟨rfl, EL3⟩, F.sub (.c 16 rfl (.c 3 rfl (.c 5 rfl (.c 8 rfl .n))))⟩
      · skip
        refine wp_exit ?_
        refine hK27 _ _ ?_
        clear hK27
        refine wp_seq_k fun K36 hK36 => ?_
        refine wp_region_lit ?_
        refine sq_call F rfl (by decide) rfl (R_callV rfl rfl Try.call25 mp0) (taken_any _) fun e w21 hR => ?_
        obtain ⟨rfl, e9⟩ := hR
        refine ⟨_, rfl, ?_⟩; clear F fa; intro fa F
        replace q3 := (e9).keep0 q3
        replace E := ext_same E (e9)
        replace EO := ext_same EO (e9)
        replace EX := ext_same EX (e9)
        replace EY := ext_same EY (e9)
        clear e9
        refine F.as ?_; clear F fa; intro fa F
        refine wpList_nil ?_
        refine hK36 _ _ ?_
        clear hK36
        refine wp_ret ?_
        (try simp only [Exit.inBlock, Exit.then])
        refine rt_v F (rs_1 F rfl rfl) ?_
        exact ⟨rfl, E⟩
  · skip
    have hNo : bdB t 0 = false := by simpa using hB
    refine wp_region_lit ?_
    refine F.vl (R_loadBlk rfl (F.at rfl) Try.underlying28 rfl (by kernel_rfl) q3) ?_; clear F fa; intro fa F
    refine sq_call F rfl (by decide) rfl (R_callV rfl rfl Try.call65 (mpS (F.at rfl) mp0)) (least_no hokT t8 hNo ga ra la gc rc lc _ (HT.out.ext EO (by simp))) fun e w22 hR => ?_
    obtain ⟨rfl, e9⟩ := hR
    refine ⟨_, rfl, ?_⟩; clear F fa; intro fa F
    replace q3 := (e9).keep0 q3
    replace E := ext_same E (e9)
    replace EO := ext_same EO (e9)
    clear e9
    refine F.mv ?_; clear F fa; intro fa F
    refine F.vl (R_extract rfl (F.at rfl) (get0)) ?_; clear F fa; intro fa F
    refine F.vl (R_extract rfl (F.at rfl) (getS (get0))) ?_; clear F fa; intro fa F
    refine F.vl (R_extract rfl (F.at rfl) (getS (getS (get0)))) ?_; clear F fa; intro fa F
    refine F.as ?_; clear F fa; intro fa F
    refine F.as ?_; clear F fa; intro fa F
    refine F.as ?_; clear F fa; intro fa F
    refine wpList_nil ?_
    refine hK3 _ _ ?_
    clear hK3
    refine wp_seq_k fun K37 hK37 => ?_
    refine wp_region_lit ?_
    refine F.vl (R_loadBlk rfl (F.at rfl) Try.underlying28 rfl (by kernel_rfl) q3) ?_; clear F fa; intro fa F
    refine sq_call F rfl (by decide) rfl (R_callV rfl rfl Try.call66 (mpS (F.at rfl) mp0)) (most_no hokT t8 hNo ga ra la gc rc lc _ (HT.out.ext EO (by simp))) fun e w23 hR => ?_
    obtain ⟨rfl, e9⟩ := hR
    refine ⟨_, rfl, ?_⟩; clear F fa; intro fa F
    replace q3 := (e9).keep0 q3
    replace E := ext_same E (e9)
    replace EO := ext_same EO (e9)
    clear e9
    refine F.mv ?_; clear F fa; intro fa F
    refine F.vl (R_extract rfl (F.at rfl) (get0)) ?_; clear F fa; intro fa F
    refine F.vl (R_extract rfl (F.at rfl) (getS (get0))) ?_; clear F fa; intro fa F
    refine F.vl (R_extract rfl (F.at rfl) (getS (getS (get0)))) ?_; clear F fa; intro fa F
    refine F.as ?_; clear F fa; intro fa F
    refine F.as ?_; clear F fa; intro fa F
    refine F.as ?_; clear F fa; intro fa F
    refine wpList_nil ?_
    refine hK37 _ _ ?_
    clear hK37
    refine wp_seq_k fun K38 hK38 => ?_
    refine wp_region_lit ?_
    refine F.vl (R_loadBlk rfl (F.at rfl) Try.underlying28 rfl (by kernel_rfl) q3) ?_; clear F fa; intro fa F
    refine sq_call F rfl (by decide) rfl (R_callV rfl rfl Try.call29 (mpS (F.at rfl) mp0)) (can_ok hokT t8 (HT.out.ext EO (by simp))) fun e w24 hR => ?_
    obtain ⟨rfl, e9⟩ := hR
    refine ⟨_, rfl, ?_⟩; clear F fa; intro fa F
    replace q3 := (e9).keep0 q3
    replace E := ext_same E (e9)
    replace EO := ext_same EO (e9)
    clear e9
    rw [hNo] at F
    refine F.mv ?_; clear F fa; intro fa F
    refine F.vl (R_extract rfl (F.at rfl) (get0)) ?_; clear F fa; intro fa F
    refine F.vl (R_extract rfl (F.at rfl) (getS (get0))) ?_; clear F fa; intro fa F
    refine F.as ?_; clear F fa; intro fa F
    refine F.as ?_; clear F fa; intro fa F
    refine wpList_nil ?_
    refine hK38 _ _ ?_
    clear hK38
    refine wp_seq_k fun K39 hK39 => ?_
    refine wp_seq_k fun K40 hK40 => ?_
    refine wp_region_lit ?_
    refine F.mv ?_; clear F fa; intro fa F
    refine F.vl (R_neqB (b := false) rfl (F.at rfl) (ev_c fa _) (by decide)) ?_; clear F fa; intro fa F
    refine F.mv ?_; clear F fa; intro fa F
    refine F.mv ?_ (hw := (wantT F rfl rfl (by decide) rfl)); clear F fa; intro fa F
    refine F.mv ?_ (hw := (wantT F rfl rfl (by decide) rfl)); clear F fa; intro fa F
    refine F.vl (R_neqB (b := false) rfl (F.at rfl) (F.at rfl) (by decide)) ?_ (hw := (wantT F rfl rfl (by decide) rfl)); clear F fa; intro fa F
    refine F.vl (R_pickF rfl (F.at rfl) (F.at rfl)) ?_; clear F fa; intro fa F
    refine wpList_nil ?_
    refine hK40 _ _ ?_
    clear hK40
    refine cd_F F rfl ?_
    refine wp_skip ?_
    refine hK39 _ _ ?_
    clear hK39
    refine wp_seq_k fun K41 hK41 => ?_
    refine wp_seq_k fun K42 hK42 => ?_
    refine wp_region_lit ?_
    refine F.mv ?_; clear F fa; intro fa F
    refine F.vl (R_not rfl (F.at rfl)) ?_; clear F fa; intro fa F
    refine wpList_nil ?_
    refine hK42 _ _ ?_
    clear hK42
    refine cd_T F rfl ?_
    refine wp_seq_k fun K43 hK43 => ?_
    refine wp_region_lit ?_
    refine F.mv ?_; clear F fa; intro fa F
    refine F.vl (R_eqlB (b := true) rfl (F.at rfl) (ev_c fa _) (by decide)) ?_; clear F fa; intro fa F
    refine F.mv ?_; clear F fa; intro fa F
    refine F.mv ?_ (hw := (wantT F rfl rfl (by decide) rfl)); clear F fa; intro fa F
    refine F.vl (R_len rfl rfl (F.at rfl) Try.underlying50) ?_ (hw := (wantT F rfl rfl (by decide) rfl)); clear F fa; intro fa F
    refine F.mv ?_ (hw := (wantT F rfl rfl (by decide) rfl)); clear F fa; intro fa F
    refine F.vl (R_len rfl rfl (F.at rfl) Try.underlying50) ?_ (hw := (wantT F rfl rfl (by decide) rfl)); clear F fa; intro fa F
    refine F.vl (R_add rfl (F.at rfl) (F.at rfl) (by omega) (by omega)) ?_ (hw := (wantT F rfl rfl (by decide) rfl)); clear F fa; intro fa F
    refine F.mv ?_ (hw := (wantT F rfl rfl (by decide) rfl)); clear F fa; intro fa F
    refine F.vl (R_len rfl rfl (F.at rfl) Try.underlying29) ?_ (hw := (wantT F rfl rfl (by decide) rfl)); clear F fa; intro fa F
    refine F.vl (R_add rfl (F.at rfl) (F.at rfl) (by omega) (by omega)) ?_ (hw := (wantT F rfl rfl (by decide) rfl)); clear F fa; intro fa F
    refine F.mv ?_ (hw := (wantT F rfl rfl (by decide) rfl)); clear F fa; intro fa F
    refine F.vl (R_len rfl rfl (F.at rfl) Try.underlying29) ?_ (hw := (wantT F rfl rfl (by decide) rfl)); clear F fa; intro fa F
    refine F.vl (R_add rfl (F.at rfl) (F.at rfl) (by omega) (by omega)) ?_ (hw := (wantT F rfl rfl (by decide) rfl)); clear F fa; intro fa F
    refine F.vl (R_eqlB (b := true) rfl (F.at rfl) (ev_c fa _) (decide_eq_true ((by omega)))) ?_ (hw := (wantT F rfl rfl (by decide) rfl)); clear F fa; intro fa F
    refine F.vl (R_pickT rfl (F.at rfl) (F.at rfl)) ?_; clear F fa; intro fa F
    refine F.mv ?_; clear F fa; intro fa F
    refine sq_call F rfl (by decide) (wantT F rfl rfl (by decide) rfl) (R_callV rfl rfl Try.call25 mp0) (taken_any _) fun e w25 hR => ?_
    obtain ⟨rfl, e9⟩ := hR
    refine ⟨_, rfl, ?_⟩; clear F fa; intro fa F
    replace q3 := (e9).keep0 q3
    replace E := ext_same E (e9)
    replace EO := ext_same EO (e9)
    clear e9
    refine F.vl (R_pickT rfl (F.at rfl) (F.at rfl)) ?_; clear F fa; intro fa F
    refine F.as ?_; clear F fa; intro fa F
    refine wpList_nil ?_
    refine hK43 _ _ ?_
    clear hK43
    refine wp_ret ?_
    (try simp only [Exit.inBlock, Exit.then])
    refine rt_v F (rs_1 F rfl rfl) ?_
    exact ⟨rfl, E⟩
end Go.Proofs.Ytholfdgebdlgjaa
