/- Vats out of lots. Conditions: few draws. -/
import Derived.Test.YtdjeecgddbjbeaaDks
namespace Go.Proofs.Ytdjeecgddbjbeaa
open Go.RowKit
set_option linter.unusedVariables false
set_option linter.unusedSimpArgs false
theorem dyeE_zero {B : Int} : ∀ (ds met : List (List Int)), (∀ d ∈ ds, numE d B 9 = 0) → (met ++ ds).Nodup → dyeE B met ds = 0
  | [], _, _, _ => rfl
  | d :: ds, met, h, hn => by
    rw [dyeE, if_neg (by simp [h d (by simp)])]
    have h1 : d ∉ met := fun hm => by
      rw [List.nodup_append] at hn
      exact hn.2.2 d hm d (by simp) rfl
    rw [if_neg h1]
    exact dyeE_zero ds (met ++ [d]) (fun e he => h e (by simp [he])) (by simpa using hn)
theorem lampE_zero {B : Int} : ∀ (ls : List (List Int)), (∀ l ∈ ls, numE l B 3 = 0 ∧ l.sum ≠ 0) → lampE B ls = 0
  | [], _ => rfl
  | l :: ls, h => by
    obtain ⟨h1, h2⟩ := h l (by simp)
    rw [lampE, if_neg (by simp [h1]), if_neg h2]
    exact lampE_zero ls fun m hm => h m (by simp [hm])
theorem vok_of {x : Vm} (b1 : 1 ≤ x.B) (b3 : x.B ≤ 3) (d1 : 1 ≤ x.D.length) (d4 : x.D.length ≤ 4) (dl : ∀ p ∈ x.D, (p.2.length : Int) = x.B ∧ ∀ n ∈ p.2, 0 ≤ n ∧ n ≤ 9) (nd : (x.D.map (·.2)).Nodup) (l1 : 1 ≤ x.L.length) (l3 : x.L.length ≤ 3) (ll : ∀ p ∈ x.L, (p.2.length : Int) = x.B ∧ ∀ n ∈ p.2, 0 ≤ n ∧ n ≤ 3) (ls : ∀ p ∈ x.L, p.2.sum ≠ 0) (t0 : 0 ≤ x.tol) (t12 : x.tol ≤ 12) : VOk x := by
  refine ⟨?_, b1, b3, d1, d4, dl, l1, l3, ll, t0, t12⟩
  have h2 : sizE ((x.D.map (·.2)).length : Nat) 4 = 0 := sizE_ok (by simp; omega) (by simp; omega)
  have h4 : sizE ((x.L.map (·.2)).length : Nat) 3 = 0 := sizE_ok (by simp; omega) (by simp; omega)
  have h3 : dyeE x.B [] (x.D.map (·.2)) = 0 := dyeE_zero _ _ (fun d hd => by obtain ⟨p, hp, rfl⟩ := List.mem_map.1 hd; exact numE_ok (dl p hp).1 (dl p hp).2) (by simpa using nd)
  have h5 : lampE x.B (x.L.map (·.2)) = 0 := lampE_zero _ (fun d hd => by obtain ⟨p, hp, rfl⟩ := List.mem_map.1 hd; exact ⟨numE_ok (ll p hp).1 (ll p hp).2, ls p hp⟩)
  rw [chk6 (outB_no.2 ⟨b1, b3⟩) h2 h3 h4 h5, outB_no.2 ⟨t0, t12⟩]
  rfl
theorem own_capN {w : World} {base n size m c : Nat} {a : Option Addr} {cs : List Value} {e : TypeId} (h : w.ownsRow base e size (.slice a m c) n cs) : n ≤ c := by
  rcases h.2 with ⟨hv, hn⟩ | ⟨g, cap, cur, hv, -, -, hn, -⟩
  · injection hv with h1 h2 h3; omega
  · injection hv with h1 h2 h3; omega
theorem lol_ext {w W : World} {b base b2 : Nat} {a : Option Addr} {c : Nat} {M : List (Value × List Int)} (oo : w.ownsRow base 25 1 (.slice a M.length c) M.length (M.map (·.1))) (fam : FamT w b2 M) (e : Ext [b] w W) (h1 : b < base) (h2 : b < b2) : LolAt W a M :=
  lol_of_own (owns_ext oo e (by simpa using h1)) (fam_lift fam fun v n xs h => owns_ext h e (by simpa using h2))
def VatPost (dm : Nat) (w0 : World) (b k : Nat) (nv : Value) (w : World) (e : Ending) (w' : World) : Prop := ∃ x : Vm, e = .returned (.agg #[.int .i64 x.B, .slice x.da x.D.length x.dc, .slice x.la x.L.length x.lc, .int .i64 x.tol]) ∧ VOk x ∧ (x.D.length ≤ dm ∧ x.D.length ≤ x.dc) ∧ AtB b x w' ∧ LotsOk w0 w' b (k + 100) nv ∧ Ext [b] w w'
set_option maxRecDepth 100000 in
set_option maxHeartbeats 4000000 in
theorem vatOf_any (dm : Nat) (hdm1 : 1 ≤ dm) (hdm : dm ≤ 4) (w0 w : World) (b k : Nat) (nv : Value) (h : LotsOk w0 w b k nv) (hk : k ≤ 800000) :
    Calls Try.prog 33 #[.pointer (some ⟨b, 0, none⟩), .int .i64 ((dm : Nat) : Int)] w (VatPost dm w0 b k nv w) := by
  have HL := h
  have hbw := lots_lt HL
  have hb0 := HL.1
  have hws : w0.heap.size ≤ w.heap.size := HL.2.2.1.size
  have E : Ext [b] w w := Ext.refl _ _
  clear h
  refine calls_has 66 Try.func33 rfl Try.ntmps33 (Nat.le_of_ble_eq_true rfl) ?_
  intro fa F
  refine wp_seq_k fun K1 hK1 => ?_
  refine wp_region_lit ?_
  refine sq_new F rfl (by decide) rfl (R_alloc rfl Try.zeroValue24) ?_; clear F fa; intro fa w1 F hw
  obtain ⟨n4, hn⟩ : ∃ n, n = w.heap.size := ⟨_, rfl⟩
  rw [← hn] at F
  have s4 : w.heap.size ≤ n4 := Nat.le_of_eq hn.symm
  have l4_E : w.heap.size ≤ n4 := by rw [hn]; exact E.size
  have b4_HL := Nat.lt_of_lt_of_eq (lots_lt HL) hn.symm
  replace E := ext_alloc E hw
  replace HL := lots_alloc hw HL
  have q4 := new_row hw hn
  clear hw hn
  refine wpList_nil ?_
  refine hK1 _ _ ?_
  clear hK1
  refine wp_seq_k fun K2 hK2 => ?_
  refine wp_region_lit ?_
  refine F.mv ?_; clear F fa; intro fa F
  refine sq_call F rfl (by decide) rfl (R_callV rfl rfl Try.call49 (mpS (F.at rfl) (mpS (ev_c fa _) (mpS (ev_c fa _) mp0)))) (in_any w0 _ b _ nv 1 3 HL (by omega) (by omega) (by omega) (by omega) (by omega)) fun e w2 hR => ?_
  obtain ⟨bz, rfl, hbz1, hbz2, HL, e9⟩ := hR
  refine ⟨_, rfl, ?_⟩; clear F fa; intro fa F
  replace q4 := (e9).keep q4 (by simp; omega)
  replace E := E.trans' e9 (fun i hi hl => by simp only [List.mem_cons, List.not_mem_nil, or_false] at hi ⊢; omega)
  obtain ⟨bn, rfl⟩ := Int.eq_ofNat_of_zero_le (show 0 ≤ bz by omega)
  refine F.mv ?_; clear F fa; intro fa F
  refine F.mv ?_; clear F fa; intro fa F
  refine sq_call F rfl (by decide) rfl (R_callV rfl rfl Try.call26 (mpS (F.at rfl) (mpS (ev_c fa _) mp0))) (upto_any w0 _ b _ nv 6 HL (by omega) (by omega) (by omega)) fun e w3 hR => ?_
  obtain ⟨u, rfl, hu0, hu1, HL, e9⟩ := hR
  refine ⟨_, rfl, ?_⟩; clear F fa; intro fa F
  replace q4 := (e9).keep q4 (by simp; omega)
  replace E := E.trans' e9 (fun i hi hl => by simp only [List.mem_cons, List.not_mem_nil, or_false] at hi ⊢; omega)
  refine sq_new F rfl (by decide) rfl (R_buildSliceV rfl (prS (ev_c fa _) (prS (ev_c fa _) (prS (ev_c fa _) (prS (ev_c fa _) (prS (F.at rfl) pr0))))) Try.underlying25 (size := 1) (by kernel_rfl) (by decide) (by decide) Try.zeroValue3 (cells := #[.int .i64 0, .int .i64 1, .int .i64 1, .int .i64 2, .int .i64 u]) (by kernel_rfl)) ?_; clear F fa; intro fa w4 F hw
  obtain ⟨n15, hn⟩ : ∃ n, n = w3.heap.size := ⟨_, rfl⟩
  rw [← hn] at F
  have s15 : w3.heap.size ≤ n15 := Nat.le_of_eq hn.symm
  have l15_E : w.heap.size ≤ n15 := by rw [hn]; exact E.size
  have b15_HL := Nat.lt_of_lt_of_eq (lots_lt HL) hn.symm
  have m15_4 : n4 < n15 := by rw [hn]; exact blk_lt q4
  replace q4 := keep_alloc hw q4
  replace E := ext_alloc E hw
  replace HL := lots_alloc hw HL
  have q15 := new_block hw hn
  clear hw hn
  refine sq_call F rfl (by decide) rfl (R_callV rfl rfl Try.call50 (mpS (F.at rfl) (mpS (F.at rfl) mp0))) (of_any w0 _ b _ nv n15 _ [0, 1, 1, 2, u] HL (by omega) q15 (by omega) (by simp) (by simp)) fun e w5 hR => ?_
  obtain ⟨tl, rfl, htm, HL, e9⟩ := hR
  refine ⟨_, rfl, ?_⟩; clear F fa; intro fa F
  replace q4 := (e9).keep q4 (by simp; omega)
  replace q15 := (e9).keep q15 (by simp; omega)
  replace E := E.trans' e9 (fun i hi hl => by simp only [List.mem_cons, List.not_mem_nil, or_false] at hi ⊢; omega)
  have htl : 0 ≤ tl ∧ tl ≤ 6 := by simp only [List.mem_cons, List.not_mem_nil, or_false] at htm; omega
  refine F.vl (R_buildV rfl (prS (F.at rfl) (prS (F.at rfl) pr0)) (cells := #[.int .i64 ((bn : Nat) : Int), .slice none 0 0, .slice none 0 0, .int .i64 tl]) (by kernel_rfl)) ?_; clear F fa; intro fa F
  refine sq_new F rfl (by decide) rfl (R_alloc rfl Try.zeroValue24) ?_; clear F fa; intro fa w6 F hw
  obtain ⟨n5, hn⟩ : ∃ n, n = w5.heap.size := ⟨_, rfl⟩
  rw [← hn] at F
  have s5 : w5.heap.size ≤ n5 := Nat.le_of_eq hn.symm
  have l5_E : w.heap.size ≤ n5 := by rw [hn]; exact E.size
  have b5_HL := Nat.lt_of_lt_of_eq (lots_lt HL) hn.symm
  have m5_4 : n4 < n5 := by rw [hn]; exact blk_lt q4
  replace q4 := keep_alloc hw q4
  replace E := ext_alloc E hw
  replace HL := lots_alloc hw HL
  have q5 := new_row hw hn
  clear hw hn
  refine sq_to rfl rfl (R_storeRow rfl (F.at rfl) (F.at rfl) (by kernel_rfl) (by first | (simp [Value.oneCell']; done) | (simp [Value.oneCell', id]; done)) q5 rfl) ?_; intro w7 hw
  replace q4 := keep_cells hw q4 (by omega)
  replace q5 := put_row hw q5 rfl
  replace E := ext_cells E hw (fun h => by first | exact absurd h (by omega) | simp)
  replace HL := lots_cells hw HL (by omega) (by omega)
  clear hw
  refine wpList_nil ?_
  refine hK2 _ _ ?_
  clear hK2
  refine wp_seq_k fun K3 hK3 => ?_
  refine wp_seq_k fun K4 hK4 => ?_
  refine wp_region_lit ?_
  refine F.mv ?_; clear F fa; intro fa F
  refine F.mv ?_; clear F fa; intro fa F
  refine sq_call F rfl (by decide) rfl (R_callV rfl rfl Try.call49 (mpS (F.at rfl) (mpS (ev_c fa _) (mpS (F.at rfl) mp0)))) (in_any w0 _ b _ nv 1 ((dm : Nat) : Int) HL (by omega) (by omega) (by omega) (by omega) (by omega)) fun e w8 hR => ?_
  obtain ⟨n, rfl, hn1, hn2, HL, e9⟩ := hR
  refine ⟨_, rfl, ?_⟩; clear F fa; intro fa F
  replace q4 := (e9).keep q4 (by simp; omega)
  replace q5 := (e9).keep q5 (by simp; omega)
  replace E := E.trans' e9 (fun i hi hl => by simp only [List.mem_cons, List.not_mem_nil, or_false] at hi ⊢; omega)
  refine F.as ?_; clear F fa; intro fa F
  refine wpList_nil ?_
  rw [show n = n - ((0 : Nat) : Int) by omega] at F
  obtain ⟨wR, hwR⟩ : ∃ wR, wR = w8 := ⟨_, rfl⟩
  have ER : Ext [b, n5] wR w8 := by rw [hwR]; exact Ext.refl _ _
  have hb4 := blk_lt q4
  have hb5 := blk_lt q5
  have hbb := lots_lt HL
  rw [← hwR] at hb4 hb5 hbb
  have hwR0 : w.heap.size ≤ wR.heap.size := by rw [hwR]; exact E.size
  have oo : w8.ownsRow wR.heap.size 25 1 (.slice none 0 0) 0 (([] : List (Value × List Int)).map (·.1)) := World.ownsRow_nil _ _ _ _
  have fam : FamT w8 wR.heap.size [] := fam_nil _ _
  refine hK4 _ _ ?_
  clear hK4
  refine wp_block ?_
  have F0 := F.sub (.c 0 rfl (.c 4 rfl (.c 5 rfl .n)))
  replace HL : LotsOk w0 w8 b (k + 4 + 10 * 0) nv := lots_mono HL (by omega)
  refine lp_for F0 (dm) (fun i Lv W => ∃ da : Option Addr, ∃ dc : Nat, ∃ O : List (Value × List Int), Lv = [(6, .int .i64 (n - ((i : Nat) : Int)))] ∧ Ext [b] w W ∧ Ext [b, n5] wR W ∧ W.heap[n4]? = some (.cells #[.int .i64 0, .slice none 0 0, .slice none 0 0, .int .i64 0] 24 (0, 0)) ∧ W.heap[n5]? = some (.cells #[.int .i64 ((bn : Nat) : Int), .slice da O.length dc, .slice none 0 0, .int .i64 tl] 24 (0, 0)) ∧ LotsOk w0 W b (k + 4 + 10 * i) nv ∧ W.ownsRow wR.heap.size 25 1 (.slice da O.length dc) O.length (O.map (·.1)) ∧ FamT W wR.heap.size O ∧ (∀ p ∈ O, (p.2.length : Int) = bn ∧ ∀ m ∈ p.2, 0 ≤ m ∧ m ≤ 9) ∧ (O.map (·.2)).Nodup ∧ O.length ≤ i ∧ (0 < i → 0 < O.length) ∧ (i : Int) ≤ n) ⟨_, ⟨none, 0, [], rfl, E, ER, q4, q5, HL, oo, fam, (by simp), (by simp), (by simp), (by simp), (by omega)⟩, F.sub (.c 6 rfl (.c 0 rfl (.c 4 rfl (.c 5 rfl .n))))⟩ ?_
  clear F F0
  clear E ER q4 q5 HL
  clear oo
  clear fam
  rintro i _ fa w9 hi1 ⟨da, dc, O, rfl, E, ER, q4, q5, HL, oo, fam, hOB, hnd, hOl, hO1, hin⟩ F
  refine wp_seq_k fun K5 hK5 => ?_
  refine wp_seq_k fun K6 hK6 => ?_
  refine wp_region_lit ?_
  refine F.mv ?_; clear F fa; intro fa F
  refine F.vl (R_gtr rfl (F.at rfl) (ev_c fa _)) ?_; clear F fa; intro fa F
  refine wpList_nil ?_
  refine hK6 _ _ ?_
  clear hK6
  refine cd_if F rfl (fun hc22 => ?_) (fun hc22 => ?_)
  · skip
    refine wp_skip ?_
    refine hK5 _ _ ?_
    clear hK5
    refine wp_seq_k fun K7 hK7 => ?_
    refine wp_block ?_
    refine wp_seq_k fun K8 hK8 => ?_
    refine wp_region_lit ?_
    refine F.mv ?_; clear F fa; intro fa F
    refine F.vl (R_field rfl (F.at rfl) Try.underlying24 rfl (n := 0) (sz := 1) rfl (by kernel_rfl) (by decide)) ?_; clear F fa; intro fa F
    refine F.vl (R_load rfl (F.at rfl) Try.underlying3 rfl ((cells_of_block q5 0).trans (get0))) ?_; clear F fa; intro fa F
    have hflt := Lib.hid (fam_lt fam)
    obtain ⟨B1, hB1⟩ : ∃ B1, B1 = w9.heap.size := ⟨_, rfl⟩
    rw [← hB1] at hflt
    have hB1w : wR.heap.size ≤ B1 := by rw [hB1]; exact ER.size
    refine sq_call F rfl (by decide) rfl (R_callV rfl rfl Try.call90 (mpS (F.at rfl) (mpS (F.at rfl) (mpS (ev_c fa _) mp0)))) (tonesOf_any w0 _ b _ nv bn 9 HL (by omega) (by omega) (by omega) (by omega)) fun e w10 hR => ?_
    obtain ⟨ra, rc, xs, rfl, hxl, hxb, ro, HL, e9⟩ := hR
    refine ⟨_, rfl, ?_⟩; clear F fa; intro fa F
    replace oo := owns_ext oo (e9) (by simp; omega)
    replace fam := fam_lift fam fun _ _ _ h => owns_ext h (e9) (by simp; omega)
    replace q4 := (e9).keep q4 (by simp; omega)
    replace q5 := (e9).keep q5 (by simp; omega)
    replace E := E.trans' e9 (fun i hi hl => by simp only [List.mem_cons, List.not_mem_nil, or_false] at hi ⊢; omega)
    replace ER := ER.trans' e9 (fun i hi hl => by simp only [List.mem_cons, List.not_mem_nil, or_false] at hi ⊢; omega)
    rw [← hB1] at ro
    refine F.as ?_; clear F fa; intro fa F
    refine wpList_nil ?_
    refine hK8 _ _ ?_
    clear hK8
    refine wp_seq_k fun K9 hK9 => ?_
    refine wp_region_lit ?_
    refine F.vl (R_field rfl (F.at rfl) Try.underlying24 rfl (n := 1) (sz := 1) rfl (by kernel_rfl) (by decide)) ?_; clear F fa; intro fa F
    refine F.vl (R_load rfl (F.at rfl) Try.underlying22 rfl ((cells_of_block q5 1).trans (getS (get0)))) ?_; clear F fa; intro fa F
    refine F.mv ?_; clear F fa; intro fa F
    have hin2 := isIn_any O xs da ra dc rc w10 (lol_of_own oo fam) (by rw [hxl]; exact rows_of_ivs ro hxl.symm) (by omega) (fun p hp => by have := (hOB p hp).1; omega) (by omega)
    rw [hxl] at hin2
    refine sq_call F rfl (by decide) rfl (R_callV rfl rfl Try.call91 (mpS (F.at rfl) (mpS (F.at rfl) mp0))) (hin2) fun e w11 hR => ?_
    obtain ⟨rfl, e9⟩ := hR
    refine ⟨_, rfl, ?_⟩; clear F fa; intro fa F
    replace oo := owns_ext oo (e9) (by simp)
    replace fam := fam_lift fam fun _ _ _ h => owns_ext h (e9) (by simp)
    replace ro := owns_ext ro (e9) (by simp)
    replace q4 := (e9).keep0 q4
    replace q5 := (e9).keep0 q5
    replace E := ext_same E (e9)
    replace ER := ext_same ER (e9)
    replace HL := lots_ext (e9) HL
    clear e9
    clear hin2
    refine F.vl (R_notD rfl (F.at rfl)) ?_; clear F fa; intro fa F
    refine wpList_nil ?_
    refine hK9 _ _ ?_
    clear hK9
    refine cd_if F rfl (fun hc33 => ?_) (fun hc33 => ?_)
    · skip
      have fam2 := fam_perm (fam_join (b1 := B1) (L := [(Value.slice ra bn rc, xs)]) ⟨fun p hp => (by obtain rfl : p = (Value.slice ra bn rc, xs) := (by simpa using hp); rw [show ((Value.slice ra bn rc, xs) : Value × List Int).2.length = bn from hxl]; exact ro), List.pairwise_singleton _ _⟩ fam hflt.out hB1w) (M := O ++ [(Value.slice ra bn rc, xs)]) List.perm_append_comm
      clear fam ro
      have fam := fam2
      clear fam2
      obtain ⟨P, hP⟩ : ∃ P, P = O ++ [(Value.slice ra bn rc, xs)] := ⟨_, rfl⟩
      have hPl : O.length + 1 = P.length := by rw [hP, List.length_append]; rfl
      rw [← hP] at fam
      have hPB : ∀ p ∈ P, (p.2.length : Int) = bn ∧ ∀ m ∈ p.2, 0 ≤ m ∧ m ≤ 9 := by intro p hp; rw [hP] at hp; rcases List.mem_append.1 hp with hp | hp; (· exact hOB p hp); (· simp only [List.mem_cons, List.not_mem_nil, or_false] at hp; subst hp; exact ⟨by show ((xs.length : Nat) : Int) = _; omega, hxb⟩)
      have hPn : (P.map (·.2)).Nodup := by rw [hP, List.map_append, List.nodup_append]; exact ⟨hnd, by simp, fun y hy z hz => by simp only [List.map_cons, List.map_nil, List.mem_cons, List.not_mem_nil, or_false] at hz; subst hz; intro e; subst e; exact hc33 hy⟩
      refine wp_region_lit ?_
      refine F.vl (R_field rfl (F.at rfl) Try.underlying24 rfl (n := 1) (sz := 1) rfl (by kernel_rfl) (by decide)) ?_; clear F fa; intro fa F
      refine F.vl (R_load rfl (F.at rfl) Try.underlying22 rfl ((cells_of_block q5 1).trans (getS (get0)))) ?_; clear F fa; intro fa F
      refine F.mv ?_; clear F fa; intro fa F
      refine sq_new F rfl (by decide) rfl (R_buildSliceV rfl (prS (F.at rfl) pr0) Try.underlying22 (size := 1) (by kernel_rfl) (by decide) (by decide) Try.zeroValue25 (cells := #[.slice ra bn rc]) (by kernel_rfl)) ?_; clear F fa; intro fa w12 F hw
      obtain ⟨n37, hn⟩ : ∃ n, n = w11.heap.size := ⟨_, rfl⟩
      rw [← hn] at F
      have s37 : w11.heap.size ≤ n37 := Nat.le_of_eq hn.symm
      have l37_E : w.heap.size ≤ n37 := by rw [hn]; exact E.size
      have l37_ER : wR.heap.size ≤ n37 := by rw [hn]; exact ER.size
      have b37_HL := Nat.lt_of_lt_of_eq (lots_lt HL) hn.symm
      have m37_4 : n4 < n37 := by rw [hn]; exact blk_lt q4
      have m37_5 : n5 < n37 := by rw [hn]; exact blk_lt q5
      have o37_oo := Lib.hid (own_ne_new oo hn)
      replace oo := owns_alloc hw oo
      replace fam := fam_lift fam fun _ _ _ h => owns_alloc hw h
      replace q4 := keep_alloc hw q4
      replace q5 := keep_alloc hw q5
      replace E := ext_alloc E hw
      replace ER := ext_alloc ER hw
      replace HL := lots_alloc hw HL
      have q37 := new_block hw hn
      clear hw hn
      have hEs := ER.size
      refine sq_some F rfl (by decide) rfl (append_run rfl (wR.heap.size) (e := 25) (size := 1) (bytes := 24) Try.underlying22 (by kernel_rfl) (by decide) (F.at rfl) oo (F.at rfl) q37 rfl (by simp [Value.oneCell']) (by omega) (by omega) (by omega)) ?_; clear F fa; rintro fa v' w13 F ⟨hown', hg⟩
      obtain ⟨va38, vc38, rfl⟩ := owns_slice hown'
      replace q4 := keep_type oo hg q4 (by decide)
      replace q5 := keep_type oo hg q5 (by decide)
      replace HL := lots_append HL oo hg (by omega) (by decide)
      replace fam := fam_lift fam fun _ _ _ h => owns_other h oo hg (by decide)
      replace E := ext_appendX E oo hg (by omega)
      replace ER := ext_appendX ER oo hg (by omega)
      replace oo := hown'
      clear hg
      rw [show O.map (·.1) ++ [Value.slice ra bn rc] = P.map (·.1) by rw [hP, List.map_append]; rfl, hPl] at oo
      rw [hPl] at F
      replace hOB := hPB
      replace hnd := hPn
      replace hOl : P.length ≤ i + 1 := by omega
      replace hO1 : 0 < i + 1 → 0 < P.length := fun _ => by omega
      refine F.vl (R_field rfl (F.at rfl) Try.underlying24 rfl (n := 1) (sz := 1) rfl (by kernel_rfl) (by decide)) ?_; clear F fa; intro fa F
      refine sq_to rfl rfl (R_store rfl (F.at rfl) (F.at rfl) rfl (by kernel_rfl) ((cells_of_block q5 1).trans (getS (get0))) (free_of_block q5 1)) ?_; intro w14 hw
      replace oo := owns_cellX hw oo (own_ne_type oo q5 (by decide))
      replace fam := fam_lift fam fun _ _ _ h => owns_cellX hw h (own_ne_type h q5 (by decide))
      replace q4 := keep_cell hw q4 (by omega)
      replace q5 := put_cell hw q5 (by simp only [List.setIfInBounds_toArray, List.set_cons_succ, List.set_cons_zero]; exact rfl)
      replace E := ext_cell E hw (fun h => by first | exact absurd h (by omega) | simp)
      replace ER := ext_cell ER hw (fun h => by first | exact absurd h (by omega) | simp)
      replace HL := lots_cell hw HL (by omega) (by omega)
      clear hw
      refine wpList_nil ?_
      refine hK7 _ _ ?_
      clear hK7
      refine wp_region_lit ?_
      refine F.mv ?_; clear F fa; intro fa F
      refine F.vl (R_sub rfl (F.at rfl) (ev_c fa _) (by omega) (by omega)) ?_; clear F fa; intro fa F
      rw [show n - ((i : Nat) : Int) - 1 = n - ((i + 1 : Nat) : Int) by omega] at F
      refine F.as ?_; clear F fa; intro fa F
      refine wpList_nil ?_
      replace HL : LotsOk w0 w14 b (k + 4 + 10 * (i + 1)) nv := lots_mono HL (by omega)
      show _ ∧ _
      exact ⟨by omega, _, ⟨_, _, _, rfl, E, ER, q4, q5, HL, oo, fam, hOB, hnd, hOl, hO1, (by omega)⟩, F.sub (.c 6 rfl (.c 0 rfl (.c 4 rfl (.c 5 rfl .n))))⟩
    · skip
      have hOne : 0 < O.length := by have := Classical.not_not.1 hc33; rcases O with _ | ⟨p, O⟩; (· simp at this); (· simp)
      replace hOl : O.length ≤ i + 1 := by omega
      replace hO1 : 0 < i + 1 → 0 < O.length := fun _ => hOne
      refine wp_skip ?_
      refine hK7 _ _ ?_
      clear hK7
      refine wp_region_lit ?_
      refine F.mv ?_; clear F fa; intro fa F
      refine F.vl (R_sub rfl (F.at rfl) (ev_c fa _) (by omega) (by omega)) ?_; clear F fa; intro fa F
      rw [show n - ((i : Nat) : Int) - 1 = n - ((i + 1 : Nat) : Int) by omega] at F
      refine F.as ?_; clear F fa; intro fa F
      refine wpList_nil ?_
      replace HL : LotsOk w0 w11 b (k + 4 + 10 * (i + 1)) nv := lots_mono HL (by omega)
      show _ ∧ _
      exact ⟨by omega, _, ⟨_, _, _, rfl, E, ER, q4, q5, HL, oo, fam, hOB, hnd, hOl, hO1, (by omega)⟩, F.sub (.c 6 rfl (.c 0 rfl (.c 4 rfl (.c 5 rfl .n))))⟩
  · skip
    refine wp_exit ?_
    refine hK3 _ _ ?_
    clear hK3
    refine wp_seq_k fun K10 hK10 => ?_
    refine wp_seq_k fun K11 hK11 => ?_
    have hdcap := own_capN oo
    have hDl : ∀ W, Ext [b, n4, n5] w9 W → LolAt W da O := fun W e => lol_of_own (owns_ext oo e (by simp; omega)) (fam_lift fam fun v n xs h => owns_ext h e (by simp; omega))
    obtain ⟨wL, hwL⟩ : ∃ wL, wL = w9 := ⟨_, rfl⟩
    have EL : Ext [b, n4, n5] wL w9 := by rw [hwL]; exact Ext.refl _ _
    rw [← hwL] at hDl
    have HDl := Lib.hid hDl
    clear hDl oo fam
    have hwL0 : w.heap.size ≤ wL.heap.size := by rw [hwL]; exact E.size
    refine wp_region_lit ?_
    refine F.mv ?_; clear F fa; intro fa F
    refine sq_call F rfl (by decide) rfl (R_callV rfl rfl Try.call49 (mpS (F.at rfl) (mpS (ev_c fa _) (mpS (ev_c fa _) mp0)))) (in_any w0 _ b _ nv 1 3 HL (by omega) (by omega) (by omega) (by omega) (by omega)) fun e w15 hR => ?_
    obtain ⟨m, rfl, hm1, hm2, HL, e9⟩ := hR
    refine ⟨_, rfl, ?_⟩; clear F fa; intro fa F
    replace q4 := (e9).keep q4 (by simp; omega)
    replace q5 := (e9).keep q5 (by simp; omega)
    replace E := E.trans' e9 (fun i hi hl => by simp only [List.mem_cons, List.not_mem_nil, or_false] at hi ⊢; omega)
    replace EL := EL.trans' e9 (fun i hi hl => by simp only [List.mem_cons, List.not_mem_nil, or_false] at hi ⊢; omega)
    refine F.as ?_; clear F fa; intro fa F
    refine wpList_nil ?_
    rw [show m = m - ((0 : Nat) : Int) by omega] at F
    have oo : w15.ownsRow wL.heap.size 25 1 (.slice none 0 0) 0 (([] : List (Value × List Int)).map (·.1)) := World.ownsRow_nil _ _ _ _
    have fam : FamT w15 wL.heap.size [] := fam_nil _ _
    have hOd : O.length ≤ dm := by omega
    replace hO1 : 0 < O.length := hO1 (by omega)
    refine hK11 _ _ ?_
    clear hK11
    refine wp_block ?_
    have F0 := F.sub (.c 0 rfl (.c 4 rfl (.c 5 rfl .n)))
    replace HL : LotsOk w0 w15 b (k + 5 + 10 * dm + 10 * 0) nv := lots_mono HL (by omega)
    refine lp_for F0 (3) (fun j Lv W => ∃ la : Option Addr, ∃ lc : Nat, ∃ Q : List (Value × List Int), Lv = [(8, .int .i64 (m - ((j : Nat) : Int)))] ∧ Ext [b] w W ∧ Ext [b, n4, n5] wL W ∧ W.heap[n4]? = some (.cells #[.int .i64 0, .slice none 0 0, .slice none 0 0, .int .i64 0] 24 (0, 0)) ∧ W.heap[n5]? = some (.cells #[.int .i64 ((bn : Nat) : Int), .slice da O.length dc, .slice la Q.length lc, .int .i64 tl] 24 (0, 0)) ∧ LotsOk w0 W b (k + 5 + 10 * dm + 10 * j) nv ∧ W.ownsRow wL.heap.size 25 1 (.slice la Q.length lc) Q.length (Q.map (·.1)) ∧ FamT W wL.heap.size Q ∧ (∀ p ∈ Q, (p.2.length : Int) = bn ∧ ∀ m ∈ p.2, 0 ≤ m ∧ m ≤ 3) ∧ (∀ p ∈ Q, p.2.sum ≠ 0) ∧ Q.length = j ∧ (j : Int) ≤ m) ⟨_, ⟨none, 0, [], rfl, E, EL, q4, q5, HL, oo, fam, (by simp), (by simp), rfl, (by omega)⟩, F.sub (.c 8 rfl (.c 0 rfl (.c 4 rfl (.c 5 rfl .n))))⟩ ?_
    clear F F0
    clear E EL q4 q5 HL
    clear oo
    clear fam
    rintro j _ fa w16 hi2 ⟨la, lc, Q, rfl, E, EL, q4, q5, HL, oo, fam, hQB, hQs, hQl, hjm⟩ F
    refine wp_seq_k fun K12 hK12 => ?_
    refine wp_seq_k fun K13 hK13 => ?_
    refine wp_region_lit ?_
    refine F.mv ?_; clear F fa; intro fa F
    refine F.vl (R_gtr rfl (F.at rfl) (ev_c fa _)) ?_; clear F fa; intro fa F
    refine wpList_nil ?_
    refine hK13 _ _ ?_
    clear hK13
    refine cd_if F rfl (fun hc43 => ?_) (fun hc43 => ?_)
    · skip
      refine wp_skip ?_
      refine hK12 _ _ ?_
      clear hK12
      refine wp_seq_k fun K14 hK14 => ?_
      refine wp_block ?_
      refine wp_seq_k fun K15 hK15 => ?_
      refine wp_region_lit ?_
      refine F.mv ?_; clear F fa; intro fa F
      refine F.vl (R_field rfl (F.at rfl) Try.underlying24 rfl (n := 0) (sz := 1) rfl (by kernel_rfl) (by decide)) ?_; clear F fa; intro fa F
      refine F.vl (R_load rfl (F.at rfl) Try.underlying3 rfl ((cells_of_block q5 0).trans (get0))) ?_; clear F fa; intro fa F
      have hflt := Lib.hid (fam_lt fam)
      obtain ⟨B1, hB1⟩ : ∃ B1, B1 = w16.heap.size := ⟨_, rfl⟩
      rw [← hB1] at hflt
      have hB1w : wL.heap.size ≤ B1 := by rw [hB1]; exact EL.size
      refine sq_call F rfl (by decide) rfl (R_callV rfl rfl Try.call90 (mpS (F.at rfl) (mpS (F.at rfl) (mpS (ev_c fa _) mp0)))) (tonesOf_any w0 _ b _ nv bn 3 HL (by omega) (by omega) (by omega) (by omega)) fun e w17 hR => ?_
      obtain ⟨ra, rc, xs, rfl, hxl, hxb, ro, HL, e9⟩ := hR
      refine ⟨_, rfl, ?_⟩; clear F fa; intro fa F
      replace oo := owns_ext oo (e9) (by simp; omega)
      replace fam := fam_lift fam fun _ _ _ h => owns_ext h (e9) (by simp; omega)
      replace q4 := (e9).keep q4 (by simp; omega)
      replace q5 := (e9).keep q5 (by simp; omega)
      replace E := E.trans' e9 (fun i hi hl => by simp only [List.mem_cons, List.not_mem_nil, or_false] at hi ⊢; omega)
      replace EL := EL.trans' e9 (fun i hi hl => by simp only [List.mem_cons, List.not_mem_nil, or_false] at hi ⊢; omega)
      rw [← hB1] at ro
      refine F.as ?_; clear F fa; intro fa F
      refine wpList_nil ?_
      refine hK15 _ _ ?_
      clear hK15
      refine wp_seq_k fun K16 hK16 => ?_
      refine wp_region_lit ?_
      refine F.mv ?_; clear F fa; intro fa F
      refine F.mv ?_; clear F fa; intro fa F
      refine F.vl (R_field rfl (F.at rfl) Try.underlying24 rfl (n := 0) (sz := 1) rfl (by kernel_rfl) (by decide)) ?_; clear F fa; intro fa F
      refine F.vl (R_load rfl (F.at rfl) Try.underlying3 rfl ((cells_of_block q5 0).trans (get0))) ?_; clear F fa; intro fa F
      refine F.vl (R_sub rfl (F.at rfl) (ev_c fa _) (by omega) (by omega)) ?_; clear F fa; intro fa F
      refine sq_call F rfl (by decide) rfl (R_callV rfl rfl Try.call26 (mpS (F.at rfl) (mpS (F.at rfl) mp0))) (upto_any w0 _ b _ nv (((bn : Nat) : Int) - 1) HL (by omega) (by omega) (by omega)) fun e w18 hR => ?_
      obtain ⟨v, rfl, hv0, hv1, HL, e9⟩ := hR
      refine ⟨_, rfl, ?_⟩; clear F fa; intro fa F
      replace oo := owns_ext oo (e9) (by simp; omega)
      replace fam := fam_lift fam fun _ _ _ h => owns_ext h (e9) (by simp; omega)
      replace ro := owns_ext ro (e9) (by simp; omega)
      replace q4 := (e9).keep q4 (by simp; omega)
      replace q5 := (e9).keep q5 (by simp; omega)
      replace E := E.trans' e9 (fun i hi hl => by simp only [List.mem_cons, List.not_mem_nil, or_false] at hi ⊢; omega)
      replace EL := EL.trans' e9 (fun i hi hl => by simp only [List.mem_cons, List.not_mem_nil, or_false] at hi ⊢; omega)
      obtain ⟨v, rfl⟩ := Int.eq_ofNat_of_zero_le hv0
      refine F.mv ?_; clear F fa; intro fa F
      refine sq_call F rfl (by decide) rfl (R_callV rfl rfl Try.call49 (mpS (F.at rfl) (mpS (ev_c fa _) (mpS (ev_c fa _) mp0)))) (in_any w0 _ b _ nv 1 3 HL (by omega) (by omega) (by omega) (by omega) (by omega)) fun e w19 hR => ?_
      obtain ⟨z, rfl, hz1, hz2, HL, e9⟩ := hR
      refine ⟨_, rfl, ?_⟩; clear F fa; intro fa F
      replace oo := owns_ext oo (e9) (by simp; omega)
      replace fam := fam_lift fam fun _ _ _ h => owns_ext h (e9) (by simp; omega)
      replace ro := owns_ext ro (e9) (by simp; omega)
      replace q4 := (e9).keep q4 (by simp; omega)
      replace q5 := (e9).keep q5 (by simp; omega)
      replace E := E.trans' e9 (fun i hi hl => by simp only [List.mem_cons, List.not_mem_nil, or_false] at hi ⊢; omega)
      replace EL := EL.trans' e9 (fun i hi hl => by simp only [List.mem_cons, List.not_mem_nil, or_false] at hi ⊢; omega)
      have EX : Ext [] w19 w19 := Ext.refl _ _
      have HS := Lib.hid (slAt_of_ivs ro hxl.symm [] (by simp))
      have hil := ivs_lenZ xs
      obtain ⟨xb17, xo17, xa17, xr17⟩ := HS.out v (by omega)
      refine F.vl (R_ixSlice (sz := 1) rfl ((F.at rfl).trans (xa17 _ _)) (F.at rfl) Try.underlying25 (by kernel_rfl) (by omega) (by omega)) ?_; clear F fa; intro fa F
      obtain ⟨⟨u0, hcu⟩, hfu, hst⟩ := owns_at ro xa17 (j := v) (p := xo17 + ((v : Nat) : Int).toNat * 1) (by first | omega | (simp; omega)) (by omega)
      refine sq_to rfl rfl (R_store rfl (F.at rfl) (F.at rfl) rfl (by kernel_rfl) hcu hfu) ?_; intro w20 hw
      obtain ⟨hown', hg⟩ := hst _ _ hw
      clear hst hcu hfu hw
      replace q4 := keep_type ro hg q4 (by decide)
      replace q5 := keep_type ro hg q5 (by decide)
      replace HL := lots_append HL ro hg (by omega) (by decide)
      replace oo := owns_other oo ro hg (by decide)
      replace fam := fam_below fam hflt.out ro hg
      replace E := ext_appendX E ro hg (by omega)
      replace EL := ext_appendX EL ro hg (by omega)
      replace ro := hown'
      clear hg
      rw [ivs_setZ] at ro
      refine wpList_nil ?_
      obtain ⟨ys, hys⟩ : ∃ ys, ys = xs.set v z := ⟨_, rfl⟩
      have hyl : ys.length = bn := by rw [hys, List.length_set]; exact hxl
      have hyb : ∀ q ∈ ys, 0 ≤ q ∧ q ≤ 3 := by intro q hq; rw [hys] at hq; rcases List.mem_or_eq_of_mem_set hq with hq | rfl; (· exact hxb q hq); (· omega)
      have hysum : ys.sum ≠ 0 := by have h1 := le_sum (xs := ys) (fun q hq => (hyb q hq).1) z (by rw [hys]; exact List.mem_set (by omega) z); omega
      rw [← hys] at ro
      refine hK16 _ _ ?_
      clear hK16
      have fam2 := fam_perm (fam_join (b1 := B1) (L := [(Value.slice ra bn rc, ys)]) ⟨fun p hp => (by obtain rfl : p = (Value.slice ra bn rc, ys) := (by simpa using hp); rw [show ((Value.slice ra bn rc, ys) : Value × List Int).2.length = bn from hyl]; exact ro), List.pairwise_singleton _ _⟩ fam hflt.out hB1w) (M := Q ++ [(Value.slice ra bn rc, ys)]) List.perm_append_comm
      clear fam ro
      have fam := fam2
      clear fam2
      obtain ⟨P, hP⟩ : ∃ P, P = Q ++ [(Value.slice ra bn rc, ys)] := ⟨_, rfl⟩
      have hPl : Q.length + 1 = P.length := by rw [hP, List.length_append]; rfl
      rw [← hP] at fam
      have hPB : ∀ p ∈ P, (p.2.length : Int) = bn ∧ ∀ m ∈ p.2, 0 ≤ m ∧ m ≤ 3 := by intro p hp; rw [hP] at hp; rcases List.mem_append.1 hp with hp | hp; (· exact hQB p hp); (· simp only [List.mem_cons, List.not_mem_nil, or_false] at hp; subst hp; exact ⟨by show ((ys.length : Nat) : Int) = _; omega, hyb⟩)
      have hPs : ∀ p ∈ P, p.2.sum ≠ 0 := by intro p hp; rw [hP] at hp; rcases List.mem_append.1 hp with hp | hp; (· exact hQs p hp); (· simp only [List.mem_cons, List.not_mem_nil, or_false] at hp; subst hp; exact hysum)
      refine wp_region_lit ?_
      refine F.vl (R_field rfl (F.at rfl) Try.underlying24 rfl (n := 2) (sz := 1) rfl (by kernel_rfl) (by decide)) ?_; clear F fa; intro fa F
      refine F.vl (R_load rfl (F.at rfl) Try.underlying22 rfl ((cells_of_block q5 2).trans (getS (getS (get0))))) ?_; clear F fa; intro fa F
      refine F.mv ?_; clear F fa; intro fa F
      refine sq_new F rfl (by decide) rfl (R_buildSliceV rfl (prS (F.at rfl) pr0) Try.underlying22 (size := 1) (by kernel_rfl) (by decide) (by decide) Try.zeroValue25 (cells := #[.slice ra bn rc]) (by kernel_rfl)) ?_; clear F fa; intro fa w21 F hw
      obtain ⟨n62, hn⟩ : ∃ n, n = w20.heap.size := ⟨_, rfl⟩
      rw [← hn] at F
      have s62 : w20.heap.size ≤ n62 := Nat.le_of_eq hn.symm
      have l62_E : w.heap.size ≤ n62 := by rw [hn]; exact E.size
      have l62_EL : wL.heap.size ≤ n62 := by rw [hn]; exact EL.size
      have b62_HL := Nat.lt_of_lt_of_eq (lots_lt HL) hn.symm
      have m62_4 : n4 < n62 := by rw [hn]; exact blk_lt q4
      have m62_5 : n5 < n62 := by rw [hn]; exact blk_lt q5
      have o62_oo := Lib.hid (own_ne_new oo hn)
      replace oo := owns_alloc hw oo
      replace fam := fam_lift fam fun _ _ _ h => owns_alloc hw h
      replace q4 := keep_alloc hw q4
      replace q5 := keep_alloc hw q5
      replace E := ext_alloc E hw
      replace EL := ext_alloc EL hw
      replace HL := lots_alloc hw HL
      have q62 := new_block hw hn
      clear hw hn
      have hEs := EL.size
      refine sq_some F rfl (by decide) rfl (append_run rfl (wL.heap.size) (e := 25) (size := 1) (bytes := 24) Try.underlying22 (by kernel_rfl) (by decide) (F.at rfl) oo (F.at rfl) q62 rfl (by simp [Value.oneCell']) (by omega) (by omega) (by omega)) ?_; clear F fa; rintro fa v' w22 F ⟨hown', hg⟩
      obtain ⟨va63, vc63, rfl⟩ := owns_slice hown'
      replace q4 := keep_type oo hg q4 (by decide)
      replace q5 := keep_type oo hg q5 (by decide)
      replace HL := lots_append HL oo hg (by omega) (by decide)
      replace fam := fam_lift fam fun _ _ _ h => owns_other h oo hg (by decide)
      replace E := ext_appendX E oo hg (by omega)
      replace EL := ext_appendX EL oo hg (by omega)
      replace oo := hown'
      clear hg
      rw [show Q.map (·.1) ++ [Value.slice ra bn rc] = P.map (·.1) by rw [hP, List.map_append]; rfl, hPl] at oo
      rw [hPl] at F
      replace hQB := hPB
      replace hQs := hPs
      replace hQl : P.length = j + 1 := by omega
      refine F.vl (R_field rfl (F.at rfl) Try.underlying24 rfl (n := 2) (sz := 1) rfl (by kernel_rfl) (by decide)) ?_; clear F fa; intro fa F
      refine sq_to rfl rfl (R_store rfl (F.at rfl) (F.at rfl) rfl (by kernel_rfl) ((cells_of_block q5 2).trans (getS (getS (get0)))) (free_of_block q5 2)) ?_; intro w23 hw
      replace oo := owns_cellX hw oo (own_ne_type oo q5 (by decide))
      replace fam := fam_lift fam fun _ _ _ h => owns_cellX hw h (own_ne_type h q5 (by decide))
      replace q4 := keep_cell hw q4 (by omega)
      replace q5 := put_cell hw q5 (by simp only [List.setIfInBounds_toArray, List.set_cons_succ, List.set_cons_zero]; exact rfl)
      replace E := ext_cell E hw (fun h => by first | exact absurd h (by omega) | simp)
      replace EL := ext_cell EL hw (fun h => by first | exact absurd h (by omega) | simp)
      replace HL := lots_cell hw HL (by omega) (by omega)
      clear hw
      refine wpList_nil ?_
      refine hK14 _ _ ?_
      clear hK14
      refine wp_region_lit ?_
      refine F.mv ?_; clear F fa; intro fa F
      refine F.vl (R_sub rfl (F.at rfl) (ev_c fa _) (by omega) (by omega)) ?_; clear F fa; intro fa F
      rw [show m - ((j : Nat) : Int) - 1 = m - ((j + 1 : Nat) : Int) by omega] at F
      refine F.as ?_; clear F fa; intro fa F
      refine wpList_nil ?_
      replace HL : LotsOk w0 w23 b (k + 5 + 10 * dm + 10 * (j + 1)) nv := lots_mono HL (by omega)
      show _ ∧ _
      exact ⟨by omega, _, ⟨_, _, _, rfl, E, EL, q4, q5, HL, oo, fam, hQB, hQs, hQl, (by omega)⟩, F.sub (.c 8 rfl (.c 0 rfl (.c 4 rfl (.c 5 rfl .n))))⟩
    · skip
      refine wp_exit ?_
      refine hK10 _ _ ?_
      clear hK10
      refine wp_seq_k fun K18 hK18 => ?_
      refine wp_region_lit ?_
      refine F.vl (R_loadBlk rfl (F.at rfl) Try.underlying24 rfl (by kernel_rfl) q5) ?_; clear F fa; intro fa F
      refine sq_to rfl rfl (R_storeRow rfl (F.at rfl) (F.at rfl) (by kernel_rfl) (by first | (simp [Value.oneCell']; done) | (simp [Value.oneCell', id]; done)) q4 rfl) ?_; intro w24 hw
      replace oo := owns_cellsX hw oo (own_ne_type oo q4 (by decide))
      replace fam := fam_lift fam fun _ _ _ h => owns_cellsX hw h (own_ne_type h q4 (by decide))
      replace q4 := put_row hw q4 rfl
      replace q5 := keep_cells hw q5 (by omega)
      replace E := ext_cells E hw (fun h => by first | exact absurd h (by omega) | simp)
      replace EL := ext_cells EL hw (fun h => by first | exact absurd h (by omega) | simp)
      replace HL := lots_cells hw HL (by omega) (by omega)
      clear hw
      refine wpList_nil ?_
      refine hK18 _ _ ?_
      clear hK18
      refine wp_ret ?_
      (try simp only [Exit.inBlock, Exit.then, reduceIte])
      refine rt_v F (rs_c F rfl rfl Try.underlying24 rfl (by kernel_rfl) q4) ?_
      have hbL : b < wL.heap.size := by omega
      refine ⟨{ B := ((bn : Nat) : Int), D := O, da := da, dc := dc, L := Q, la := la, lc := lc, tol := tl }, rfl, vok_of (by simp only; omega) (by simp only; omega) (by simp only; omega) (by simp only; omega) hOB hnd (by simp only; omega) (by simp only; omega) hQB hQs (by simp only; omega) (by simp only; omega), ⟨hOd, hdcap⟩, fun W e => ⟨HDl.out W (EL.trans (e.mono (by simp))), lol_ext oo fam e hbL hbL⟩, lots_mono HL (by omega), E⟩
end Go.Proofs.Ytdjeecgddbjbeaa
