/- The law MeasureNext: no tailor is better. No conditions. -/
import Derived.Test.YtholfdgebdlgjaaVf
namespace Go.Proofs.Ytholfdgebdlgjaa
open Go.RowKit
set_option linter.unusedVariables false
set_option linter.unusedSimpArgs false
/-- The most numbers that are left, over some tapes. -/
def mx (g : Int → Option Int) : Nat → Int → Int → Int
  | 0, _, m => m
  | n + 1, tape, m => mx g n (tape + 1) (match g tape with | some k => max m k | none => m)
theorem mx_ge (g : Int → Option Int) : ∀ (n : Nat) (tape m : Int), m ≤ mx g n tape m
  | 0, _, _ => Int.le_refl _
  | n + 1, tape, m => by
    rw [mx]
    refine Int.le_trans ?_ (mx_ge g n (tape + 1) _)
    split <;> omega
theorem mx_add (g : Int → Option Int) : ∀ (a b : Nat) (tape m : Int), mx g (a + b) tape m = mx g b (tape + a) (mx g a tape m)
  | 0, b, tape, m => by simp [mx]
  | a + 1, b, tape, m => by
    rw [show a + 1 + b = (a + b) + 1 by omega, mx, mx, mx_add g a b]
    congr 1
    omega
theorem mx_none (g : Int → Option Int) : ∀ (n : Nat) (tape m : Int), (∀ j : Int, tape ≤ j → j < tape + n → g j = none) → mx g n tape m = m
  | 0, _, _, _ => rfl
  | n + 1, tape, m, h => by
    rw [mx, h tape (by omega) (by omega)]
    exact mx_none g n (tape + 1) m fun j h1 h2 => h j (by omega) (by omega)
theorem mx_hit (g : Int → Option Int) : ∀ (n : Nat) (tape m j k : Int), tape ≤ j → j < tape + n → g j = some k → k ≤ mx g n tape m
  | 0, _, _, _, _, h1, h2, _ => by omega
  | n + 1, tape, m, j, k, h1, h2, h => by
    rw [mx]
    by_cases e : j = tape
    · subst e
      rw [h]
      refine Int.le_trans ?_ (mx_ge g n _ _)
      simp only
      omega
    · exact mx_hit g n (tape + 1) _ j k (by omega) (by omega) h
theorem mx_last (g : Int → Option Int) (n : Nat) (tape m : Int) : mx g (n + 1) tape m = match g (tape + n) with | some k => max (mx g n tape m) k | none => mx g n tape m := by
  rw [mx_add g n 1]
  rfl
/-- What is left after a reading, if it can be. -/
def gOf (t : Tp) (s a i : Int) (tape : Int) : Option Int := if bdB (addR t (s, a, i, tape)) 0 = true then some (numB (addR t (s, a, i, tape)) (nodeC s a)) else none
theorem nxt1_mx (t : Tp) (s a : Int) (i : Nat) (left : Int) : ∀ (n : Nat) (tape m : Int), m < left → nxt1 t s a i left n tape m = if left ≤ mx (gOf t s a i) n tape m then none else some (mx (gOf t s a i) n tape m)
  | 0, tape, m, h => by rw [nxt1, mx, if_neg (by omega)]
  | n + 1, tape, m, h => by
    rw [nxt1, mx]
    unfold gOf
    by_cases hb : bdB (addR t (s, a, i, tape)) 0 = true
    · rw [if_pos hb, if_pos hb]
      simp only
      by_cases hl : left ≤ max m (numB (addR t (s, a, i, tape)) (nodeC s a))
      · rw [if_pos hl, if_pos (Int.le_trans hl (mx_ge _ n _ _))]
      · rw [if_neg hl, nxt1_mx t s a i left n _ _ (by omega)]
        rfl
    · rw [if_neg hb, if_neg hb]
      exact nxt1_mx t s a i left n _ _ h
/-- The most numbers that are left, whatever is read. -/
def wrs (t : Tp) (s a i : Int) (n : Nat) : Int := mx (gOf t s a i) n (t.bl - 14) 0
theorem wrs_yes {t : Tp} {s a i : Int} {n : Nat} (h : bdB (addR t (s, a, i, t.bl - 14 + n)) 0 = true) : wrs t s a i (n + 1) = max (wrs t s a i n) (numB (addR t (s, a, i, t.bl - 14 + n)) (nodeC s a)) := by
  rw [wrs, mx_last, gOf, if_pos h]
  rfl
theorem wrs_no {t : Tp} {s a i : Int} {n : Nat} (h : bdB (addR t (s, a, i, t.bl - 14 + n)) 0 = false) : wrs t s a i (n + 1) = wrs t s a i n := by
  rw [wrs, mx_last, gOf, if_neg (by rw [h]; decide)]
  rfl
def wrsN (t : Tp) : Nat := (t.bm - t.bl + 29).toNat
theorem wrs_next {t : Tp} (hL : t.Live) (h7 : t.rd.length ≤ 7) {s a : Int} {i : Nat} (s0 : 0 ≤ s) (s1 : s < t.S) (a0 : 0 ≤ a) (a1 : a < t.A) (i1 : (i : Int) < t.T) :
    wrs t s a i (wrsN t) = mx (gOf t s a i) (nxtHi t s a i - nxtLo t s a i + 1).toNat (nxtLo t s a i) 0 ∧ 1 ≤ wrs t s a i (wrsN t) := by
  have ok := hL.ok
  have lc := live_cellI (t := t) s0 s1 a0 a1
  have lT := live_tailI (t := t) (i := i) (by omega) i1
  obtain ⟨u1, x1, hx1, e1⟩ := hL.top lc lT
  obtain ⟨u2, x2, hx2, e2⟩ := hL.top lT lc
  obtain ⟨sn, rfl⟩ := Int.eq_ofNat_of_zero_le s0
  obtain ⟨an, rfl⟩ := Int.eq_ofNat_of_zero_le a0
  have o1 := ok.pl1
  have o2 := ok.pm1
  have o3 := ok.sl0
  have o4 := ok.sl5
  have o5 := ok.bl1
  have o6 := ok.bm1
  have c1 := (hx1.cell sn an s1 a1).lo
  have c2 := (hx1.tail i i1).hi
  have c3 := (hx2.cell sn an s1 a1).hi
  have c4 := (hx2.tail i i1).lo
  have d1 := u1 _ hx2
  have hlo : nxtLo t sn an i = -(bdV t 0 (nodeC sn an) (nodeT i)) - t.sl := rfl
  have hhi : nxtHi t sn an i = bdV t 0 (nodeT i) (nodeC sn an) + t.sl := rfl
  have hfit : ∀ j : Int, 0 ≤ j → j ≤ 250 → (addR t ((sn : Int), (an : Int), (i : Int), j)).Ok ∧ (addR t ((sn : Int), (an : Int), (i : Int), j)).rd.length ≤ 8 := fun j j0 j1 =>
    addR_fit ok (r := ((sn : Int), (an : Int), (i : Int), j)) ⟨s0, s1, a0, a1, (by show (0 : Int) ≤ (i : Int); omega), i1, j0, j1⟩ h7
  have hg : ∀ j : Int, 0 ≤ j → j ≤ 250 → j < nxtLo t sn an i ∨ nxtHi t sn an i < j → gOf t sn an i j = none := fun j j0 j1 hj => by
    rw [gOf, if_neg]
    intro hb
    obtain ⟨uok, -⟩ := hfit j j0 j1
    obtain ⟨x, hx⟩ := (bdB_iff uok).1 hb
    obtain ⟨h1, h2⟩ := addR_tr.1 hx
    have q1 := h2.lo
    have q2 := h2.hi
    have v1 := u1 _ h1
    have v2 := u2 _ h1
    simp only at q1 q2
    omega
  have hgo : ∃ k, 1 ≤ k ∧ gOf t sn an i (x1 (nodeC sn an) - x1 (nodeT i)) = some k := by
    have v2 := u2 _ hx1
    have c5 := (hx1.cell sn an s1 a1).hi
    have c6 := (hx1.tail i i1).lo
    obtain ⟨uok, u8⟩ := hfit (x1 (nodeC sn an) - x1 (nodeT i)) (by omega) (by omega)
    have hx : Tr (addR t ((sn : Int), (an : Int), (i : Int), x1 (nodeC sn an) - x1 (nodeT i))) 0 x1 := addR_tr.2 ⟨hx1, ⟨by simp only; omega, by simp only; omega⟩⟩
    have hb := (bdB_iff uok).2 ⟨x1, hx⟩
    have U := live_of uok u8 hb
    have l1 : Go.Proofs.Ytholfdgebdlgjaa.live (addR t ((sn : Int), (an : Int), (i : Int), x1 (nodeC sn an) - x1 (nodeT i))) (nodeC sn an) := live_cellI (t := addR t _) s0 s1 a0 a1
    obtain ⟨p1, -⟩ := U.top l1 (live_zero _)
    obtain ⟨p2, -⟩ := U.top (live_zero _) l1
    have := p1 _ hx
    have := p2 _ hx
    refine ⟨numB (addR t ((sn : Int), (an : Int), (i : Int), x1 (nodeC sn an) - x1 (nodeT i))) (nodeC sn an), by unfold numB; omega, ?_⟩
    rw [gOf, if_pos hb]
  have v2 := u2 _ hx1
  have hN : wrsN t = (nxtLo t sn an i - (t.bl - 14)).toNat + ((nxtHi t sn an i - nxtLo t sn an i + 1).toNat + (t.bm + 14 - nxtHi t sn an i).toNat) := by unfold wrsN; omega
  have hq : wrs t sn an i (wrsN t) = mx (gOf t sn an i) (nxtHi t sn an i - nxtLo t sn an i + 1).toNat (nxtLo t sn an i) 0 := by
    rw [wrs, hN, mx_add, mx_none _ _ (t.bl - 14) 0 fun j h1 h2 => hg j (by omega) (by omega) (.inl (by omega)), mx_add, mx_none _ _ _ _ fun j h1 h2 => hg j (by omega) (by omega) (.inr (by omega))]
    congr 1
    omega
  refine ⟨hq, ?_⟩
  obtain ⟨k, k1, hk⟩ := hgo
  rw [hq]
  exact Int.le_trans k1 (mx_hit _ _ _ _ _ _ (by omega) (by omega) hk)
/-- The law's loop and that of the program. -/
theorem nxtTo_step {t : Tp} (hL : t.Live) (h7 : t.rd.length ≤ 7) {s a : Int} {i : Nat} (s0 : 0 ≤ s) (s1 : s < t.S) (a0 : 0 ≤ a) (a1 : a < t.A) (i1 : (i : Int) < t.T) (h1 : 1 ≤ (nxtTo t s a i).2) :
    nxtTo t s a (i + 1) = (if wrs t s a i (wrsN t) < (nxtTo t s a i).2 then ((i : Int), wrs t s a i (wrsN t)) else nxtTo t s a i) ∧ 1 ≤ (nxtTo t s a (i + 1)).2 := by
  obtain ⟨hq, hp⟩ := wrs_next hL h7 s0 s1 a0 a1 i1
  have e : nxtTo t s a (i + 1) = (if wrs t s a i (wrsN t) < (nxtTo t s a i).2 then ((i : Int), wrs t s a i (wrsN t)) else nxtTo t s a i) := by
    rw [nxtTo_succ, nxt1_mx _ _ _ _ _ _ _ _ (by omega), ← hq]
    by_cases h : wrs t s a i (wrsN t) < (nxtTo t s a i).2
    · rw [if_neg (by omega), if_pos h]
      rfl
    · rw [if_pos (by omega), if_neg h]
      rfl
  refine ⟨e, ?_⟩
  rw [e]
  split
  · exact hp
  · exact h1
theorem numB_pos {t : Tp} (hL : t.Live) {s a : Int} (s0 : 0 ≤ s) (s1 : s < t.S) (a0 : 0 ≤ a) (a1 : a < t.A) : 1 ≤ numB t (nodeC s a) ∧ numB t (nodeC s a) = mhi t s a - mlo t s a + 1 := by
  have := mbd hL s0 s1 a0 a1
  have e : numB t (nodeC s a) = mhi t s a - mlo t s a + 1 := by unfold numB mhi mlo; omega
  omega
theorem next_live {t : Tp} (h : t.Live) {s a : Int} (s0 : 0 ≤ s) (s1 : s < t.S) (a0 : 0 ≤ a) (a1 : a < t.A) : ((nxtTo t s a t.T.toNat).1 < 0 → nextE t s a = 11 ∧ nextV t s a = (0, 0)) ∧ (¬ (nxtTo t s a t.T.toNat).1 < 0 → nextE t s a = 0 ∧ nextV t s a = nxtTo t s a t.T.toNat) := by
  obtain ⟨h1, -⟩ := h.meas s0 s1 a0 a1
  have e : nextE t s a = if (nxtTo t s a t.T.toNat).1 < 0 then 11 else 0 := by rw [nextE, if_neg (by rw [h1]; simp)]
  refine ⟨fun hn => ?_, fun hn => ?_⟩
  · rw [if_pos hn] at e
    exact ⟨e, by rw [nextV, if_neg (by omega)]⟩
  · rw [if_neg hn] at e
    exact ⟨e, by rw [nextV, if_pos e]⟩
set_option maxRecDepth 100000 in
theorem worst_any {t : Tp} (hL : t.Live) (h7 : t.rd.length ≤ 7) (s a i : Int) (s0 : 0 ≤ s) (s1 : s < t.S) (a0 : 0 ≤ a) (a1 : a < t.A) (i0 : 0 ≤ i) (i1 : i < t.T) (ga ra la : Option Addr) (gc rc lc : Nat) (w : World)
    (ht : IsTp w (.slice ga t.gr.length gc) (.slice ra t.rd.length rc) (.slice la t.lk.length lc) t) :
    Calls Try.prog 54 #[tpV t (.slice ga t.gr.length gc) (.slice ra t.rd.length rc) (.slice la t.lk.length lc), .int .i64 s, .int .i64 a, .int .i64 i] w fun e w' => e = .returned (.tuple #[.int .i64 (wrs t s a i (wrsN t)), .bool true]) ∧ Ext [] w w' := by
  have E : Ext [] w w := Ext.refl _ _
  have HT := Lib.hid ht
  have ok := hL.ok
  have hbl := ok.bl1
  have hbm := ok.bm1
  have hbb := ok.b
  clear ht
  unfold tpV
  refine calls_has 71 Try.func54 rfl Try.ntmps54 (Nat.le_of_ble_eq_true rfl) ?_
  intro fa F
  refine wp_seq_k fun K1 hK1 => ?_
  refine wp_region_lit ?_
  refine sq_new F rfl (by decide) rfl (R_box rfl (F.at rfl)) ?_; clear F fa; intro fa w1 F hw
  obtain ⟨n4, hn⟩ : ∃ n, n = w.heap.size := ⟨_, rfl⟩
  rw [← hn] at F
  have s4 : w.heap.size ≤ n4 := Nat.le_of_eq hn.symm
  have l4_E : w.heap.size ≤ n4 := by rw [hn]; exact E.size
  replace E := ext_alloc E hw
  have q4 := new_row hw hn
  clear hw hn
  refine F.vl (R_assign rfl (ev_c fa _)) ?_; clear F fa; intro fa F
  refine F.vl (R_assign rfl (ev_c fa _)) ?_; clear F fa; intro fa F
  refine wpList_nil ?_
  refine hK1 _ _ ?_
  clear hK1
  refine wp_seq_k fun K2 hK2 => ?_
  refine wp_region_lit ?_
  refine F.vl (R_assign rfl (ev_c fa _)) ?_; clear F fa; intro fa F
  refine wpList_nil ?_
  refine hK2 _ _ ?_
  clear hK2
  refine wp_seq_k fun K3 hK3 => ?_
  refine wp_seq_k fun K4 hK4 => ?_
  refine wp_region_lit ?_
  refine F.vl (R_field rfl (F.at rfl) Try.underlying28 rfl (n := 3) (sz := 2) rfl (by kernel_rfl) (by decide)) ?_; clear F fa; intro fa F
  refine F.vl (R_field rfl (F.at rfl) Try.underlying23 rfl (n := 3) (sz := 1) rfl (by kernel_rfl) (by decide)) ?_; clear F fa; intro fa F
  refine F.vl (R_load rfl (F.at rfl) Try.underlying3 rfl ((cells_of_block q4 3).trans (getS (getS (getS (get0)))))) ?_; clear F fa; intro fa F
  refine F.vl (R_sub rfl (F.at rfl) (ev_c fa _) (by omega) (by omega)) ?_; clear F fa; intro fa F
  refine F.vl (R_sub rfl (F.at rfl) (ev_c fa _) (by omega) (by omega)) ?_; clear F fa; intro fa F
  rw [show t.bl - 9 - 5 = t.bl - 14 + ((0 : Nat) : Int) by omega] at F
  refine F.as ?_; clear F fa; intro fa F
  refine wpList_nil ?_
  refine hK4 _ _ ?_
  clear hK4
  refine wp_block ?_
  have F0 := F.sub (.c 1 rfl (.c 2 rfl (.c 3 rfl (.c 4 rfl .n))))
  refine lp_for F0 (wrsN t) (fun k Lv W => Lv = [(10, .int .i64 (wrs t s a i k)), (11, .int .i64 (t.bl - 14 + ((k : Nat) : Int)))] ∧ Ext [] w1 W ∧ True) ⟨_, ⟨rfl, Ext.refl _ _, trivial⟩, F.sub (.c 10 rfl (.c 11 rfl (.c 1 rfl (.c 2 rfl (.c 3 rfl (.c 4 rfl .n))))))⟩ ?_
  clear F F0
  rintro k _ fa w2 hi1 ⟨rfl, EL1, hx⟩ F
  have q4 := EL1.keep0 q4
  have E := E.nil EL1
  have hkN : (k : Int) ≤ t.bm - t.bl + 29 := by have : wrsN t = (t.bm - t.bl + 29).toNat := rfl; omega
  refine wp_seq_k fun K5 hK5 => ?_
  refine wp_seq_k fun K6 hK6 => ?_
  refine wp_region_lit ?_
  refine F.mv ?_; clear F fa; intro fa F
  refine F.vl (R_field rfl (F.at rfl) Try.underlying28 rfl (n := 3) (sz := 2) rfl (by kernel_rfl) (by decide)) ?_; clear F fa; intro fa F
  refine F.vl (R_field rfl (F.at rfl) Try.underlying23 rfl (n := 4) (sz := 1) rfl (by kernel_rfl) (by decide)) ?_; clear F fa; intro fa F
  refine F.vl (R_load rfl (F.at rfl) Try.underlying3 rfl ((cells_of_block q4 4).trans (getS (getS (getS (getS (get0))))))) ?_; clear F fa; intro fa F
  refine F.vl (R_add rfl (F.at rfl) (ev_c fa _) (by omega) (by omega)) ?_; clear F fa; intro fa F
  refine F.vl (R_add rfl (F.at rfl) (ev_c fa _) (by omega) (by omega)) ?_; clear F fa; intro fa F
  refine F.vl (R_leq rfl (F.at rfl) (F.at rfl)) ?_; clear F fa; intro fa F
  refine wpList_nil ?_
  refine hK6 _ _ ?_
  clear hK6
  refine cd_if F rfl (fun hc28 => ?_) (fun hc28 => ?_)
  · skip
    refine wp_skip ?_
    refine hK5 _ _ ?_
    clear hK5
    refine wp_seq_k fun K7 hK7 => ?_
    refine wp_block ?_
    refine wp_seq_k fun K8 hK8 => ?_
    refine wp_region_lit ?_
    refine F.vl (R_loadBlk rfl (F.at rfl) Try.underlying28 rfl (by kernel_rfl) q4) ?_; clear F fa; intro fa F
    refine sq_new F rfl (by decide) rfl (R_alloc rfl Try.zeroValue28) ?_; clear F fa; intro fa w3 F hw
    obtain ⟨n12, hn⟩ : ∃ n, n = w2.heap.size := ⟨_, rfl⟩
    rw [← hn] at F
    have s12 : w2.heap.size ≤ n12 := Nat.le_of_eq hn.symm
    have l12_E : w.heap.size ≤ n12 := by rw [hn]; exact E.size
    have l12_EL1 : w1.heap.size ≤ n12 := by rw [hn]; exact EL1.size
    have m12_4 : n4 < n12 := by rw [hn]; exact blk_lt q4
    replace q4 := keep_alloc hw q4
    replace E := ext_alloc E hw
    replace EL1 := ext_alloc EL1 hw
    have q12 := new_row hw hn
    clear hw hn
    refine sq_to rfl rfl (R_storeRow rfl (F.at rfl) (F.at rfl) (by kernel_rfl) (by first | (simp [Value.oneCell']; done) | (simp [Value.oneCell', grRow, rdRow, lkRow]; done)) q12 rfl) ?_; intro w4 hw
    replace q4 := keep_cells hw q4 (by omega)
    replace q12 := put_row hw q12 rfl
    replace E := ext_cells E hw (fun h => by first | exact absurd h (by omega) | simp)
    replace EL1 := ext_cells EL1 hw (fun h => by first | exact absurd h (by omega) | simp)
    clear hw
    refine wpList_nil ?_
    refine hK8 _ _ ?_
    clear hK8
    refine wp_seq_k fun K9 hK9 => ?_
    refine wp_region_lit ?_
    refine sq_new F rfl (by decide) rfl (R_buildSlice0 rfl Try.underlying25 (size := 4) (by kernel_rfl)) ?_; clear F fa; intro fa w5 F hw
    obtain ⟨n32, hn⟩ : ∃ n, n = w4.heap.size := ⟨_, rfl⟩
    rw [← hn] at F
    have s32 : w4.heap.size ≤ n32 := Nat.le_of_eq hn.symm
    have l32_E : w.heap.size ≤ n32 := by rw [hn]; exact E.size
    have l32_EL1 : w1.heap.size ≤ n32 := by rw [hn]; exact EL1.size
    have m32_4 : n4 < n32 := by rw [hn]; exact blk_lt q4
    have m32_12 : n12 < n32 := by rw [hn]; exact blk_lt q12
    replace q4 := keep_alloc hw q4
    replace q12 := keep_alloc hw q12
    replace E := ext_alloc E hw
    replace EL1 := ext_alloc EL1 hw
    have q32 := new_block hw hn
    clear hw hn
    refine F.vl (R_field rfl (F.at rfl) Try.underlying28 rfl (n := 9) (sz := 1) rfl (by kernel_rfl) (by decide)) ?_; clear F fa; intro fa F
    refine F.vl (R_load rfl (F.at rfl) Try.underlying25 rfl ((cells_of_block q4 9).trans (getS (getS (getS (getS (getS (getS (getS (getS (getS (get0)))))))))))) ?_; clear F fa; intro fa F
    have hq32 := blk_lt q32
    have ho := owns_empty (base := n32) (size := 4) q32 (by omega)
    have hbl := blk_lt q32
    clear q32
    refine sq_some F rfl (by decide) rfl (appends_run rfl (n32) (e := 66) (size := 4) (bytes := 32) Try.underlying25 (by kernel_rfl) (by decide) (F.at rfl) ho (F.at rfl) (srcAt_of_rows (HT.out.ext E (by simp)).rd (by decide) (fun _ => rfl) rd_one) (by omega) (by omega) (by omega)) ?_; clear F fa; rintro fa v' w6 F ⟨hown', hg⟩
    rw [Nat.zero_add, List.nil_append] at hown'
    clear hbl
    obtain ⟨va35, vc35, rfl⟩ := owns_slice hown'
    have hgs := hg.size
    replace q4 := keep_type ho hg q4 (by decide)
    replace q12 := keep_type ho hg q12 (by decide)
    replace E := ext_appendX E ho hg (by omega)
    replace EL1 := ext_appendX EL1 ho hg (by omega)
    replace ho := hown'
    clear hg
    have EW : Ext [] w6 w6 := Ext.refl _ _
    refine F.mv ?_; clear F fa; intro fa F
    refine F.mv ?_; clear F fa; intro fa F
    refine F.mv ?_; clear F fa; intro fa F
    refine F.mv ?_; clear F fa; intro fa F
    refine sq_call F rfl (by decide) rfl (R_callV rfl rfl Try.call58 (mpS (F.at rfl) (mpS (F.at rfl) (mpS (F.at rfl) (mpS (F.at rfl) mp0))))) (reading_any _ _ _ _ _) fun e w7 hR => ?_
    obtain ⟨rfl, e9⟩ := hR
    refine ⟨_, rfl, ?_⟩; clear F fa; intro fa F
    replace ho := owns_ext ho (e9) (by simp)
    replace q4 := (e9).keep0 q4
    replace q12 := (e9).keep0 q12
    replace E := ext_same E (e9)
    replace EL1 := ext_same EL1 (e9)
    replace EW := ext_same EW (e9)
    clear e9
    refine sq_new F rfl (by decide) rfl (R_buildSliceV rfl (prS (F.at rfl) pr0) Try.underlying25 (size := 4) (by kernel_rfl) (by decide) (by decide) Try.zeroValue66 (cells := #[.int .i64 s, .int .i64 a, .int .i64 i, .int .i64 (t.bl - 14 + ((k : Nat) : Int))]) (by kernel_rfl)) ?_; clear F fa; intro fa w8 F hw
    obtain ⟨n41, hn⟩ : ∃ n, n = w7.heap.size := ⟨_, rfl⟩
    rw [← hn] at F
    have s41 : w7.heap.size ≤ n41 := Nat.le_of_eq hn.symm
    have l41_E : w.heap.size ≤ n41 := by rw [hn]; exact E.size
    have l41_EL1 : w1.heap.size ≤ n41 := by rw [hn]; exact EL1.size
    have l41_EW : w6.heap.size ≤ n41 := by rw [hn]; exact EW.size
    have m41_4 : n4 < n41 := by rw [hn]; exact blk_lt q4
    have m41_12 : n12 < n41 := by rw [hn]; exact blk_lt q12
    have o41_ho := Lib.hid (own_ne_new ho hn)
    replace ho := owns_alloc hw ho
    replace q4 := keep_alloc hw q4
    replace q12 := keep_alloc hw q12
    replace E := ext_alloc E hw
    replace EL1 := ext_alloc EL1 hw
    replace EW := ext_alloc EW hw
    have q41 := new_block hw hn
    clear hw hn
    have hEs := EW.size
    clear EW
    refine sq_some F rfl (by decide) rfl (append_run rfl (n32) (e := 66) (size := 4) (bytes := 32) Try.underlying25 (by kernel_rfl) (by decide) (F.at rfl) ho (F.at rfl) q41 rfl (by simp [Value.oneCell']) (by omega) (by omega) (by omega)) ?_; clear F fa; rintro fa v' w9 F ⟨hown', hg⟩
    obtain ⟨va42, vc42, rfl⟩ := owns_slice hown'
    replace q4 := keep_type ho hg q4 (by decide)
    replace q12 := keep_type ho hg q12 (by decide)
    replace E := ext_appendX E ho hg (by omega)
    replace EL1 := ext_appendX EL1 ho hg (by omega)
    replace ho := hown'
    clear hg
    refine F.vl (R_field rfl (F.at rfl) Try.underlying28 rfl (n := 9) (sz := 1) rfl (by kernel_rfl) (by decide)) ?_; clear F fa; intro fa F
    refine sq_to rfl rfl (R_store rfl (F.at rfl) (F.at rfl) rfl (by kernel_rfl) ((cells_of_block q12 9).trans (getS (getS (getS (getS (getS (getS (getS (getS (getS (get0))))))))))) (free_of_block q12 9)) ?_; intro w10 hw
    replace ho := owns_cellX hw ho (own_ne_type ho q12 (by decide))
    replace q4 := keep_cell hw q4 (by omega)
    replace q12 := put_cell hw q12 (by simp only [List.setIfInBounds_toArray, List.set_cons_succ, List.set_cons_zero]; exact rfl)
    replace E := ext_cell E hw (fun h => by first | exact absurd h (by omega) | simp)
    replace EL1 := ext_cell EL1 hw (fun h => by first | exact absurd h (by omega) | simp)
    clear hw
    refine wpList_nil ?_
    obtain ⟨hok2, h82⟩ := addR_fit ok (r := (s, a, i, t.bl - 14 + ((k : Nat) : Int))) ⟨s0, s1, a0, a1, i0, i1, (by show (0 : Int) ≤ t.bl - 14 + ((k : Nat) : Int); omega), (by show t.bl - 14 + ((k : Nat) : Int) ≤ 250; omega)⟩ h7
    have HD := Lib.hid (show IsTp w10 (.slice ga t.gr.length gc) (.slice va42 (t.rd.length + 1) vc42) (.slice la t.lk.length lc) (addR t (s, a, i, t.bl - 14 + ((k : Nat) : Int))) from ⟨(HT.out.ext E (by simp)).gr, own_addR ho, (HT.out.ext E (by simp)).lk⟩)
    clear ho
    have ED : Ext [] w10 w10 := Ext.refl _ _
    refine hK9 _ _ ?_
    clear hK9
    refine wp_seq_k fun K10 hK10 => ?_
    refine wp_region_lit ?_
    refine F.vl (R_loadBlk rfl (F.at rfl) Try.underlying28 rfl (by kernel_rfl) q12) ?_; clear F fa; intro fa F
    refine sq_call F rfl (by decide) rfl (R_callV rfl rfl Try.call29 (mpS (F.at rfl) mp0)) (can_ok hok2 h82 (HD.out.ext ED (by simp))) fun e w11 hR => ?_
    obtain ⟨rfl, e9⟩ := hR
    refine ⟨_, rfl, ?_⟩; clear F fa; intro fa F
    replace q4 := (e9).keep0 q4
    replace q12 := (e9).keep0 q12
    replace E := ext_same E (e9)
    replace EL1 := ext_same EL1 (e9)
    replace ED := ext_same ED (e9)
    clear e9
    refine F.mv ?_; clear F fa; intro fa F
    refine F.vl (R_extract rfl (F.at rfl) (get0)) ?_; clear F fa; intro fa F
    refine F.vl (R_extract rfl (F.at rfl) (getS (get0))) ?_; clear F fa; intro fa F
    refine F.as ?_; clear F fa; intro fa F
    refine F.as ?_; clear F fa; intro fa F
    refine wpList_nil ?_
    refine hK10 _ _ ?_
    clear hK10
    refine wp_seq_k fun K11 hK11 => ?_
    refine wp_seq_k fun K12 hK12 => ?_
    refine wp_region_lit ?_
    refine F.mv ?_; clear F fa; intro fa F
    refine F.vl (R_neqB (b := false) rfl (F.at rfl) (ev_c fa _) (by decide)) ?_; clear F fa; intro fa F
    refine wpList_nil ?_
    refine hK12 _ _ ?_
    clear hK12
    refine cd_F F rfl ?_
    refine wp_skip ?_
    refine hK11 _ _ ?_
    clear hK11
    refine wp_seq_k fun K13 hK13 => ?_
    refine wp_seq_k fun K14 hK14 => ?_
    refine wp_region_lit ?_
    refine F.mv ?_; clear F fa; intro fa F
    refine F.vl (R_not rfl (F.at rfl)) ?_; clear F fa; intro fa F
    refine wpList_nil ?_
    refine hK14 _ _ ?_
    clear hK14
    refine cd_b F rfl (fun hc52 => ?_) (fun hc52 => ?_)
    · skip
      have hnb : bdB (addR t (s, a, i, t.bl - 14 + ((k : Nat) : Int))) 0 = false := by simpa using hc52
      replace F := F.re (k := 10) rfl (show Value.int .i64 (wrs t s a i k) = Value.int .i64 (wrs t s a i (k + 1)) by rw [wrs_no hnb])
      refine wp_exit ?_
      refine hK7 _ _ ?_
      clear hK7
      refine wp_region_lit ?_
      refine F.mv ?_; clear F fa; intro fa F
      refine F.vl (R_add rfl (F.at rfl) (ev_c fa _) (by omega) (by omega)) ?_; clear F fa; intro fa F
      rw [show t.bl - 14 + ((k : Nat) : Int) + 1 = t.bl - 14 + ((k + 1 : Nat) : Int) by omega] at F
      refine F.as ?_; clear F fa; intro fa F
      refine wpList_nil ?_
      show _ ∧ _
      exact ⟨by unfold wrsN; omega, _, ⟨rfl, EL1, trivial⟩, F.sub (.c 10 rfl (.c 11 rfl (.c 1 rfl (.c 2 rfl (.c 3 rfl (.c 4 rfl .n))))))⟩
    · skip
      have hyb : bdB (addR t (s, a, i, t.bl - 14 + ((k : Nat) : Int))) 0 = true := by simpa using hc52
      have hLx := live_of hok2 h82 hyb
      refine wp_skip ?_
      refine hK13 _ _ ?_
      clear hK13
      refine wp_seq_k fun K15 hK15 => ?_
      refine wp_region_lit ?_
      refine F.vl (R_loadBlk rfl (F.at rfl) Try.underlying28 rfl (by kernel_rfl) q12) ?_; clear F fa; intro fa F
      refine F.mv ?_; clear F fa; intro fa F
      refine F.mv ?_; clear F fa; intro fa F
      refine sq_call F rfl (by decide) rfl (R_callV rfl rfl Try.call33 (mpS (F.at rfl) (mpS (F.at rfl) (mpS (F.at rfl) mp0)))) (meas_live hLx (HD.out.ext ED (by simp)) s0 s1 a0 a1) fun e w12 hR => ?_
      obtain ⟨rfl, e9⟩ := hR
      refine ⟨_, rfl, ?_⟩; clear F fa; intro fa F
      replace q4 := (e9).keep0 q4
      replace q12 := (e9).keep0 q12
      replace E := ext_same E (e9)
      replace EL1 := ext_same EL1 (e9)
      replace ED := ext_same ED (e9)
      clear e9
      refine F.mv ?_; clear F fa; intro fa F
      refine F.vl (R_extract rfl (F.at rfl) (get0)) ?_; clear F fa; intro fa F
      refine F.vl (R_extract rfl (F.at rfl) (getS (get0))) ?_; clear F fa; intro fa F
      refine sq_new F rfl (by decide) rfl (R_alloc rfl Try.zeroValue23) ?_; clear F fa; intro fa w13 F hw
      obtain ⟨n15, hn⟩ : ∃ n, n = w12.heap.size := ⟨_, rfl⟩
      rw [← hn] at F
      have s15 : w12.heap.size ≤ n15 := Nat.le_of_eq hn.symm
      have l15_E : w.heap.size ≤ n15 := by rw [hn]; exact E.size
      have l15_EL1 : w1.heap.size ≤ n15 := by rw [hn]; exact EL1.size
      have l15_ED : w10.heap.size ≤ n15 := by rw [hn]; exact ED.size
      have m15_4 : n4 < n15 := by rw [hn]; exact blk_lt q4
      have m15_12 : n12 < n15 := by rw [hn]; exact blk_lt q12
      replace q4 := keep_alloc hw q4
      replace q12 := keep_alloc hw q12
      replace E := ext_alloc E hw
      replace EL1 := ext_alloc EL1 hw
      replace ED := ext_alloc ED hw
      have q15 := new_row hw hn
      clear hw hn
      refine sq_to rfl rfl (R_storeRow rfl (F.at rfl) (F.at rfl) (by kernel_rfl) (by first | (simp [Value.oneCell']; done) | (simp [Value.oneCell', grRow, rdRow, lkRow]; done)) q15 rfl) ?_; intro w14 hw
      replace q4 := keep_cells hw q4 (by omega)
      replace q12 := keep_cells hw q12 (by omega)
      replace q15 := put_row hw q15 rfl
      replace E := ext_cells E hw (fun h => by first | exact absurd h (by omega) | simp)
      replace EL1 := ext_cells EL1 hw (fun h => by first | exact absurd h (by omega) | simp)
      replace ED := ext_cells ED hw (fun h => by first | exact absurd h (by omega) | simp)
      clear hw
      refine F.as ?_; clear F fa; intro fa F
      refine wpList_nil ?_
      refine hK15 _ _ ?_
      clear hK15
      refine wp_seq_k fun K16 hK16 => ?_
      refine wp_seq_k fun K17 hK17 => ?_
      refine wp_region_lit ?_
      refine F.mv ?_; clear F fa; intro fa F
      refine F.vl (R_neqB (b := false) rfl (F.at rfl) (ev_c fa _) (by decide)) ?_; clear F fa; intro fa F
      refine wpList_nil ?_
      refine hK17 _ _ ?_
      clear hK17
      refine cd_F F rfl ?_
      refine wp_skip ?_
      refine hK16 _ _ ?_
      clear hK16
      have hmb := mbd hLx s0 s1 a0 a1
      refine wp_region_lit ?_
      refine F.mv ?_; clear F fa; intro fa F
      refine F.vl (R_field rfl (F.at rfl) Try.underlying23 rfl (n := 1) (sz := 1) rfl (by kernel_rfl) (by decide)) ?_; clear F fa; intro fa F
      refine F.vl (R_load rfl (F.at rfl) Try.underlying3 rfl ((cells_of_block q15 1).trans (getS (get0)))) ?_; clear F fa; intro fa F
      refine F.vl (R_field rfl (F.at rfl) Try.underlying23 rfl (n := 0) (sz := 1) rfl (by kernel_rfl) (by decide)) ?_; clear F fa; intro fa F
      refine F.vl (R_load rfl (F.at rfl) Try.underlying3 rfl ((cells_of_block q15 0).trans (get0))) ?_; clear F fa; intro fa F
      refine F.vl (R_sub rfl (F.at rfl) (F.at rfl) (by omega) (by omega)) ?_; clear F fa; intro fa F
      refine F.vl (R_add rfl (F.at rfl) (ev_c fa _) (by omega) (by omega)) ?_; clear F fa; intro fa F
      refine F.vl (R_max rfl rfl (F.at rfl) (F.at rfl)) ?_; clear F fa; intro fa F
      rw [show max (wrs t s a i k) (mhi (addR t (s, a, i, t.bl - 14 + ((k : Nat) : Int))) s a - mlo (addR t (s, a, i, t.bl - 14 + ((k : Nat) : Int))) s a + 1) = wrs t s a i (k + 1) by rw [wrs_yes hyb, (numB_pos hLx s0 s1 a0 a1).2]] at F
      refine F.as ?_; clear F fa; intro fa F
      refine wpList_nil ?_
      refine hK7 _ _ ?_
      clear hK7
      replace F := F.sub (.c 1 rfl (.c 2 rfl (.c 3 rfl (.c 4 rfl (.c 10 rfl (.c 11 rfl .n))))))
      clear q12 q15
      refine wp_region_lit ?_
      refine F.mv ?_; clear F fa; intro fa F
      refine F.vl (R_add rfl (F.at rfl) (ev_c fa _) (by omega) (by omega)) ?_; clear F fa; intro fa F
      rw [show t.bl - 14 + ((k : Nat) : Int) + 1 = t.bl - 14 + ((k + 1 : Nat) : Int) by omega] at F
      refine F.as ?_; clear F fa; intro fa F
      refine wpList_nil ?_
      show _ ∧ _
      exact ⟨by unfold wrsN; omega, _, ⟨rfl, EL1, trivial⟩, F.sub (.c 10 rfl (.c 11 rfl (.c 1 rfl (.c 2 rfl (.c 3 rfl (.c 4 rfl .n))))))⟩
  · skip
    refine wp_exit ?_
    obtain rfl : k = wrsN t := by have : wrsN t = (t.bm - t.bl + 29).toNat := rfl; omega
    refine hK3 _ _ ?_
    clear hK3
    refine wp_seq_k fun K18 hK18 => ?_
    refine wp_region_lit ?_
    refine F.mv ?_; clear F fa; intro fa F
    refine F.as ?_; clear F fa; intro fa F
    refine F.vl (R_assign rfl (ev_c fa _)) ?_; clear F fa; intro fa F
    refine wpList_nil ?_
    refine hK18 _ _ ?_
    clear hK18
    refine wp_ret ?_
    (try simp only [Exit.inBlock, Exit.then])
    refine rt_v F (rs_2 F rfl rfl rfl) ?_
    exact ⟨rfl, E⟩
set_option maxRecDepth 100000 in
set_option maxHeartbeats 1000000 in
theorem next_walk (a0 : Option Addr) (len0 cap0 : Nat) (z0 : List Int) (w : World) (h0 : IsRow .i64 w a0 len0 cap0 z0) :
    Calls Try.prog 9 #[.slice a0 len0 cap0] w fun e w' => e = .returned (.bool true) ∧ Ext [] w w' := by
  have HN := Lib.hid (newLots_any w a0 len0 cap0 z0 h0)
  clear h0
  have E : Ext [] w w := Ext.refl _ _
  refine calls_has 114 Try.func9 rfl Try.ntmps9 (Nat.le_of_ble_eq_true rfl) ?_
  intro fa F
  refine wp_seq_k fun K1 hK1 => ?_
  refine wp_region_lit ?_
  refine F.vl (R_assign rfl (ev_c fa _)) ?_; clear F fa; intro fa F
  refine wpList_nil ?_
  refine hK1 _ _ ?_
  clear hK1
  refine wp_seq_k fun K2 hK2 => ?_
  refine wp_region_lit ?_
  refine F.mv ?_; clear F fa; intro fa F
  refine sq_call F rfl (by decide) rfl (R_callV rfl rfl Try.call27 (mpS (F.at rfl) mp0)) (HN.out) fun e w1 hR => ?_
  obtain ⟨b, rfl, hb, hb2, HL, e1⟩ := hR
  refine ⟨_, rfl, ?_⟩; clear F fa; intro fa F
  replace E := ext_same E (e1)
  clear e1
  refine F.as ?_; clear F fa; intro fa F
  refine wpList_nil ?_
  refine hK2 _ _ ?_
  clear hK2
  refine wp_seq_k fun K3 hK3 => ?_
  refine wp_region_lit ?_
  refine F.mv ?_; clear F fa; intro fa F
  refine F.mv ?_; clear F fa; intro fa F
  refine sq_new F rfl (by decide) rfl (R_buildSliceV rfl (prS (ev_c fa _) (prS (ev_c fa _) pr0)) Try.underlying29 (size := 1) (by kernel_rfl) (by decide) (by decide) Try.zeroValue3 (cells := #[.int .i64 6, .int .i64 12]) (by kernel_rfl)) ?_; clear F fa; intro fa w2 F hw
  obtain ⟨n24, hn⟩ : ∃ n, n = w1.heap.size := ⟨_, rfl⟩
  rw [← hn] at F
  have s24 : w1.heap.size ≤ n24 := Nat.le_of_eq hn.symm
  have l24_E : w.heap.size ≤ n24 := by rw [hn]; exact E.size
  have b24_HL := Nat.lt_of_lt_of_eq (lots_lt HL) hn.symm
  replace E := ext_alloc E hw
  replace HL := lots_alloc hw HL
  have q24 := new_block hw hn
  clear hw hn
  refine sq_call F rfl (by decide) rfl (R_callV rfl rfl Try.call45 (mpS (F.at rfl) (mpS (F.at rfl) mp0))) (of_any w _ b _ _ n24 _ [6, 12] HL (by omega) q24 (by omega) (by decide) (by decide)) fun e w3 hR => ?_
  obtain ⟨wd, rfl, hwd, HL, e1⟩ := hR
  refine ⟨_, rfl, ?_⟩; clear F fa; intro fa F
  replace q24 := (e1).keep q24 (by simp; omega)
  replace E := E.trans' e1 (fun i hi hl => by simp only [List.mem_cons, List.not_mem_nil, or_false] at hi ⊢; omega)
  replace hwd : 0 ≤ wd ∧ wd ≤ 60 := by simp at hwd; omega
  have hbB := lots_lt HL
  obtain ⟨B0, hB0⟩ : ∃ B0, B0 = w3.heap.size := ⟨_, rfl⟩
  rw [← hB0] at hbB
  have hwB : w.heap.size ≤ B0 := by rw [hB0]; exact E.size
  refine sq_call F rfl (by decide) rfl (R_callV rfl rfl Try.call44 (mpS (F.at rfl) (mpS (ev_c fa _) (mpS (ev_c fa _) (mpS (F.at rfl) mp0))))) (measuredOf_any w _ b _ _ 2 2 wd HL (by omega) (by omega) (by omega) (by omega) (by omega) (by omega) (by omega)) fun e w4 hR => ?_
  obtain ⟨t, ms, ps, vs, gv, rv, lv, mv, pv, rfl, hM, hS, hA, hbm, og, orr, olk, om, hms, op, HL, e2⟩ := hR
  refine ⟨_, rfl, ?_⟩; clear F fa; intro fa F
  replace q24 := (e2).keep q24 (by simp; omega)
  replace E := E.trans' e2 (fun i hi hl => by simp only [List.mem_cons, List.not_mem_nil, or_false] at hi ⊢; omega)
  have hLv := hM.live
  rw [← hB0] at og orr olk
  clear hB0
  obtain ⟨ga, gc, rfl⟩ := owns_slice og
  obtain ⟨ra, rc, rfl⟩ := owns_slice orr
  obtain ⟨la, lc, rfl⟩ := owns_slice olk
  obtain ⟨ma, mc, rfl⟩ := owns_slice om
  obtain ⟨pa, pc, rfl⟩ := owns_slice op
  have hbN := Lib.hid hbB
  have HT : Hid (∀ W, Ext [b] w4 W → IsTp W (.slice ga t.gr.length gc) (.slice ra t.rd.length rc) (.slice la t.lk.length lc) t) := fun W hW => tp_of_owns (owns_ext og hW (by simp; exact hbN.out)) (owns_ext orr hW (by simp; exact hbN.out)) (owns_ext olk hW (by simp; exact hbN.out))
  have hcapR := owns_cap orr
  clear om hms op og orr olk
  have hokT := hM.ok
  have hS1 := hokT.S1
  have hS3 := hokT.S3
  have hA1 := hokT.A1
  have hA3 := hokT.A3
  have hT1 := hokT.T1
  have hT3 := hokT.T3
  have hgl := hokT.grl
  have hrl := hM.rdl
  have hkl := hM.lkl
  obtain ⟨hP1, hP2⟩ := ok_prod hokT
  have EO : Ext [b] w4 w4 := Ext.refl _ _
  have hwo := E.size
  refine F.mv ?_; clear F fa; intro fa F
  refine F.vl (R_extract rfl (F.at rfl) (get0)) ?_; clear F fa; intro fa F
  refine F.vl (R_extract rfl (F.at rfl) (getS (get0))) ?_; clear F fa; intro fa F
  refine F.vl (R_extract rfl (F.at rfl) (getS (getS (get0)))) ?_; clear F fa; intro fa F
  refine sq_new F rfl (by decide) rfl (R_alloc rfl Try.zeroValue28) ?_; clear F fa; intro fa w5 F hw
  obtain ⟨n4, hn⟩ : ∃ n, n = w4.heap.size := ⟨_, rfl⟩
  rw [← hn] at F
  have s4 : w4.heap.size ≤ n4 := Nat.le_of_eq hn.symm
  have l4_E : w.heap.size ≤ n4 := by rw [hn]; exact E.size
  have l4_EO : w4.heap.size ≤ n4 := by rw [hn]; exact EO.size
  have b4_HL := Nat.lt_of_lt_of_eq (lots_lt HL) hn.symm
  replace E := ext_alloc E hw
  replace EO := ext_alloc EO hw
  replace HL := lots_alloc hw HL
  have q4 := new_row hw hn
  clear hw hn
  refine sq_to rfl rfl (R_storeRow rfl (F.at rfl) (F.at rfl) (by kernel_rfl) (by first | (simp [Value.oneCell']; done) | (simp [Value.oneCell', grRow, rdRow, lkRow]; done)) q4 rfl) ?_; intro w6 hw
  replace q4 := put_row hw q4 rfl
  replace E := ext_cells E hw (fun h => by first | exact absurd h (by omega) | simp)
  replace EO := ext_cells EO hw (fun h => by first | exact absurd h (by omega) | simp)
  replace HL := lots_cells hw HL (by omega) (by omega)
  clear hw
  refine F.as ?_; clear F fa; intro fa F
  refine F.as ?_; clear F fa; intro fa F
  refine wpList_nil ?_
  refine hK3 _ _ ?_
  clear hK3
  refine wp_seq_k fun K4 hK4 => ?_
  refine region_x (Ext [b] w6) none follows fun w7 hh eh => ?_
  have q4_ := q4
  replace q4 := keep_same hh q4
  have E_ := E
  have zEw7 := E.size
  replace E := ext_same E eh
  have EO_ := EO
  have zEOw7 := EO.size
  replace EO := ext_same EO eh
  have zbw7 := lots_lt HL
  replace HL := lots_ext eh HL
  have eT := eh.mono (Y := [b]) (by simp)
  clear hh eh
  refine F.x (i := 0) rfl (fun w' => R_move rfl (F.at rfl)) (fun _ => eT) ?_; clear F fa; intro fa F
  refine F.x (i := 1) rfl (fun w' => R_field rfl (F.at rfl) Try.underlying28 rfl (n := 0) (sz := 1) rfl (by kernel_rfl) (by decide)) (fun _ => eT) ?_; clear F fa; intro fa F
  refine F.xr (i := 2) rfl (fun w' hS => R_load rfl (F.at rfl) Try.underlying3 rfl ((cells_of_block (hS.keep q4_ (by simp; omega)) 0).trans (get0))) (fun _ => eT) ?_; clear F fa; intro fa F
  refine F.x (i := 3) rfl (fun w' => R_sub rfl (F.at rfl) (ev_c fa _) (by omega) (by omega)) (fun _ => eT) ?_; clear F fa; intro fa F
  refine F.x (i := 5) rfl (fun w' => R_move rfl (F.at rfl)) (fun _ => eT) ?_; clear F fa; intro fa F
  refine F.x (i := 6) rfl (fun w' => R_field rfl (F.at rfl) Try.underlying28 rfl (n := 1) (sz := 1) rfl (by kernel_rfl) (by decide)) (fun _ => eT) ?_; clear F fa; intro fa F
  refine F.xr (i := 7) rfl (fun w' hS => R_load rfl (F.at rfl) Try.underlying3 rfl ((cells_of_block (hS.keep q4_ (by simp; omega)) 1).trans (getS (get0)))) (fun _ => eT) ?_; clear F fa; intro fa F
  refine F.x (i := 8) rfl (fun w' => R_sub rfl (F.at rfl) (ev_c fa _) (by omega) (by omega)) (fun _ => eT) ?_; clear F fa; intro fa F
  refine ax_only (i := 4) (by kernel_rfl) (op_call F rfl rfl (by decide) rfl (R_callV rfl rfl Try.call51 (mpS (F.at rfl) (mpS (F.at rfl) mp0))) (upto_any w _ b _ _ (t.S - 1) HL (by omega) (by omega) (by omega)) fun e w8 hR => ?_)
  obtain ⟨s, rfl, s0, s1, HL, e1⟩ := hR
  refine ⟨_, rfl, ?_⟩; clear F fa; intro fa F
  replace q4 := (e1).keep q4 (by simp; omega)
  replace E := E.trans' e1 (fun i hi hl => by simp only [List.mem_cons, List.not_mem_nil, or_false] at hi ⊢; omega)
  replace EO := EO.trans' e1 (fun i hi hl => by simp only [List.mem_cons, List.not_mem_nil, or_false] at hi ⊢; omega)
  replace eT := eT.trans' e1 (fun i hi hl => by simp only [List.mem_cons, List.not_mem_nil, or_false] at hi ⊢; omega)
  refine ⟨fun _ => eT, ?_⟩
  refine ax_only (i := 9) (by kernel_rfl) (op_call F rfl rfl (by decide) rfl (R_callV rfl rfl Try.call51 (mpS (F.at rfl) (mpS (F.at rfl) mp0))) (upto_any w _ b _ _ (t.A - 1) HL (by omega) (by omega) (by omega)) fun e w9 hR => ?_)
  obtain ⟨a, rfl, a0, a1, HL, e1⟩ := hR
  refine ⟨_, rfl, ?_⟩; clear F fa; intro fa F
  replace q4 := (e1).keep q4 (by simp; omega)
  replace E := E.trans' e1 (fun i hi hl => by simp only [List.mem_cons, List.not_mem_nil, or_false] at hi ⊢; omega)
  replace EO := EO.trans' e1 (fun i hi hl => by simp only [List.mem_cons, List.not_mem_nil, or_false] at hi ⊢; omega)
  replace eT := eT.trans' e1 (fun i hi hl => by simp only [List.mem_cons, List.not_mem_nil, or_false] at hi ⊢; omega)
  refine ⟨fun _ => eT, ?_⟩
  refine F.x (i := 10) rfl (fun w' => R_assign rfl (F.at rfl)) (fun _ => eT) ?_; clear F fa; intro fa F
  refine F.x (i := 11) rfl (fun w' => R_assign rfl (F.at rfl)) (fun _ => eT) ?_; clear F fa; intro fa F
  refine ax_done (by kernel_rfl) ?_ _
  clear eT q4_ E_ EO_
  replace s1 : s < t.S := by omega
  replace a1 : a < t.A := by omega
  refine hK4 _ _ ?_
  clear hK4
  refine wp_seq_k fun K5 hK5 => ?_
  refine wp_region_lit ?_
  refine F.vl (R_loadBlk rfl (F.at rfl) Try.underlying28 rfl (by kernel_rfl) q4) ?_; clear F fa; intro fa F
  refine F.mv ?_; clear F fa; intro fa F
  refine F.mv ?_; clear F fa; intro fa F
  refine sq_call F rfl (by decide) rfl (R_callV rfl rfl Try.call33 (mpS (F.at rfl) (mpS (F.at rfl) (mpS (F.at rfl) mp0)))) (meas_live hLv (HT.out _ EO) s0 s1 a0 a1) fun e w10 hR => ?_
  obtain ⟨rfl, e9⟩ := hR
  refine ⟨_, rfl, ?_⟩; clear F fa; intro fa F
  replace q4 := (e9).keep0 q4
  replace E := ext_same E (e9)
  replace EO := ext_same EO (e9)
  clear e9
  refine F.mv ?_; clear F fa; intro fa F
  refine F.vl (R_extract rfl (F.at rfl) (get0)) ?_; clear F fa; intro fa F
  refine F.vl (R_extract rfl (F.at rfl) (getS (get0))) ?_; clear F fa; intro fa F
  refine sq_new F rfl (by decide) rfl (R_alloc rfl Try.zeroValue23) ?_; clear F fa; intro fa w11 F hw
  obtain ⟨n9, hn⟩ : ∃ n, n = w10.heap.size := ⟨_, rfl⟩
  rw [← hn] at F
  have s9 : w10.heap.size ≤ n9 := Nat.le_of_eq hn.symm
  have l9_E : w.heap.size ≤ n9 := by rw [hn]; exact E.size
  have l9_EO : w4.heap.size ≤ n9 := by rw [hn]; exact EO.size
  have m9_4 : n4 < n9 := by rw [hn]; exact blk_lt q4
  replace q4 := keep_alloc hw q4
  replace E := ext_alloc E hw
  replace EO := ext_alloc EO hw
  have q9 := new_row hw hn
  clear hw hn
  refine sq_to rfl rfl (R_storeRow rfl (F.at rfl) (F.at rfl) (by kernel_rfl) (by first | (simp [Value.oneCell']; done) | (simp [Value.oneCell', grRow, rdRow, lkRow]; done)) q9 rfl) ?_; intro w12 hw
  replace q4 := keep_cells hw q4 (by omega)
  replace q9 := put_row hw q9 rfl
  replace E := ext_cells E hw (fun h => by first | exact absurd h (by omega) | simp)
  replace EO := ext_cells EO hw (fun h => by first | exact absurd h (by omega) | simp)
  clear hw
  refine F.as ?_; clear F fa; intro fa F
  refine wpList_nil ?_
  refine hK5 _ _ ?_
  clear hK5
  refine wp_seq_k fun K6 hK6 => ?_
  refine wp_seq_k fun K7 hK7 => ?_
  refine wp_region_lit ?_
  refine F.mv ?_; clear F fa; intro fa F
  refine F.vl (R_neqB (b := false) rfl (F.at rfl) (ev_c fa _) (by decide)) ?_; clear F fa; intro fa F
  refine wpList_nil ?_
  refine hK7 _ _ ?_
  clear hK7
  refine cd_F F rfl ?_
  refine wp_skip ?_
  refine hK6 _ _ ?_
  clear hK6
  refine wp_seq_k fun K8 hK8 => ?_
  have hmb := mbd hLv s0 s1 a0 a1
  obtain ⟨hnp, hne⟩ := numB_pos hLv s0 s1 a0 a1
  refine wp_region_st 7 follows (by kernel_rfl) fun w13 hh eh => ?_
  replace q4 := keep_same hh q4
  replace q9 := keep_same hh q9
  replace E := ext_same E eh
  replace EO := ext_same EO eh
  clear hh eh
  refine F.sv (R_field rfl (F.at rfl) Try.underlying23 rfl (n := 1) (sz := 1) rfl (by kernel_rfl) (by decide)) ?_; clear F fa; intro fa F
  refine F.sv (R_load rfl (F.at rfl) Try.underlying3 rfl ((cells_of_block q9 1).trans (getS (get0)))) ?_; clear F fa; intro fa F
  refine F.sv (R_field rfl (F.at rfl) Try.underlying23 rfl (n := 0) (sz := 1) rfl (by kernel_rfl) (by decide)) ?_; clear F fa; intro fa F
  refine F.sv (R_load rfl (F.at rfl) Try.underlying3 rfl ((cells_of_block q9 0).trans (get0))) ?_; clear F fa; intro fa F
  refine F.sv (R_sub rfl (F.at rfl) (F.at rfl) (by omega) (by omega)) ?_; clear F fa; intro fa F
  refine F.sv (R_add rfl (F.at rfl) (ev_c fa _) (by omega) (by omega)) ?_; clear F fa; intro fa F
  rw [← hne] at F
  refine F.sv (R_assign rfl (ev_c fa _)) ?_; clear F fa; intro fa F
  refine wpStill_nil ?_
  refine F.as ?_; clear F fa; intro fa F
  refine wpList_nil ?_
  refine hK8 _ _ ?_
  clear hK8
  refine wp_seq_k fun K9 hK9 => ?_
  refine wp_seq_k fun K10 hK10 => ?_
  refine wp_region_lit ?_
  refine F.vl (R_assign rfl (ev_c fa _)) ?_; clear F fa; intro fa F
  refine wpList_nil ?_
  refine hK10 _ _ ?_
  clear hK10
  refine wp_block ?_
  have F0 := F.sub (.c 4 rfl (.c 7 rfl (.c 8 rfl .n)))
  refine lp_for F0 (t.T.toNat) (fun i Lv W => Lv = [(11, .int .i64 ((nxtTo t s a i).1)), (12, .int .i64 ((nxtTo t s a i).2)), (13, .int .i64 ((i : Nat) : Int))] ∧ Ext [] w13 W ∧ 1 ≤ (nxtTo t s a i).2) ⟨_, ⟨rfl, Ext.refl _ _, hnp⟩, F.sub (.c 11 rfl (.c 12 rfl (.c 13 rfl (.c 4 rfl (.c 7 rfl (.c 8 rfl .n))))))⟩ ?_
  clear F F0
  rintro i _ fa w14 hi1 ⟨rfl, EL1, hp⟩ F
  have q4 := EL1.keep0 q4
  have q9 := EL1.keep0 q9
  have E := E.nil EL1
  have EO := EO.nil EL1
  refine wp_seq_k fun K11 hK11 => ?_
  refine wp_seq_k fun K12 hK12 => ?_
  refine wp_region_lit ?_
  refine F.mv ?_; clear F fa; intro fa F
  refine F.vl (R_field rfl (F.at rfl) Try.underlying28 rfl (n := 2) (sz := 1) rfl (by kernel_rfl) (by decide)) ?_; clear F fa; intro fa F
  refine F.vl (R_load rfl (F.at rfl) Try.underlying3 rfl ((cells_of_block q4 2).trans (getS (getS (get0))))) ?_; clear F fa; intro fa F
  refine F.vl (R_lss rfl (F.at rfl) (F.at rfl)) ?_; clear F fa; intro fa F
  refine wpList_nil ?_
  refine hK12 _ _ ?_
  clear hK12
  refine cd_if F rfl (fun hc58 => ?_) (fun hc58 => ?_)
  · skip
    refine wp_skip ?_
    refine hK11 _ _ ?_
    clear hK11
    refine wp_seq_k fun K13 hK13 => ?_
    refine wp_block ?_
    refine wp_seq_k fun K14 hK14 => ?_
    obtain ⟨hst, hst2⟩ := nxtTo_step hLv (by omega) s0 s1 a0 a1 (show ((i : Nat) : Int) < t.T by omega) hp
    refine wp_region_lit ?_
    refine F.vl (R_loadBlk rfl (F.at rfl) Try.underlying28 rfl (by kernel_rfl) q4) ?_; clear F fa; intro fa F
    refine F.mv ?_; clear F fa; intro fa F
    refine F.mv ?_; clear F fa; intro fa F
    refine F.mv ?_; clear F fa; intro fa F
    refine sq_call F rfl (by decide) rfl (R_callV rfl rfl Try.call54 (mpS (F.at rfl) (mpS (F.at rfl) (mpS (F.at rfl) (mpS (F.at rfl) mp0))))) (worst_any hLv (by omega) s a (i : Int) s0 s1 a0 a1 (by omega) (by omega) ga ra la gc rc lc _ (HT.out _ EO)) fun e w15 hR => ?_
    obtain ⟨rfl, e9⟩ := hR
    refine ⟨_, rfl, ?_⟩; clear F fa; intro fa F
    replace q4 := (e9).keep0 q4
    replace q9 := (e9).keep0 q9
    replace E := ext_same E (e9)
    replace EO := ext_same EO (e9)
    replace EL1 := ext_same EL1 (e9)
    clear e9
    refine F.mv ?_; clear F fa; intro fa F
    refine F.vl (R_extract rfl (F.at rfl) (get0)) ?_; clear F fa; intro fa F
    refine F.vl (R_extract rfl (F.at rfl) (getS (get0))) ?_; clear F fa; intro fa F
    refine F.as ?_; clear F fa; intro fa F
    refine F.as ?_; clear F fa; intro fa F
    refine wpList_nil ?_
    refine hK14 _ _ ?_
    clear hK14
    refine wp_seq_k fun K15 hK15 => ?_
    refine wp_seq_k fun K16 hK16 => ?_
    refine wp_region_lit ?_
    refine F.mv ?_; clear F fa; intro fa F
    refine F.vl (R_not rfl (F.at rfl)) ?_; clear F fa; intro fa F
    refine wpList_nil ?_
    refine hK16 _ _ ?_
    clear hK16
    refine cd_F F rfl ?_
    refine wp_skip ?_
    refine hK15 _ _ ?_
    clear hK15
    refine wp_seq_k fun K17 hK17 => ?_
    refine wp_region_lit ?_
    refine F.mv ?_; clear F fa; intro fa F
    refine F.mv ?_; clear F fa; intro fa F
    refine F.vl (R_lss rfl (F.at rfl) (F.at rfl)) ?_; clear F fa; intro fa F
    refine wpList_nil ?_
    refine hK17 _ _ ?_
    clear hK17
    refine cd_if F rfl (fun hc73 => ?_) (fun hc73 => ?_)
    · skip
      rw [if_pos hc73] at hst
      refine wp_region_lit ?_
      refine F.mv ?_; clear F fa; intro fa F
      refine F.mv ?_; clear F fa; intro fa F
      refine F.as ?_; clear F fa; intro fa F
      refine F.as ?_; clear F fa; intro fa F
      refine wpList_nil ?_
      replace F := F.re (k := 11) rfl (show Value.int .i64 ((i : Nat) : Int) = Value.int .i64 (nxtTo t s a (i + 1)).1 by rw [hst])
      replace F := F.re (k := 12) rfl (show Value.int .i64 (wrs t s a i (wrsN t)) = Value.int .i64 (nxtTo t s a (i + 1)).2 by rw [hst])
      refine hK13 _ _ ?_
      clear hK13
      refine wp_region_lit ?_
      refine F.mv ?_; clear F fa; intro fa F
      refine F.vl (R_add rfl (F.at rfl) (ev_c fa _) (by omega) (by omega)) ?_; clear F fa; intro fa F
      refine F.as ?_; clear F fa; intro fa F
      refine wpList_nil ?_
      show _ ∧ _
      exact ⟨by omega, _, ⟨rfl, EL1, hst2⟩, F.sub (.c 11 rfl (.c 12 rfl (.c 13 rfl (.c 4 rfl (.c 7 rfl (.c 8 rfl .n))))))⟩
    · skip
      rw [if_neg hc73] at hst
      replace F := F.re (k := 11) rfl (show Value.int .i64 (nxtTo t s a i).1 = Value.int .i64 (nxtTo t s a (i + 1)).1 by rw [hst])
      replace F := F.re (k := 12) rfl (show Value.int .i64 (nxtTo t s a i).2 = Value.int .i64 (nxtTo t s a (i + 1)).2 by rw [hst])
      refine wp_skip ?_
      refine hK13 _ _ ?_
      clear hK13
      refine wp_region_lit ?_
      refine F.mv ?_; clear F fa; intro fa F
      refine F.vl (R_add rfl (F.at rfl) (ev_c fa _) (by omega) (by omega)) ?_; clear F fa; intro fa F
      refine F.as ?_; clear F fa; intro fa F
      refine wpList_nil ?_
      show _ ∧ _
      exact ⟨by omega, _, ⟨rfl, EL1, hst2⟩, F.sub (.c 11 rfl (.c 12 rfl (.c 13 rfl (.c 4 rfl (.c 7 rfl (.c 8 rfl .n))))))⟩
  · skip
    refine wp_exit ?_
    obtain rfl : i = t.T.toNat := by omega
    obtain ⟨hx1, hx2⟩ := next_live hLv s0 s1 a0 a1
    refine hK9 _ _ ?_
    clear hK9
    refine wp_seq_k fun K18 hK18 => ?_
    refine wp_region_lit ?_
    refine F.vl (R_loadBlk rfl (F.at rfl) Try.underlying28 rfl (by kernel_rfl) q4) ?_; clear F fa; intro fa F
    refine F.mv ?_; clear F fa; intro fa F
    refine F.mv ?_; clear F fa; intro fa F
    refine sq_call F rfl (by decide) rfl (R_callV rfl rfl Try.call38 (mpS (F.at rfl) (mpS (F.at rfl) (mpS (F.at rfl) mp0)))) (next_any t _ _ ra rc s a _ (HT.out _ EO) (by omega) (by omega) (by omega) hcapR) fun e w16 hR => ?_
    obtain ⟨rfl, e9⟩ := hR
    refine ⟨_, rfl, ?_⟩; clear F fa; intro fa F
    replace q4 := (e9).keep0 q4
    replace q9 := (e9).keep0 q9
    replace E := ext_same E (e9)
    replace EO := ext_same EO (e9)
    clear e9
    refine F.mv ?_; clear F fa; intro fa F
    refine F.vl (R_extract rfl (F.at rfl) (get0)) ?_; clear F fa; intro fa F
    refine F.vl (R_extract rfl (F.at rfl) (getS (get0))) ?_; clear F fa; intro fa F
    refine F.vl (R_extract rfl (F.at rfl) (getS (getS (get0)))) ?_; clear F fa; intro fa F
    refine F.as ?_; clear F fa; intro fa F
    refine F.as ?_; clear F fa; intro fa F
    refine F.as ?_; clear F fa; intro fa F
    refine wpList_nil ?_
    refine hK18 _ _ ?_
    clear hK18
    refine wp_seq_k fun K19 hK19 => ?_
    refine wp_seq_k fun K20 hK20 => ?_
    refine wp_region_lit ?_
    refine F.mv ?_; clear F fa; intro fa F
    refine F.vl (R_lss rfl (F.at rfl) (ev_c fa _)) ?_; clear F fa; intro fa F
    refine wpList_nil ?_
    refine hK20 _ _ ?_
    clear hK20
    refine cd_if F rfl (fun hc85 => ?_) (fun hc85 => ?_)
    · skip
      obtain ⟨hE, hV⟩ := hx1 hc85
      refine wp_seq_k fun K21 hK21 => ?_
      refine wp_region_lit ?_
      refine F.mv ?_; clear F fa; intro fa F
      refine F.vl (R_eqlB (b := true) rfl (F.at rfl) (ev_c fa _) (decide_eq_true (hE))) ?_; clear F fa; intro fa F
      refine F.mv ?_; clear F fa; intro fa F
      refine F.mv ?_ (hw := (wantT F rfl rfl (by decide) rfl)); clear F fa; intro fa F
      refine F.vl (R_eqlB (b := true) rfl (F.at rfl) (ev_c fa _) (decide_eq_true ((by rw [hV])))) ?_ (hw := (wantT F rfl rfl (by decide) rfl)); clear F fa; intro fa F
      refine F.vl (R_pickT rfl (F.at rfl) (F.at rfl)) ?_; clear F fa; intro fa F
      refine F.mv ?_; clear F fa; intro fa F
      refine F.mv ?_ (hw := (wantT F rfl rfl (by decide) rfl)); clear F fa; intro fa F
      refine F.vl (R_eqlB (b := true) rfl (F.at rfl) (ev_c fa _) (decide_eq_true ((by rw [hV])))) ?_ (hw := (wantT F rfl rfl (by decide) rfl)); clear F fa; intro fa F
      refine F.vl (R_pickT rfl (F.at rfl) (F.at rfl)) ?_; clear F fa; intro fa F
      refine F.mv ?_; clear F fa; intro fa F
      refine sq_call F rfl (by decide) (wantT F rfl rfl (by decide) rfl) (R_callV rfl rfl Try.call25 mp0) (taken_any _) fun e w17 hR => ?_
      obtain ⟨rfl, e9⟩ := hR
      refine ⟨_, rfl, ?_⟩; clear F fa; intro fa F
      replace q4 := (e9).keep0 q4
      replace q9 := (e9).keep0 q9
      replace E := ext_same E (e9)
      replace EO := ext_same EO (e9)
      clear e9
      refine F.vl (R_pickT rfl (F.at rfl) (F.at rfl)) ?_; clear F fa; intro fa F
      refine F.as ?_; clear F fa; intro fa F
      refine wpList_nil ?_
      refine hK21 _ _ ?_
      clear hK21
      refine wp_ret ?_
      (try simp only [Exit.inBlock, Exit.then])
      refine rt_v F (rs_1 F rfl rfl) ?_
      exact ⟨rfl, E⟩
    · skip
      obtain ⟨hE, hV⟩ := hx2 hc85
      refine wp_skip ?_
      refine hK19 _ _ ?_
      clear hK19
      refine wp_seq_k fun K22 hK22 => ?_
      refine wp_region_lit ?_
      refine F.mv ?_; clear F fa; intro fa F
      refine F.vl (R_eqlB (b := true) rfl (F.at rfl) (ev_c fa _) (decide_eq_true (hE))) ?_; clear F fa; intro fa F
      refine F.mv ?_; clear F fa; intro fa F
      refine F.mv ?_ (hw := (wantT F rfl rfl (by decide) rfl)); clear F fa; intro fa F
      refine F.mv ?_ (hw := (wantT F rfl rfl (by decide) rfl)); clear F fa; intro fa F
      refine F.vl (R_eqlB (b := true) rfl (F.at rfl) (F.at rfl) (decide_eq_true ((by rw [hV])))) ?_ (hw := (wantT F rfl rfl (by decide) rfl)); clear F fa; intro fa F
      refine F.vl (R_pickT rfl (F.at rfl) (F.at rfl)) ?_; clear F fa; intro fa F
      refine F.mv ?_; clear F fa; intro fa F
      refine F.mv ?_ (hw := (wantT F rfl rfl (by decide) rfl)); clear F fa; intro fa F
      refine F.mv ?_ (hw := (wantT F rfl rfl (by decide) rfl)); clear F fa; intro fa F
      refine F.vl (R_eqlB (b := true) rfl (F.at rfl) (F.at rfl) (decide_eq_true ((by rw [hV])))) ?_ (hw := (wantT F rfl rfl (by decide) rfl)); clear F fa; intro fa F
      refine F.vl (R_pickT rfl (F.at rfl) (F.at rfl)) ?_; clear F fa; intro fa F
      refine F.mv ?_; clear F fa; intro fa F
      refine sq_call F rfl (by decide) (wantT F rfl rfl (by decide) rfl) (R_callV rfl rfl Try.call25 mp0) (taken_any _) fun e w18 hR => ?_
      obtain ⟨rfl, e9⟩ := hR
      refine ⟨_, rfl, ?_⟩; clear F fa; intro fa F
      replace q4 := (e9).keep0 q4
      replace q9 := (e9).keep0 q9
      replace E := ext_same E (e9)
      replace EO := ext_same EO (e9)
      clear e9
      refine F.vl (R_pickT rfl (F.at rfl) (F.at rfl)) ?_; clear F fa; intro fa F
      refine F.as ?_; clear F fa; intro fa F
      refine wpList_nil ?_
      refine hK22 _ _ ?_
      clear hK22
      refine wp_ret ?_
      (try simp only [Exit.inBlock, Exit.then])
      refine rt_v F (rs_1 F rfl rfl) ?_
      exact ⟨rfl, E⟩
end Go.Proofs.Ytholfdgebdlgjaa
