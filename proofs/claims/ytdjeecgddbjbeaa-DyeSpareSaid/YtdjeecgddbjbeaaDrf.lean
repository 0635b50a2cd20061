/- The iterator over all recipes comes to each of them, in lexicographic order. Conditions: at most four dyes. -/
import Derived.Test.YtdjeecgddbjbeaaDre
namespace Go.Proofs.Ytdjeecgddbjbeaa
open Go.RowKit
set_option linter.unusedVariables false
set_option linter.unusedSimpArgs false
theorem grown_of_ext {W W' : World} (h : Ext [] W W') : W.grownBy W' none := ⟨h.os, h.tape, h.output, h.size, fun k hk _ => h.block k hk (by simp)⟩
theorem from_all (x : Vm) (hd4 : x.D.length ≤ 4) (X : List Nat) (ob nb yb tb gb l B0 : Nat) (J : List (List Int) → World → Prop) (xs : List (List Int)) (hB0 : B0 ≤ tb) (hnt : nb ≠ tb) (hyt : yb ≠ tb) (hgt : gb ≠ tb)
    (HJ : Hid (∀ s U V r, J s U → Safe X ob r U → B0 ≤ r → (∃ o : Obj, U.heap[r]? = some o ∧ o.isCells = true) → U.grownBy V (some r) → J s V))
    (hY : ∀ pre q V, J pre V → pre ++ [q] <+: xs → YieldAt Fence.wide 0 Try.prog l #[.agg (tubC (val q))] V fun e V' => e = .returned (.bool true) ∧ J (pre ++ [q]) V' ∧ KeepR X ob V V') :
    ∀ (more left : Nat), left ≤ 6 → ∀ (p : List Int), p.length + more = x.D.length → ∀ (g : Nat → Int), Agr x.D.length g p → ∀ (pre : List (List Int)) (W : World), J pre W → pre ++ frL more left p <+: xs → ItB x X ob nb yb tb gb l g W →
      Calls Try.prog 103 #[.int .i64 ((p.length : Nat) : Int), .int .i64 ((left : Nat) : Int), .pointer (some ⟨nb, 0, none⟩), .pointer (some ⟨yb, 0, none⟩), .pointer (some ⟨tb, 0, none⟩), .pointer (some ⟨gb, 0, none⟩)] W fun e W' => e = .returned (.bool true) ∧ J (pre ++ frL more left p) W' ∧ ∃ g', Agr x.D.length g' p ∧ ItB x X ob nb yb tb gb l g' W'
  | 0, left, hl, p, hp, g, hag, pre, W, hJ, hx, hb => from_end x X ob nb yb tb gb l J xs hY left hl p (by omega) g hag pre W hJ hx hb
  | more + 1, left, hl, p, hp, g, hag, pre, W, hJ, hx, hb => from_step x hd4 X ob nb yb tb gb l B0 J xs hB0 hnt hyt hgt HJ more (Lib.hid (from_all x hd4 X ob nb yb tb gb l B0 J xs hB0 hnt hyt hgt HJ hY more)) left hl p hp g hag pre W hJ hx hb
theorem rowOf_ext {ob : Nat} {w W : World} (e : W.heap[ob]? = w.heap[ob]?) : rowOf ob W = rowOf ob w := by rw [rowOf, e]; rfl
set_option maxRecDepth 100000 in
set_option maxHeartbeats 1000000 in
theorem recipes1_seq (x : Vm) (hd4 : x.D.length ≤ 4) (X : List Nat) (ob nb : Nat) (w : World) (hob : ob < w.heap.size) (hX : ∀ b ∈ X, b < w.heap.size) (hrow : ∀ r, rowOf ob w = some r → r < w.heap.size) (hs : Safe X ob nb w)
    (hn : w.heap[nb]? = some (.cells #[.int .i64 x.B, .slice x.da x.D.length x.dc, .slice x.la x.L.length x.lc, .int .i64 x.tol] 80 (0, 0))) :
    SeqR Try.prog 102 #[.pointer (some ⟨nb, 0, none⟩)] (fun q : List Int => #[.agg (tubC (val q))]) X ob (recL x.D.length) w := by
  intro l J W hWs hWw hJ1 hJ2 hY h0
  have HJ := Lib.hid hJ2
  have HY := Lib.hid hY
  have HJ1 := Lib.hid hJ1
  have q1 : W.heap[nb]? = some (.cells #[.int .i64 x.B, .slice x.da x.D.length x.dc, .slice x.la x.L.length x.lc, .int .i64 x.tol] 80 (0, 0)) := (hWw nb (blk_lt hn)).trans hn
  have hnbl := blk_lt hn
  have hobW := hWw ob hob
  have HXX := Lib.hid hX
  have HRW := Lib.hid hrow
  show Calls _ _ #[.func (.yield l) #[] #[], .pointer (some ⟨nb, 0, none⟩)] _ _
  have E : Ext [] W W := Ext.refl _ _
  clear hJ1 hJ2 hY hn hX hrow
  refine calls_has 8 Try.func102 rfl Try.ntmps102 (Nat.le_of_ble_eq_true rfl) ?_
  intro fa F
  refine wp_seq_k fun K1 hK1 => ?_
  refine wp_region_lit ?_
  refine sq_new F rfl (by decide) rfl (R_box rfl (F.at rfl)) ?_; clear F fa; intro fa w1 F hw
  obtain ⟨n2, hn⟩ : ∃ n, n = W.heap.size := ⟨_, rfl⟩
  rw [← hn] at F
  have s2 : W.heap.size ≤ n2 := Nat.le_of_eq hn.symm
  have l2_E : W.heap.size ≤ n2 := by rw [hn]; exact E.size
  have m2_1 : nb < n2 := by rw [hn]; exact blk_lt q1
  replace q1 := keep_alloc hw q1
  replace E := ext_alloc E hw
  have q2 := new_one hw rfl hn
  clear hw hn
  refine wpList_nil ?_
  refine hK1 _ _ ?_
  clear hK1
  refine wp_seq_k fun K2 hK2 => ?_
  refine wp_region_lit ?_
  refine sq_new F rfl (by decide) rfl (R_alloc rfl Try.zeroValue83) ?_; clear F fa; intro fa w2 F hw
  obtain ⟨n3, hn⟩ : ∃ n, n = w1.heap.size := ⟨_, rfl⟩
  rw [← hn] at F
  have s3 : w1.heap.size ≤ n3 := Nat.le_of_eq hn.symm
  have l3_E : W.heap.size ≤ n3 := by rw [hn]; exact E.size
  have m3_1 : nb < n3 := by rw [hn]; exact blk_lt q1
  have m3_2 : n2 < n3 := by rw [hn]; exact blk_lt q2
  replace q1 := keep_alloc hw q1
  replace q2 := keep_alloc hw q2
  replace E := ext_alloc E hw
  have q3 := new_row hw hn
  clear hw hn
  refine wpList_nil ?_
  replace q3 : w2.heap[n3]? = some (.cells (tubC zf) 83 (0, 0)) := q3
  refine hK2 _ _ ?_
  clear hK2
  refine wp_seq_k fun K3 hK3 => ?_
  refine wp_region_lit ?_
  refine sq_new F rfl (by decide) rfl (R_alloc rfl Try.zeroValue132) ?_; clear F fa; intro fa w3 F hw
  obtain ⟨n4, hn⟩ : ∃ n, n = w2.heap.size := ⟨_, rfl⟩
  rw [← hn] at F
  have s4 : w2.heap.size ≤ n4 := Nat.le_of_eq hn.symm
  have l4_E : W.heap.size ≤ n4 := by rw [hn]; exact E.size
  have m4_1 : nb < n4 := by rw [hn]; exact blk_lt q1
  have m4_2 : n2 < n4 := by rw [hn]; exact blk_lt q2
  have m4_3 : n3 < n4 := by rw [hn]; exact blk_lt q3
  replace q1 := keep_alloc hw q1
  replace q2 := keep_alloc hw q2
  replace q3 := keep_alloc hw q3
  replace E := ext_alloc E hw
  have q4 := new_one hw rfl hn
  clear hw hn
  refine wpList_nil ?_
  refine hK3 _ _ ?_
  clear hK3
  refine wp_seq_k fun K4 hK4 => ?_
  refine wp_region_lit ?_
  refine F.vl (R_makeFunc rfl (mapsN mp0) (mapsN (mpS (F.at rfl) (mpS (F.at rfl) (mpS (F.at rfl) (mpS (F.at rfl) mp0)))))) ?_; clear F fa; intro fa F
  refine sq_to rfl rfl (R_store rfl (F.at rfl) (F.at rfl) rfl (by kernel_rfl) ((cells_of_block q4 0).trans (get0)) (free_of_block q4 0)) ?_; intro w4 hw
  replace q1 := keep_cell hw q1 (by omega)
  replace q2 := keep_cell hw q2 (by omega)
  replace q3 := keep_cell hw q3 (by omega)
  replace q4 := put_cell hw q4 (by simp only [List.setIfInBounds_toArray, List.set_cons_succ, List.set_cons_zero]; exact rfl)
  replace E := ext_cell E hw (fun h => by first | exact absurd h (by omega) | simp)
  clear hw
  refine wpList_nil ?_
  refine hK4 _ _ ?_
  clear hK4
  refine wp_region_lit ?_
  refine F.vl (R_load rfl (F.at rfl) Try.underlying132 rfl ((cells_of_block q4 0).trans (get0))) ?_; clear F fa; intro fa F
  have hrW : rowOf ob w4 = rowOf ob w := rowOf_ext ((E.block ob (by omega) (by simp)).trans hobW)
  have hsf : ∀ k, w.heap.size ≤ k → Safe X ob k w4 := fun k hk => ⟨fun h => (by have := HXX.out k h; omega), (by omega), fun e => (by have := HRW.out k (hrW.symm.trans e); omega)⟩
  have hsn : Safe X ob nb w4 := hs.same ((E.block ob (by omega) (by simp)).trans hobW)
  have hJn := HJ1.out [] W w4 h0 (grown_of_ext E)
  have hall := from_all x hd4 X ob nb n2 n3 n4 l W.heap.size J (recL x.D.length) (by omega) (by omega) (by omega) (by omega) HJ HY.out x.D.length 6 (by omega) [] (by simp) zf ⟨fun j hj => absurd hj (by simp), fun j _ => rfl⟩ [] w4 hJn (by exact List.prefix_refl _) ⟨q1, q2, q3, q4, hsn, hsf _ (by omega), hsf _ (by omega), hsf _ (by omega)⟩
  refine sq_call F rfl (by decide) rfl (R_callF rfl (F.at rfl) Try.call103 (mpS (ev_c fa _) (mpS (ev_c fa _) mp0)) (by simp)) (hall) fun e w5 hR => ?_
  obtain ⟨rfl, hJ3, g2, hag3, q1, q2, q3, q4, sn, sy, st, sg⟩ := hR
  refine ⟨_, rfl, ?_⟩; clear F fa; intro fa F
  refine wpList_nil ?_
  (try simp only [Exit.inBlock, Exit.then, reduceIte])
  refine rt_vn F (rs_0 rfl) ?_
  exact ⟨⟨_, rfl⟩, hJ3⟩
theorem recipes_any (x : Vm) (w : World) : Calls Try.prog 58 #[.agg #[.int .i64 x.B, .slice x.da x.D.length x.dc, .slice x.la x.L.length x.lc, .int .i64 x.tol]] w fun e w' => ∃ nb, e = .returned (.func (.func 102) #[] #[.pointer (some ⟨nb, 0, none⟩)]) ∧ w.heap.size ≤ nb ∧ w'.heap[nb]? = some (.cells #[.int .i64 x.B, .slice x.da x.D.length x.dc, .slice x.la x.L.length x.lc, .int .i64 x.tol] 80 (0, 0)) ∧ Ext [] w w' := by
  have E : Ext [] w w := Ext.refl _ _
  refine calls_has 4 Try.func58 rfl Try.ntmps58 (Nat.le_of_ble_eq_true rfl) ?_
  intro fa F
  refine wp_seq_k fun K1 hK1 => ?_
  refine wp_region_lit ?_
  refine sq_new F rfl (by decide) rfl (R_box rfl (F.at rfl)) ?_; clear F fa; intro fa w1 F hw
  obtain ⟨n1, hn⟩ : ∃ n, n = w.heap.size := ⟨_, rfl⟩
  rw [← hn] at F
  have s1 : w.heap.size ≤ n1 := Nat.le_of_eq hn.symm
  have l1_E : w.heap.size ≤ n1 := by rw [hn]; exact E.size
  replace E := ext_alloc E hw
  have q1 := new_row hw hn
  clear hw hn
  refine F.vl (R_assign rfl (ev_c fa _)) ?_; clear F fa; intro fa F
  refine wpList_nil ?_
  refine hK1 _ _ ?_
  clear hK1
  refine wp_seq_k fun K2 hK2 => ?_
  refine wp_region_lit ?_
  refine F.vl (R_makeFunc rfl (mapsN mp0) (mapsN (mpS (F.at rfl) mp0))) ?_; clear F fa; intro fa F
  refine F.as ?_; clear F fa; intro fa F
  refine wpList_nil ?_
  refine hK2 _ _ ?_
  clear hK2
  refine wp_ret ?_
  (try simp only [Exit.inBlock, Exit.then, reduceIte])
  refine rt_v F (rs_1 F rfl rfl) ?_
  exact ⟨n1, rfl, by omega, q1, E⟩
end Go.Proofs.Ytdjeecgddbjbeaa
