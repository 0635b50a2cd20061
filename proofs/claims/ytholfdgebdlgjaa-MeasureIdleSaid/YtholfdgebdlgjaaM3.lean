/- Contracts of the bounds' methods limit, apart, pull, and of checkLink. Conditions: nodes are below 13, numbers lie within 2^62. -/
import Derived.Test.YtholfdgebdlgjaaM2
namespace Go.Proofs.Ytholfdgebdlgjaa
open Go.RowKit
set_option maxHeartbeats 2000000 in
theorem apart_any (m : Nat → Nat → Int) (l h : Int) (w : World) (h1 : 0 ≤ l) (h2 : l < 13) (h3 : 0 ≤ h) (h4 : h < 13) (hb1 : -1000000000000000000 ≤ m h.toNat l.toNat) (hb2 : m h.toNat l.toNat ≤ 1000000000000000000) :
    Calls Try.prog 91 #[.agg (matCells m), .int .i64 l, .int .i64 h] w fun e w' => e = .returned (.agg #[.int .i64 (-(m h.toNat l.toNat)), .int .i64 (m l.toNat h.toNat)]) ∧ Below w.heap.size w w' := by
  obtain ⟨l, rfl⟩ := Int.eq_ofNat_of_zero_le h1
  obtain ⟨h, rfl⟩ := Int.eq_ofNat_of_zero_le h3
  rw [Int.toNat_natCast, Int.toNat_natCast] at *
  have c1 := matCells_get m h l (by omega) (by omega)
  have c2 := matCells_get m l h (by omega) (by omega)
  have w1 : IntKind.i64.wrap (-m h l) = -m h l := IntWalk.i64_in _ (by omega)
  go_enter Try.func91, Try.ntmps91
  go_wp2
  go_region_held3 (fun w' => w'.cell? ⟨w.heap.size, h * 13 + l, none⟩ = some (.int .i64 (m h l)) ∧ w'.cell? ⟨w.heap.size, l * 13 + h, none⟩ = some (.int .i64 (m l h))) (go_keep) (fail)
  go_wp2
  refine bodyPost_ret (v := .agg #[.int .i64 (-(m h l)), .int .i64 (m l h)]) (by simp [results, Try.results91, go_sem]) rfl ⟨rfl, ?_⟩
  repeat (first | exact Below.refl _ _ | assumption | (refine Below.drew ?_) | (refine Below.alloc ?_ (by first | exact Nat.le_refl _ | (simp; done) | (simp; omega)) _) | (refine Below.setCell ?_ (by first | exact Nat.le_refl _ | (simp; done) | (simp; omega)) _))
theorem apart_of (m : Nat → Nat → Int) (cs : Array Value) (l h : Int) (w : World) (hcs : cs = matCells m) (h1 : 0 ≤ l) (h2 : l < 13) (h3 : 0 ≤ h) (h4 : h < 13) (hb1 : -1000000000000000000 ≤ m h.toNat l.toNat) (hb2 : m h.toNat l.toNat ≤ 1000000000000000000) :
    Calls Try.prog 91 #[.agg cs, .int .i64 l, .int .i64 h] w fun e w' => e = .returned (.agg #[.int .i64 (-(m h.toNat l.toNat)), .int .i64 (m l.toNat h.toNat)]) ∧ Below w.heap.size w w' := by
  subst hcs
  exact apart_any m l h w h1 h2 h3 h4 hb1 hb2
theorem pull_any (m : Nat → Nat → Int) (t : Int) (w : World) (h1 : 0 ≤ t) (h2 : t < 3) (hb1 : -1000000000000000000 ≤ m 0 (10 + t).toNat) (hb2 : m 0 (10 + t).toNat ≤ 1000000000000000000) :
    Calls Try.prog 97 #[.agg (matCells m), .int .i64 t] w fun e w' => e = .returned (.agg #[.int .i64 (-(m 0 (10 + t).toNat)), .int .i64 (m (10 + t).toNat 0)]) ∧ Below w.heap.size w w' := by
  go_enter Try.func97, Try.ntmps97
  go_wp2
  have q0 : ((w.alloc (.cells (matCells m) 105)).alloc (.cells #[.int .i64 0, .int .i64 0] 23)).heap[w.heap.size]? = _ := blk_old (blk_new rfl)
  have q1 : ((w.alloc (.cells (matCells m) 105)).alloc (.cells #[.int .i64 0, .int .i64 0] 23)).heap[w.heap.size + 1]? = _ := blk_new (size_alloc _ _).symm
  have E0 : Ext [] w ((w.alloc (.cells (matCells m) 105)).alloc (.cells #[.int .i64 0, .int .i64 0] 23)) := ((Ext.refl _ _).alloc _).alloc _
  have Z : ((w.alloc (.cells (matCells m) 105)).alloc (.cells #[.int .i64 0, .int .i64 0] 23)).heap.size = w.heap.size + 2 := by rw [size_alloc, size_alloc]
  generalize (w.alloc (.cells (matCells m) 105)).alloc (.cells #[.int .i64 0, .int .i64 0] 23) = W at q0 q1 E0 Z ⊢
  refine wp_region_go (Ext [w.heap.size + 1] W) follows fun W1 hh E1 => ?_
  have eS := E1.mono (Y := [w.heap.size + 1]) (by simp)
  have m0 : MatAt W w.heap.size 105 m := ⟨q0⟩
  refine wpAnyH_take (i := 0) (v := .agg (matList m).toArray) rfl (by kernel_rfl) (by kernel_rfl) (by kernel_rfl) (fun _ _ _ h => h) (Y_of rfl (fun w' hS => R_loadRow rfl rfl Try.underlying105 rfl (matInfo m) (MatAt.range ⟨hS.keep m0.blk (by simp)⟩))) eS ?_
  refine wpAnyH_take (i := 1) (v := .int .i64 t) rfl (by kernel_rfl) (by kernel_rfl) (by kernel_rfl) (fun _ _ _ h => h) (Y_of rfl (fun w' hS => R_move rfl rfl)) eS ?_
  refine wpAnyH_call (i := 2) rfl (by kernel_rfl) (by kernel_rfl) (by kernel_rfl) (tug_any t _ h1 (by omega)) (fun e w' hR => ?_); obtain ⟨rfl, rfl⟩ := hR
  refine ⟨_, rfl, eS, ?_⟩
  refine wpAnyH_call (i := 3) rfl (by kernel_rfl) (by kernel_rfl) (by kernel_rfl) (apart_of m (matList m).toArray (10 + t) 0 _ (matList_toArray m) (by omega) (by omega) (by omega) (by omega) hb1 hb2) (fun e w' hR => ?_); obtain ⟨rfl, hb'⟩ := hR
  have e2 := Ext.of_below hb'
  replace eS := eS.nil e2
  refine ⟨_, rfl, eS, ?_⟩
  have q1' := (E1.nil e2).keep0 q1
  have q2 := stored_block (cs := #[.int .i64 (-(m (0 : Int).toNat (10 + t).toNat)), .int .i64 (m (10 + t).toNat (0 : Int).toNat)]) q1' rfl
  refine wpAnyH_skip (i := 4) rfl (by kernel_rfl) (by kernel_rfl) (R_storeRow (cs := #[.int .i64 (-(m (0 : Int).toNat (10 + t).toNat)), .int .i64 (m (10 + t).toNat (0 : Int).toNat)]) rfl rfl rfl (by kernel_rfl) (by simp [Value.oneCell']) q1' (by rfl)) (eS.setCells (fun _ => by simp) _ _) ?_
  have e3 := ((E0.nil E1).nil e2).setCells (b := w.heap.size + 1) (fun h => absurd h (by omega)) 0 [.int .i64 (-(m (0 : Int).toNat (10 + t).toNat)), .int .i64 (m (10 + t).toNat (0 : Int).toNat)]
  refine wpAnyH_done (by kernel_rfl) ?_ _
  go_wp2
  refine bodyPost_ret (res_cell rfl rfl Try.underlying23 rfl (by kernel_rfl) q2) rfl ⟨rfl, e3.below⟩
def limitM (m : Nat → Nat → Int) (l h : Nat) (lo hi : Int) : Nat → Nat → Int :=
  upd (upd m l h (min (m l h) hi)) h l (min (upd m l h (min (m l h) hi) h l) (-lo))
set_option maxRecDepth 100000 in
set_option maxHeartbeats 1000000 in
theorem limit_any (m : Nat → Nat → Int) (B : Nat) (l h : Int) (lo hi : Int) (w : World) (hm : MatAt w B 105 m) (h1 : 0 ≤ l) (h2 : l < 13) (h3 : 0 ≤ h) (h4 : h < 13) (hlo : -1000000000000000000 ≤ lo) (hlo2 : lo ≤ 1000000000000000000) :
    Calls Try.prog 158 #[.pointer (some ⟨B, 0, none⟩), .int .i64 l, .int .i64 h, .agg #[.int .i64 lo, .int .i64 hi]] w fun e w' => e = .returned (.tuple #[]) ∧ MatAt w' B 105 (limitM m l.toNat h.toNat lo hi) ∧ Ext [B] w w' := by
  obtain ⟨l, rfl⟩ := Int.eq_ofNat_of_zero_le h1
  obtain ⟨h, rfl⟩ := Int.eq_ofNat_of_zero_le h3
  rw [Int.toNat_natCast, Int.toNat_natCast] at *
  have hBl := hm.lt
  go_enter Try.func158, Try.ntmps158
  go_wp2
  have q0 : (w.alloc (.cells #[.int .i64 lo, .int .i64 hi] 23)).heap[w.heap.size]? = _ := blk_new rfl
  have m0 := hm.alloc (.cells #[.int .i64 lo, .int .i64 hi] 23)
  have E0 : Ext [B] w (w.alloc (.cells #[.int .i64 lo, .int .i64 hi] 23)) := (Ext.refl _ _).alloc _
  generalize w.alloc (.cells #[.int .i64 lo, .int .i64 hi] 23) = W at q0 m0 E0 ⊢
  refine wp_region_st 16 follows (by kernel_rfl) fun W1 hW1 eW1 => ?_
  replace m0 := m0.same hW1
  replace q0 := keep_same hW1 q0
  replace E0 := E0.nil eW1
  clear hW1 eW1
  refine still_val rfl rfl (R_move (v := .pointer (some ⟨_, _, none⟩)) rfl rfl) (by simp only [List.set_cons_succ, List.set_cons_zero]; exact rfl) ?_
  refine still_val rfl rfl (R_move (v := .int .i64 _) rfl rfl) (by simp only [List.set_cons_succ, List.set_cons_zero]; exact rfl) ?_
  refine still_val rfl rfl (R_move (v := .int .i64 _) rfl rfl) (by simp only [List.set_cons_succ, List.set_cons_zero]; exact rfl) ?_
  refine still_val rfl rfl (R_move (v := .pointer (some ⟨_, _, none⟩)) rfl rfl) (by simp only [List.set_cons_succ, List.set_cons_zero]; exact rfl) ?_
  refine still_val rfl rfl (R_move (v := .int .i64 _) rfl rfl) (by simp only [List.set_cons_succ, List.set_cons_zero]; exact rfl) ?_
  refine still_val rfl rfl (R_move (v := .int .i64 _) rfl rfl) (by simp only [List.set_cons_succ, List.set_cons_zero]; exact rfl) ?_
  refine still_val rfl rfl (R_nilCheck rfl rfl) (by simp only [List.set_cons_succ, List.set_cons_zero]; exact rfl) ?_
  refine still_val rfl rfl (R_ixArr rfl rfl rfl Try.underlying105 (sz := 13) (by kernel_rfl) (by omega) (by omega)) (by simp only [List.set_cons_succ, List.set_cons_zero]; exact rfl) ?_
  refine still_val rfl rfl (R_ixArr rfl rfl rfl Try.underlying103 (sz := 1) (by kernel_rfl) (by omega) (by omega)) (by simp only [List.set_cons_succ, List.set_cons_zero]; exact rfl) ?_
  refine still_val rfl rfl (R_load rfl rfl Try.underlying3 rfl (m0.cellAt l h _ (by omega) (by omega) (by omega))) (by simp only [List.set_cons_succ, List.set_cons_zero]; exact rfl) ?_
  refine still_val rfl rfl (R_fieldAddr rfl rfl Try.underlying23 rfl (n := 1) (sz := 1) rfl (by kernel_rfl) (by decide)) (by simp only [List.set_cons_succ, List.set_cons_zero]; exact rfl) ?_
  refine still_val rfl rfl (R_load rfl rfl Try.underlying3 rfl ((cells_of_block q0 _).trans rfl)) (by simp only [List.set_cons_succ, List.set_cons_zero]; exact rfl) ?_
  refine still_val rfl rfl (R_min rfl rfl rfl rfl) (by simp only [List.set_cons_succ, List.set_cons_zero]; exact rfl) ?_
  refine still_val rfl rfl (R_nilCheck rfl rfl) (by simp only [List.set_cons_succ, List.set_cons_zero]; exact rfl) ?_
  refine still_val rfl rfl (R_ixArr rfl rfl rfl Try.underlying105 (sz := 13) (by kernel_rfl) (by omega) (by omega)) (by simp only [List.set_cons_succ, List.set_cons_zero]; exact rfl) ?_
  refine still_val rfl rfl (R_ixArr rfl rfl rfl Try.underlying103 (sz := 1) (by kernel_rfl) (by omega) (by omega)) (by simp only [List.set_cons_succ, List.set_cons_zero]; exact rfl) ?_
  refine wpStill_nil ?_
  refine seq_to rfl rfl (R_store (v := .int .i64 _) rfl rfl rfl rfl (by kernel_rfl) (m0.cellAt l h _ (by omega) (by omega) (by omega)) (m0.frozen _)) fun W2 hW2 => ?_
  refine wpList_nil ?_
  replace m0 := m0.set' l h hW2 (by omega) (by omega) (by omega)
  replace q0 := keep_set hW2 q0 (by show _ ≠ B; omega)
  replace E0 := E0.set' hW2 (by simp)
  clear hW2
  go_wp2_with fail
  refine wp_region_st 17 follows (by kernel_rfl) fun W3 hW3 eW3 => ?_
  replace m0 := m0.same hW3
  replace q0 := keep_same hW3 q0
  replace E0 := E0.nil eW3
  clear hW3 eW3
  refine still_val rfl rfl (R_move (v := .pointer (some ⟨_, _, none⟩)) rfl rfl) (by simp only [List.set_cons_succ, List.set_cons_zero]; exact rfl) ?_
  refine still_val rfl rfl (R_move (v := .int .i64 _) rfl rfl) (by simp only [List.set_cons_succ, List.set_cons_zero]; exact rfl) ?_
  refine still_val rfl rfl (R_move (v := .int .i64 _) rfl rfl) (by simp only [List.set_cons_succ, List.set_cons_zero]; exact rfl) ?_
  refine still_val rfl rfl (R_move (v := .pointer (some ⟨_, _, none⟩)) rfl rfl) (by simp only [List.set_cons_succ, List.set_cons_zero]; exact rfl) ?_
  refine still_val rfl rfl (R_move (v := .int .i64 _) rfl rfl) (by simp only [List.set_cons_succ, List.set_cons_zero]; exact rfl) ?_
  refine still_val rfl rfl (R_move (v := .int .i64 _) rfl rfl) (by simp only [List.set_cons_succ, List.set_cons_zero]; exact rfl) ?_
  refine still_val rfl rfl (R_nilCheck rfl rfl) (by simp only [List.set_cons_succ, List.set_cons_zero]; exact rfl) ?_
  refine still_val rfl rfl (R_ixArr rfl rfl rfl Try.underlying105 (sz := 13) (by kernel_rfl) (by omega) (by omega)) (by simp only [List.set_cons_succ, List.set_cons_zero]; exact rfl) ?_
  refine still_val rfl rfl (R_ixArr rfl rfl rfl Try.underlying103 (sz := 1) (by kernel_rfl) (by omega) (by omega)) (by simp only [List.set_cons_succ, List.set_cons_zero]; exact rfl) ?_
  refine still_val rfl rfl (R_load rfl rfl Try.underlying3 rfl (m0.cellAt h l _ (by omega) (by omega) (by omega))) (by simp only [List.set_cons_succ, List.set_cons_zero]; exact rfl) ?_
  refine still_val rfl rfl (R_fieldAddr rfl rfl Try.underlying23 rfl (n := 0) (sz := 1) rfl (by kernel_rfl) (by decide)) (by simp only [List.set_cons_succ, List.set_cons_zero]; exact rfl) ?_
  refine still_val rfl rfl (R_load rfl rfl Try.underlying3 rfl ((cells_of_block q0 _).trans rfl)) (by simp only [List.set_cons_succ, List.set_cons_zero]; exact rfl) ?_
  refine still_val rfl rfl (R_neg rfl rfl (by omega) (by omega)) (by simp only [List.set_cons_succ, List.set_cons_zero]; exact rfl) ?_
  refine still_val rfl rfl (R_min rfl rfl rfl rfl) (by simp only [List.set_cons_succ, List.set_cons_zero]; exact rfl) ?_
  refine still_val rfl rfl (R_nilCheck rfl rfl) (by simp only [List.set_cons_succ, List.set_cons_zero]; exact rfl) ?_
  refine still_val rfl rfl (R_ixArr rfl rfl rfl Try.underlying105 (sz := 13) (by kernel_rfl) (by omega) (by omega)) (by simp only [List.set_cons_succ, List.set_cons_zero]; exact rfl) ?_
  refine still_val rfl rfl (R_ixArr rfl rfl rfl Try.underlying103 (sz := 1) (by kernel_rfl) (by omega) (by omega)) (by simp only [List.set_cons_succ, List.set_cons_zero]; exact rfl) ?_
  refine wpStill_nil ?_
  refine seq_to rfl rfl (R_store (v := .int .i64 _) rfl rfl rfl rfl (by kernel_rfl) (m0.cellAt h l _ (by omega) (by omega) (by omega)) (m0.frozen _)) fun W4 hW4 => ?_
  refine wpList_nil ?_
  replace m0 := m0.set' h l hW4 (by omega) (by omega) (by omega)
  replace E0 := E0.set' hW4 (by simp)
  clear hW4
  go_wp2
  go_end0
  exact ⟨rfl, m0, E0⟩
end Go.Proofs.Ytholfdgebdlgjaa
