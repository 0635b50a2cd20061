/- The walks of the draws out of lots. Conditions: at most a million draws. -/
import Derived.Test.YtholfdgebdlgjaaOwn
import Derived.Test.YtholfdgebdlgjaaMea
import Derived.Test.YtholfdgebdlgjaaUnt
import Derived.Laws.BitsAllLaws
namespace Go.Proofs.Ytholfdgebdlgjaa
open Go.RowKit
set_option linter.unusedVariables false
set_option linter.unusedSimpArgs false
/-- Lots in block b, after at most k draws; nothing else has turned since w0. -/
def LotsOk (w0 w : World) (b k : Nat) (nv : Value) : Prop :=
  w0.heap.size ≤ b ∧ (∃ (a : Option Addr) (c : Nat) (xs : List Int), nv = .slice a xs.length c ∧ IsRows w0 nv 1 (xs.map intRow)) ∧ Ext [b] w0 w ∧
  ∃ d st : Int, w.heap[b]? = some (.cells #[nv, .int .i64 d, .int .u64 st] 98 (0, 0)) ∧ 0 ≤ d ∧ d ≤ k ∧ 0 ≤ st ∧ st < 18446744073709551616
theorem lots_mono {w0 w : World} {b k k' : Nat} {nv : Value} (h : LotsOk w0 w b k nv) (hk : k ≤ k') : LotsOk w0 w b k' nv := by
  obtain ⟨h1, h2, h3, d, st, h4, h5, h6, h7⟩ := h
  exact ⟨h1, h2, h3, d, st, h4, h5, by omega, h7⟩
theorem lots_alloc {w0 w w2 : World} {b k : Nat} {nv : Value} {o : Obj} (e : w2 = w.alloc o) (h : LotsOk w0 w b k nv) : LotsOk w0 w2 b k nv := by
  obtain ⟨h1, h2, h3, d, st, h4, h5⟩ := h
  exact ⟨h1, h2, ext_alloc h3 e, d, st, keep_alloc e h4, h5⟩
theorem lots_cells {w0 w w2 : World} {b k c o : Nat} {nv : Value} {l : List Value} (e : w2 = w.setCells c o l) (h : LotsOk w0 w b k nv) (hc : w0.heap.size ≤ c) (hb : b ≠ c) : LotsOk w0 w2 b k nv := by
  obtain ⟨h1, h2, h3, d, st, h4, h5⟩ := h
  exact ⟨h1, h2, ext_cells h3 e (fun h => absurd h (by omega)), d, st, keep_cells e h4 hb, h5⟩
theorem lots_cell {w0 w w2 : World} {b k c o : Nat} {nv v : Value} (e : w2 = w.setCell ⟨c, o, none⟩ v) (h : LotsOk w0 w b k nv) (hc : w0.heap.size ≤ c) (hb : b ≠ c) : LotsOk w0 w2 b k nv := by
  obtain ⟨h1, h2, h3, d, st, h4, h5⟩ := h
  exact ⟨h1, h2, ext_cell h3 e (fun h => absurd h (by omega)), d, st, keep_cell e h4 hb, h5⟩
theorem lots_ext {w0 w w2 : World} {b k : Nat} {nv : Value} (e : Ext [] w w2) (h : LotsOk w0 w b k nv) : LotsOk w0 w2 b k nv := by
  obtain ⟨h1, h2, h3, d, st, h4, h5⟩ := h
  exact ⟨h1, h2, h3.nil e, d, st, e.keep0 h4, h5⟩
theorem lots_same {w0 w w2 : World} {b k : Nat} {nv : Value} (e : w2.heap = w.heap) (h : LotsOk w0 w b k nv) (hos : w2.os = w.os := by rfl) (htape : w2.tape = w.tape := by rfl) (hout : w2.output = w.output := by rfl) : LotsOk w0 w2 b k nv :=
  lots_ext ⟨hos, htape, hout, by rw [e]; exact Nat.le_refl _, fun _ _ _ => by rw [e]⟩ h
theorem wrap_u64 (x : Int) : 0 ≤ IntKind.u64.wrap x ∧ IntKind.u64.wrap x < 18446744073709551616 := by
  simp only [IntKind.wrap, IntKind.bits, IntKind.signed]
  simp
  omega
theorem xor_u64 (x y : Int) (h1 : 0 ≤ x ∧ x < 18446744073709551616) (h2 : 0 ≤ y ∧ y < 18446744073709551616) : 0 ≤ bits .xor .u64 x y ∧ bits .xor .u64 x y < 18446744073709551616 := by
  rw [u64_xor x y h1.1 h1.2 h2.1 h2.2]
  have := Nat.xor_lt_two_pow (n := 64) (x := x.toNat) (y := y.toNat) (by omega) (by omega)
  omega
theorem fdiv_pow (x : Int) (n : Nat) (h : 0 ≤ x) : 0 ≤ x.fdiv (2 ^ n) ∧ x.fdiv (2 ^ n) ≤ x := by
  have hp : (0 : Int) < 2 ^ n := Int.pow_pos (by decide)
  rw [Int.fdiv_eq_ediv_of_nonneg _ (Int.le_of_lt hp)]
  exact ⟨Int.ediv_nonneg h (Int.le_of_lt hp), Int.ediv_le_self _ h⟩
section
variable {P : Program} {ρ : Operand → Value} {o : Oper} {w : World}
theorem R_wadd {x y : Operand} {t t' : TypeId} {k : IntKind} {n m : Int} (ho : o.op = .binOp .add t x y t') (hx : ρ x = .int k n) (hy : ρ y = .int k m) : (execOp ρ o).run P w = .ok (.value (.int k (k.wrap (n + m)))) w := by
  unfold execOp
  simp [ho, hx, hy, binOp, Op.intArith, eqGuard, go_sem]
theorem R_wmul {x y : Operand} {t t' : TypeId} {k : IntKind} {n m : Int} (ho : o.op = .binOp .mul t x y t') (hx : ρ x = .int k n) (hy : ρ y = .int k m) : (execOp ρ o).run P w = .ok (.value (.int k (k.wrap (n * m)))) w := by
  unfold execOp
  simp [ho, hx, hy, binOp, Op.intArith, eqGuard, go_sem]
theorem R_xor {x y : Operand} {t t' : TypeId} {k : IntKind} {n m : Int} (ho : o.op = .binOp .xor t x y t') (hx : ρ x = .int k n) (hy : ρ y = .int k m) : (execOp ρ o).run P w = .ok (.value (.int k (bits .xor k n m))) w := by
  unfold execOp
  simp [ho, hx, hy, binOp, Op.intBits, eqGuard, go_sem]
  rfl
theorem R_shr {x y : Operand} {t t' : TypeId} {k k' : IntKind} {n : Int} {m : Nat} (ho : o.op = .binOp .shr t x y t') (hx : ρ x = .int k n) (hy : ρ y = .int k' m) : (execOp ρ o).run P w = .ok (.value (.int k (n.fdiv (2 ^ min m k.bits)))) w := by
  unfold execOp
  have hm : ¬ ((m : Int) < 0) := by omega
  simp [ho, hx, hy, binOp, Op.shift, eqGuard, hm, go_sem]
theorem R_rem {x y : Operand} {t t' : TypeId} {k : IntKind} {n m : Int} (ho : o.op = .binOp .rem t x y t') (hx : ρ x = .int k n) (hy : ρ y = .int k m) (hm : m ≠ 0) : (execOp ρ o).run P w = .ok (.value (.int k (n.tmod m))) w := by
  unfold execOp
  simp [ho, hx, hy, binOp, Op.intDiv, eqGuard, hm, go_sem]
theorem R_convert {x : Operand} {t t' : TypeId} {k k' : IntKind} {n : Int} (ho : o.op = .convert t t' x) (hx : ρ x = .int k n) (hu : P.underlying t = some (.int k)) (hu' : P.underlying t' = some (.int k')) : (execOp ρ o).run P w = .ok (.value (.int k' (k'.wrap n))) w := by
  unfold execOp
  simp [ho, hx, convert, Conv.intToInt, run_underlying hu, run_underlying hu', go_sem]
end
theorem blk_of_rangeL {w : World} {b off : Nat} {cs : List Value} {v : Value} (h : w.rangeAt b off cs) (h0 : cs[0]? = some v) : b < w.heap.size :=
  World.block_lt_of_cell? w ⟨b, off + 0, none⟩ (h 0 v h0)
theorem shr8 {z : Int} (h : 0 ≤ z ∧ z < 18446744073709551616) : 0 ≤ z.fdiv (2 ^ min 8 IntKind.u64.bits) ∧ z.fdiv (2 ^ min 8 IntKind.u64.bits) < 72057594037927936 := by
  rw [show (2 : Int) ^ min 8 IntKind.u64.bits = 256 from rfl, Int.fdiv_eq_ediv_of_nonneg _ (by decide)]
  omega
set_option maxRecDepth 100000 in
set_option maxHeartbeats 4000000 in
theorem lnext_any (w0 w : World) (b k : Nat) (nv : Value) (h : LotsOk w0 w b k nv) (hk : k ≤ 1000000) :
    Calls Try.prog 114 #[.pointer (some ⟨b, 0, none⟩)] w fun e w' => ∃ v : Int, e = .returned (.int .u64 v) ∧ 0 ≤ v ∧ v < 72057594037927936 ∧ LotsOk w0 w' b (k + 1) nv ∧ Ext [b] w w' := by
  obtain ⟨hb, ⟨na, nc, xs, rfl, hn⟩, E0, d, st, q, hd0, hdk, hs0, hs1⟩ := h
  have E : Ext [b] w w := Ext.refl _ _
  go_enter Try.func114, Try.ntmps114
  go_upto_region 0 with (fail)
  refine wp_region_lit ?_
  refine seq_val rfl rfl (R_assign (v := .int .u64 0) rfl rfl) (by simp only [List.set_cons_succ, List.set_cons_zero]; exact rfl) ?_
  refine wpList_nil ?_
  go_upto_region 1 with (fail)
  refine wp_region_lit ?_
  refine seq_val rfl rfl (R_move (v := .pointer (some ⟨_, _, none⟩)) rfl rfl) (by simp only [List.set_cons_succ, List.set_cons_zero]; exact rfl) ?_
  refine seq_val rfl rfl (R_move (v := .pointer (some ⟨_, _, none⟩)) rfl rfl) (by simp only [List.set_cons_succ, List.set_cons_zero]; exact rfl) ?_
  refine seq_val rfl rfl (R_nilCheck rfl rfl) (by simp only [List.set_cons_succ, List.set_cons_zero]; exact rfl) ?_
  refine seq_val rfl rfl (R_field rfl rfl Try.underlying98 rfl (n := 2) (sz := 1) rfl (by kernel_rfl) (by decide)) (by simp only [List.set_cons_succ, List.set_cons_zero]; exact rfl) ?_
  refine seq_val rfl rfl (R_load rfl rfl Try.underlying96 rfl ((cells_of_block q 2).trans (getS (getS (get0))))) (by simp only [List.set_cons_succ, List.set_cons_zero]; exact rfl) ?_
  refine seq_val rfl rfl (R_wmul rfl rfl rfl) (by simp only [List.set_cons_succ, List.set_cons_zero]; exact rfl) ?_
  refine seq_val rfl rfl (R_wadd rfl rfl rfl) (by simp only [List.set_cons_succ, List.set_cons_zero]; exact rfl) ?_
  refine seq_val rfl rfl (R_nilCheck rfl rfl) (by simp only [List.set_cons_succ, List.set_cons_zero]; exact rfl) ?_
  refine seq_val rfl rfl (R_field rfl rfl Try.underlying98 rfl (n := 2) (sz := 1) rfl (by kernel_rfl) (by decide)) (by simp only [List.set_cons_succ, List.set_cons_zero]; exact rfl) ?_
  refine seq_to rfl rfl (R_store (v := .int .u64 _) rfl rfl rfl rfl (by kernel_rfl) ((cells_of_block q 2).trans rfl) (free_of_block q 2)) fun w1 hw => ?_
  replace q := put_cell hw q (by simp only [List.setIfInBounds_toArray, List.set_cons_succ, List.set_cons_zero]; exact rfl)
  replace E0 := ext_cell E0 hw (fun h => by first | exact absurd h (by omega) | simp)
  replace E := ext_cell E hw (fun h => by first | exact absurd h (by omega) | simp)
  clear hw
  refine wpList_nil ?_
  have hst1 := wrap_u64 (IntKind.u64.wrap (st * 6364136223846793005) + 1442695040888963407)
  generalize IntKind.u64.wrap (IntKind.u64.wrap (st * 6364136223846793005) + 1442695040888963407) = st1 at hst1 q ⊢
  go_upto_region 2 with (fail)
  refine region_any (Ext [] w1) follows fun w2 hh eS => ?_
  have q_ := q
  replace q := keep_same hh q
  replace E := ext_same E eS
  replace E0 := ext_same E0 eS
  refine anyH_take (i := 0) rfl (by kernel_rfl) (by kernel_rfl) (by kernel_rfl) (fun _ _ _ h => h) rfl rfl (fun w' hS => R_move (v := .pointer (some ⟨_, _, none⟩)) rfl rfl) eS (by simp only [List.set_cons_succ, List.set_cons_zero]; exact rfl) ?_
  refine anyH_take (i := 1) rfl (by kernel_rfl) (by kernel_rfl) (by kernel_rfl) (fun _ _ _ h => h) rfl rfl (fun w' hS => R_nilCheck rfl rfl) eS (by simp only [List.set_cons_succ, List.set_cons_zero]; exact rfl) ?_
  refine anyH_take (i := 2) rfl (by kernel_rfl) (by kernel_rfl) (by kernel_rfl) (fun _ _ _ h => h) rfl rfl (fun w' hS => R_field rfl rfl Try.underlying98 rfl (n := 1) (sz := 1) rfl (by kernel_rfl) (by decide)) eS (by simp only [List.set_cons_succ, List.set_cons_zero]; exact rfl) ?_
  refine anyH_take (i := 3) rfl (by kernel_rfl) (by kernel_rfl) (by kernel_rfl) (fun _ _ _ h => h) rfl rfl (fun w' hS => R_load rfl rfl Try.underlying3 rfl ((cells_of_block (hS.keep q_ (by simp)) 1).trans (getS (get0)))) eS (by simp only [List.set_cons_succ, List.set_cons_zero]; exact rfl) ?_
  refine anyH_take (i := 4) rfl (by kernel_rfl) (by kernel_rfl) (by kernel_rfl) (fun _ _ _ h => h) rfl rfl (fun w' hS => R_move (v := .pointer (some ⟨_, _, none⟩)) rfl rfl) eS (by simp only [List.set_cons_succ, List.set_cons_zero]; exact rfl) ?_
  refine anyH_take (i := 5) rfl (by kernel_rfl) (by kernel_rfl) (by kernel_rfl) (fun _ _ _ h => h) rfl rfl (fun w' hS => R_nilCheck rfl rfl) eS (by simp only [List.set_cons_succ, List.set_cons_zero]; exact rfl) ?_
  refine anyH_take (i := 6) rfl (by kernel_rfl) (by kernel_rfl) (by kernel_rfl) (fun _ _ _ h => h) rfl rfl (fun w' hS => R_field rfl rfl Try.underlying98 rfl (n := 0) (sz := 1) rfl (by kernel_rfl) (by decide)) eS (by simp only [List.set_cons_succ, List.set_cons_zero]; exact rfl) ?_
  refine anyH_take (i := 7) rfl (by kernel_rfl) (by kernel_rfl) (by kernel_rfl) (fun _ _ _ h => h) rfl rfl (fun w' hS => R_load rfl rfl Try.underlying29 rfl ((cells_of_block (hS.keep q_ (by simp)) 0).trans (get0))) eS (by simp only [List.set_cons_succ, List.set_cons_zero]; exact rfl) ?_
  refine anyH_take (i := 8) rfl (by kernel_rfl) (by kernel_rfl) (by kernel_rfl) (fun _ _ _ h => h) rfl rfl (fun w' hS => R_len rfl rfl rfl Try.underlying29) eS (by simp only [List.set_cons_succ, List.set_cons_zero]; exact rfl) ?_
  refine anyH_take (i := 9) rfl (by kernel_rfl) (by kernel_rfl) (by kernel_rfl) (fun _ _ _ h => h) rfl rfl (fun w' hS => R_lss rfl rfl rfl) eS (by simp only [List.set_cons_succ, List.set_cons_zero]; exact rfl) ?_
  refine wpAnyH_done (by kernel_rfl) ?_ _
  clear q_ hh eS
  by_cases hlt : d < (xs.length : Int)
  · have hW := hn.ext E0 (by simp; omega)
    obtain ⟨xb, xo, hxa, hxr⟩ := rows_in 0 hW (Ext.refl _ _) (i := d.toNat) (by omega)
    have hcx : Hid (∀ W : World, Ext [] w2 W → W.cell? ⟨xb, xo + d.toNat * 1, none⟩ = some (.int .i64 (xs.getD d.toNat 0))) := fun W hW => by
      have hlt2 := blk_of_rangeL hxr rfl
      have := hxr 0 (.int .i64 (xs.getD d.toNat 0)) rfl
      rw [hW.cell (a := ⟨xb, xo + d.toNat * 1, none⟩) hlt2 (by simp)]; simpa using this
    clear hxr
    go_upto_region 3 with (fail)
    refine region_until (Ext [] w2) 20 follows fun w3 hh eS => ?_
    have q_ := q
    replace q := keep_same hh q
    replace E := ext_same E eS
    replace E0 := ext_same E0 eS
    refine anyU_take (i := 0) (last := 20) rfl rfl (by decide) (by kernel_rfl) (by kernel_rfl) (by kernel_rfl) (by kernel_rfl) (by kernel_rfl) (fun _ _ _ h => h) rfl rfl (fun w' hS => R_move (v := .pointer (some ⟨_, _, none⟩)) rfl rfl) eS (by simp only [List.set_cons_succ, List.set_cons_zero]; exact rfl) ?_
    refine anyU_take (i := 1) (last := 20) rfl rfl (by decide) (by kernel_rfl) (by kernel_rfl) (by kernel_rfl) (by kernel_rfl) (by kernel_rfl) (fun _ _ _ h => h) rfl rfl (fun w' hS => R_move (v := .pointer (some ⟨_, _, none⟩)) rfl rfl) eS (by simp only [List.set_cons_succ, List.set_cons_zero]; exact rfl) ?_
    refine anyU_take (i := 2) (last := 20) rfl rfl (by decide) (by kernel_rfl) (by kernel_rfl) (by kernel_rfl) (by kernel_rfl) (by kernel_rfl) (fun _ _ _ h => h) rfl rfl (fun w' hS => R_nilCheck rfl rfl) eS (by simp only [List.set_cons_succ, List.set_cons_zero]; exact rfl) ?_
    refine anyU_take (i := 3) (last := 20) rfl rfl (by decide) (by kernel_rfl) (by kernel_rfl) (by kernel_rfl) (by kernel_rfl) (by kernel_rfl) (fun _ _ _ h => h) rfl rfl (fun w' hS => R_field rfl rfl Try.underlying98 rfl (n := 2) (sz := 1) rfl (by kernel_rfl) (by decide)) eS (by simp only [List.set_cons_succ, List.set_cons_zero]; exact rfl) ?_
    refine anyU_take (i := 4) (last := 20) rfl rfl (by decide) (by kernel_rfl) (by kernel_rfl) (by kernel_rfl) (by kernel_rfl) (by kernel_rfl) (fun _ _ _ h => h) rfl rfl (fun w' hS => R_load rfl rfl Try.underlying96 rfl ((cells_of_block (hS.keep q_ (by simp)) 2).trans (getS (getS (get0))))) eS (by simp only [List.set_cons_succ, List.set_cons_zero]; exact rfl) ?_
    refine anyU_take (i := 5) (last := 20) rfl rfl (by decide) (by kernel_rfl) (by kernel_rfl) (by kernel_rfl) (by kernel_rfl) (by kernel_rfl) (fun _ _ _ h => h) rfl rfl (fun w' hS => R_move (v := .pointer (some ⟨_, _, none⟩)) rfl rfl) eS (by simp only [List.set_cons_succ, List.set_cons_zero]; exact rfl) ?_
    refine anyU_take (i := 6) (last := 20) rfl rfl (by decide) (by kernel_rfl) (by kernel_rfl) (by kernel_rfl) (by kernel_rfl) (by kernel_rfl) (fun _ _ _ h => h) rfl rfl (fun w' hS => R_nilCheck rfl rfl) eS (by simp only [List.set_cons_succ, List.set_cons_zero]; exact rfl) ?_
    refine anyU_take (i := 7) (last := 20) rfl rfl (by decide) (by kernel_rfl) (by kernel_rfl) (by kernel_rfl) (by kernel_rfl) (by kernel_rfl) (fun _ _ _ h => h) rfl rfl (fun w' hS => R_field rfl rfl Try.underlying98 rfl (n := 0) (sz := 1) rfl (by kernel_rfl) (by decide)) eS (by simp only [List.set_cons_succ, List.set_cons_zero]; exact rfl) ?_
    refine anyU_take (i := 8) (last := 20) rfl rfl (by decide) (by kernel_rfl) (by kernel_rfl) (by kernel_rfl) (by kernel_rfl) (by kernel_rfl) (fun _ _ _ h => h) rfl rfl (fun w' hS => R_load rfl rfl Try.underlying29 rfl ((cells_of_block (hS.keep q_ (by simp)) 0).trans (get0))) eS (by simp only [List.set_cons_succ, List.set_cons_zero]; exact rfl) ?_
    refine anyU_take (i := 9) (last := 20) rfl rfl (by decide) (by kernel_rfl) (by kernel_rfl) (by kernel_rfl) (by kernel_rfl) (by kernel_rfl) (fun _ _ _ h => h) rfl rfl (fun w' hS => R_move (v := .pointer (some ⟨_, _, none⟩)) rfl rfl) eS (by simp only [List.set_cons_succ, List.set_cons_zero]; exact rfl) ?_
    refine anyU_take (i := 10) (last := 20) rfl rfl (by decide) (by kernel_rfl) (by kernel_rfl) (by kernel_rfl) (by kernel_rfl) (by kernel_rfl) (fun _ _ _ h => h) rfl rfl (fun w' hS => R_nilCheck rfl rfl) eS (by simp only [List.set_cons_succ, List.set_cons_zero]; exact rfl) ?_
    refine anyU_take (i := 11) (last := 20) rfl rfl (by decide) (by kernel_rfl) (by kernel_rfl) (by kernel_rfl) (by kernel_rfl) (by kernel_rfl) (fun _ _ _ h => h) rfl rfl (fun w' hS => R_field rfl rfl Try.underlying98 rfl (n := 1) (sz := 1) rfl (by kernel_rfl) (by decide)) eS (by simp only [List.set_cons_succ, List.set_cons_zero]; exact rfl) ?_
    refine anyU_take (i := 12) (last := 20) rfl rfl (by decide) (by kernel_rfl) (by kernel_rfl) (by kernel_rfl) (by kernel_rfl) (by kernel_rfl) (fun _ _ _ h => h) rfl rfl (fun w' hS => R_load rfl rfl Try.underlying3 rfl ((cells_of_block (hS.keep q_ (by simp)) 1).trans (getS (get0)))) eS (by simp only [List.set_cons_succ, List.set_cons_zero]; exact rfl) ?_
    refine anyU_take (i := 13) (last := 20) rfl rfl (by decide) (by kernel_rfl) (by kernel_rfl) (by kernel_rfl) (by kernel_rfl) (by kernel_rfl) (fun _ _ _ h => h) rfl rfl (fun w' hS => R_ixSlice (sz := 1) rfl (hxa xs.length nc) rfl Try.underlying29 (by kernel_rfl) (by omega) (by omega)) eS (by simp only [List.set_cons_succ, List.set_cons_zero]; exact rfl) ?_
    refine anyU_take (i := 14) (last := 20) rfl rfl (by decide) (by kernel_rfl) (by kernel_rfl) (by kernel_rfl) (by kernel_rfl) (by kernel_rfl) (fun _ _ _ h => h) rfl rfl (fun w' hS => R_load (v := .int .i64 (xs.getD d.toNat 0)) rfl rfl Try.underlying3 rfl (hcx.out _ hS)) eS (by simp only [List.set_cons_succ, List.set_cons_zero]; exact rfl) ?_
    refine anyU_take (i := 15) (last := 20) rfl rfl (by decide) (by kernel_rfl) (by kernel_rfl) (by kernel_rfl) (by kernel_rfl) (by kernel_rfl) (fun _ _ _ h => h) rfl rfl (fun w' hS => R_convert rfl rfl Try.underlying3 Try.underlying96) eS (by simp only [List.set_cons_succ, List.set_cons_zero]; exact rfl) ?_
    refine anyU_take (i := 16) (last := 20) rfl rfl (by decide) (by kernel_rfl) (by kernel_rfl) (by kernel_rfl) (by kernel_rfl) (by kernel_rfl) (fun _ _ _ h => h) rfl rfl (fun w' hS => R_wmul rfl rfl rfl) eS (by simp only [List.set_cons_succ, List.set_cons_zero]; exact rfl) ?_
    refine anyU_take (i := 17) (last := 20) rfl rfl (by decide) (by kernel_rfl) (by kernel_rfl) (by kernel_rfl) (by kernel_rfl) (by kernel_rfl) (fun _ _ _ h => h) rfl rfl (fun w' hS => R_wadd rfl rfl rfl) eS (by simp only [List.set_cons_succ, List.set_cons_zero]; exact rfl) ?_
    refine anyU_one (i := 18) rfl (by kernel_rfl) rfl rfl (fun w' hS => R_nilCheck rfl rfl) eS (by simp only [List.set_cons_succ, List.set_cons_zero]; exact rfl) ?_
    refine anyU_take (i := 19) (last := 20) rfl rfl (by decide) (by kernel_rfl) (by kernel_rfl) (by kernel_rfl) (by kernel_rfl) (by kernel_rfl) (fun _ _ _ h => h) rfl rfl (fun w' hS => R_field rfl rfl Try.underlying98 rfl (n := 2) (sz := 1) rfl (by kernel_rfl) (by decide)) eS (by simp only [List.set_cons_succ, List.set_cons_zero]; exact rfl) ?_
    refine anyU_last (o := _) rfl (by kernel_rfl) rfl rfl (R_store (v := .int .u64 _) rfl rfl rfl rfl (by kernel_rfl) ((cells_of_block q 2).trans (getS (getS (get0)))) (free_of_block q 2)) (by kernel_rfl) fun w4 hw => ?_
    replace q := put_cell hw q (by simp only [List.setIfInBounds_toArray, List.set_cons_succ, List.set_cons_zero]; exact rfl)
    replace E0 := ext_cell E0 hw (fun h => by first | exact absurd h (by omega) | simp)
    replace E := ext_cell E hw (fun h => by first | exact absurd h (by omega) | simp)
    clear hw
    refine anyU_done (by kernel_rfl) ?_ _
    clear q_ hh eS
    have hst2 := wrap_u64 (st1 + IntKind.u64.wrap (IntKind.u64.wrap (xs.getD d.toNat 0) * 2862933555777941757))
    generalize IntKind.u64.wrap (st1 + IntKind.u64.wrap (IntKind.u64.wrap (xs.getD d.toNat 0) * 2862933555777941757)) = st2 at hst2 q ⊢
    clear hcx hxa hst1
    go_upto_region 4 with (fail)
    refine wp_region_lit ?_
    refine seq_val rfl rfl (R_move (v := .pointer (some ⟨_, _, none⟩)) rfl rfl) (by simp only [List.set_cons_succ, List.set_cons_zero]; exact rfl) ?_
    refine seq_val rfl rfl (R_nilCheck rfl rfl) (by simp only [List.set_cons_succ, List.set_cons_zero]; exact rfl) ?_
    refine seq_val rfl rfl (R_field rfl rfl Try.underlying98 rfl (n := 1) (sz := 1) rfl (by kernel_rfl) (by decide)) (by simp only [List.set_cons_succ, List.set_cons_zero]; exact rfl) ?_
    refine seq_val rfl rfl (R_load rfl rfl Try.underlying3 rfl ((cells_of_block q 1).trans (getS (get0)))) (by simp only [List.set_cons_succ, List.set_cons_zero]; exact rfl) ?_
    refine seq_val rfl rfl (R_add rfl rfl rfl (by omega) (by omega)) (by simp only [List.set_cons_succ, List.set_cons_zero]; exact rfl) ?_
    refine seq_val rfl rfl (R_nilCheck rfl rfl) (by simp only [List.set_cons_succ, List.set_cons_zero]; exact rfl) ?_
    refine seq_val rfl rfl (R_field rfl rfl Try.underlying98 rfl (n := 1) (sz := 1) rfl (by kernel_rfl) (by decide)) (by simp only [List.set_cons_succ, List.set_cons_zero]; exact rfl) ?_
    refine seq_to rfl rfl (R_store (v := .int .i64 _) rfl rfl rfl rfl (by kernel_rfl) ((cells_of_block q 1).trans rfl) (free_of_block q 1)) fun w5 hw => ?_
    replace q := put_cell hw q (by simp only [List.setIfInBounds_toArray, List.set_cons_succ, List.set_cons_zero]; exact rfl)
    replace E0 := ext_cell E0 hw (fun h => by first | exact absurd h (by omega) | simp)
    replace E := ext_cell E hw (fun h => by first | exact absurd h (by omega) | simp)
    clear hw
    refine wpList_nil ?_
    go_upto_region 5 with (fail)
    refine region_any (Ext [] w5) follows fun w6 hh eS => ?_
    have q_ := q
    replace q := keep_same hh q
    replace E := ext_same E eS
    replace E0 := ext_same E0 eS
    refine anyH_take (i := 0) rfl (by kernel_rfl) (by kernel_rfl) (by kernel_rfl) (fun _ _ _ h => h) rfl rfl (fun w' hS => R_move (v := .pointer (some ⟨_, _, none⟩)) rfl rfl) eS (by simp only [List.set_cons_succ, List.set_cons_zero]; exact rfl) ?_
    refine anyH_take (i := 1) rfl (by kernel_rfl) (by kernel_rfl) (by kernel_rfl) (fun _ _ _ h => h) rfl rfl (fun w' hS => R_nilCheck rfl rfl) eS (by simp only [List.set_cons_succ, List.set_cons_zero]; exact rfl) ?_
    refine anyH_take (i := 2) rfl (by kernel_rfl) (by kernel_rfl) (by kernel_rfl) (fun _ _ _ h => h) rfl rfl (fun w' hS => R_field rfl rfl Try.underlying98 rfl (n := 2) (sz := 1) rfl (by kernel_rfl) (by decide)) eS (by simp only [List.set_cons_succ, List.set_cons_zero]; exact rfl) ?_
    refine anyH_take (i := 3) rfl (by kernel_rfl) (by kernel_rfl) (by kernel_rfl) (fun _ _ _ h => h) rfl rfl (fun w' hS => R_load rfl rfl Try.underlying96 rfl ((cells_of_block (hS.keep q_ (by simp)) 2).trans (getS (getS (get0))))) eS (by simp only [List.set_cons_succ, List.set_cons_zero]; exact rfl) ?_
    refine anyH_take (i := 4) rfl (by kernel_rfl) (by kernel_rfl) (by kernel_rfl) (fun _ _ _ h => h) rfl rfl (fun w' hS => R_move (v := .pointer (some ⟨_, _, none⟩)) rfl rfl) eS (by simp only [List.set_cons_succ, List.set_cons_zero]; exact rfl) ?_
    refine anyH_take (i := 5) rfl (by kernel_rfl) (by kernel_rfl) (by kernel_rfl) (fun _ _ _ h => h) rfl rfl (fun w' hS => R_nilCheck rfl rfl) eS (by simp only [List.set_cons_succ, List.set_cons_zero]; exact rfl) ?_
    refine anyH_take (i := 6) rfl (by kernel_rfl) (by kernel_rfl) (by kernel_rfl) (fun _ _ _ h => h) rfl rfl (fun w' hS => R_field rfl rfl Try.underlying98 rfl (n := 2) (sz := 1) rfl (by kernel_rfl) (by decide)) eS (by simp only [List.set_cons_succ, List.set_cons_zero]; exact rfl) ?_
    refine anyH_take (i := 7) rfl (by kernel_rfl) (by kernel_rfl) (by kernel_rfl) (fun _ _ _ h => h) rfl rfl (fun w' hS => R_load rfl rfl Try.underlying96 rfl ((cells_of_block (hS.keep q_ (by simp)) 2).trans (getS (getS (get0))))) eS (by simp only [List.set_cons_succ, List.set_cons_zero]; exact rfl) ?_
    refine anyH_take (i := 8) rfl (by kernel_rfl) (by kernel_rfl) (by kernel_rfl) (fun _ _ _ h => h) rfl rfl (fun w' hS => R_shr (m := 29) rfl rfl rfl) eS (by simp only [List.set_cons_succ, List.set_cons_zero]; exact rfl) ?_
    refine anyH_take (i := 9) rfl (by kernel_rfl) (by kernel_rfl) (by kernel_rfl) (fun _ _ _ h => h) rfl rfl (fun w' hS => R_xor rfl rfl rfl) eS (by simp only [List.set_cons_succ, List.set_cons_zero]; exact rfl) ?_
    refine anyH_take (i := 10) rfl (by kernel_rfl) (by kernel_rfl) (by kernel_rfl) (fun _ _ _ h => h) rfl rfl (fun w' hS => R_assign (v := .int .u64 _) rfl rfl) eS (by simp only [List.set_cons_succ, List.set_cons_zero]; exact rfl) ?_
    refine wpAnyH_done (by kernel_rfl) ?_ _
    clear q_ hh eS
    generalize hz : bits .xor .u64 st2 (st2.fdiv (2 ^ min 29 IntKind.u64.bits)) = z
    clear hz
    go_upto_region 6 with (fail)
    refine wp_region_lit ?_
    refine seq_val rfl rfl (R_move (v := .int .u64 _) rfl rfl) (by simp only [List.set_cons_succ, List.set_cons_zero]; exact rfl) ?_
    refine seq_val rfl rfl (R_wmul rfl rfl rfl) (by simp only [List.set_cons_succ, List.set_cons_zero]; exact rfl) ?_
    refine seq_val rfl rfl (R_assign (v := .int .u64 _) rfl rfl) (by simp only [List.set_cons_succ, List.set_cons_zero]; exact rfl) ?_
    refine wpList_nil ?_
    have hz2 := wrap_u64 (z * 2685821657736338717)
    generalize IntKind.u64.wrap (z * 2685821657736338717) = z2 at hz2 ⊢
    go_upto_region 7 with (fail)
    refine wp_region_lit ?_
    refine seq_val rfl rfl (R_move (v := .int .u64 _) rfl rfl) (by simp only [List.set_cons_succ, List.set_cons_zero]; exact rfl) ?_
    refine seq_val rfl rfl (R_move (v := .int .u64 _) rfl rfl) (by simp only [List.set_cons_succ, List.set_cons_zero]; exact rfl) ?_
    refine seq_val rfl rfl (R_shr (m := 32) rfl rfl rfl) (by simp only [List.set_cons_succ, List.set_cons_zero]; exact rfl) ?_
    refine seq_val rfl rfl (R_xor rfl rfl rfl) (by simp only [List.set_cons_succ, List.set_cons_zero]; exact rfl) ?_
    refine seq_val rfl rfl (R_shr (m := 8) rfl rfl rfl) (by simp only [List.set_cons_succ, List.set_cons_zero]; exact rfl) ?_
    refine seq_val rfl rfl (R_assign (v := .int .u64 _) rfl rfl) (by simp only [List.set_cons_succ, List.set_cons_zero]; exact rfl) ?_
    refine wpList_nil ?_
    have hz3 := fdiv_pow z2 (min 32 IntKind.u64.bits) hz2.1
    have hz4 := xor_u64 z2 _ hz2 ⟨hz3.1, by omega⟩
    generalize bits .xor .u64 z2 (z2.fdiv (2 ^ min 32 IntKind.u64.bits)) = z5 at hz4 ⊢
    have hz6 := shr8 hz4
    generalize z5.fdiv (2 ^ min 8 IntKind.u64.bits) = z7 at hz6 ⊢
    go_wp2
    go_ret
    exact ⟨z7, rfl, hz6.1, hz6.2, ⟨hb, ⟨na, nc, xs, rfl, hn⟩, E0, d + 1, st2, q, by omega, by omega, hst2.1, hst2.2⟩, E⟩
  · obtain ⟨st2, rfl⟩ : ∃ st2, st2 = st1 := ⟨_, rfl⟩
    have hst2 := hst1
    go_upto_region 4 with (fail)
    refine wp_region_lit ?_
    refine seq_val rfl rfl (R_move (v := .pointer (some ⟨_, _, none⟩)) rfl rfl) (by simp only [List.set_cons_succ, List.set_cons_zero]; exact rfl) ?_
    refine seq_val rfl rfl (R_nilCheck rfl rfl) (by simp only [List.set_cons_succ, List.set_cons_zero]; exact rfl) ?_
    refine seq_val rfl rfl (R_field rfl rfl Try.underlying98 rfl (n := 1) (sz := 1) rfl (by kernel_rfl) (by decide)) (by simp only [List.set_cons_succ, List.set_cons_zero]; exact rfl) ?_
    refine seq_val rfl rfl (R_load rfl rfl Try.underlying3 rfl ((cells_of_block q 1).trans (getS (get0)))) (by simp only [List.set_cons_succ, List.set_cons_zero]; exact rfl) ?_
    refine seq_val rfl rfl (R_add rfl rfl rfl (by omega) (by omega)) (by simp only [List.set_cons_succ, List.set_cons_zero]; exact rfl) ?_
    refine seq_val rfl rfl (R_nilCheck rfl rfl) (by simp only [List.set_cons_succ, List.set_cons_zero]; exact rfl) ?_
    refine seq_val rfl rfl (R_field rfl rfl Try.underlying98 rfl (n := 1) (sz := 1) rfl (by kernel_rfl) (by decide)) (by simp only [List.set_cons_succ, List.set_cons_zero]; exact rfl) ?_
    refine seq_to rfl rfl (R_store (v := .int .i64 _) rfl rfl rfl rfl (by kernel_rfl) ((cells_of_block q 1).trans rfl) (free_of_block q 1)) fun w3 hw => ?_
    replace q := put_cell hw q (by simp only [List.setIfInBounds_toArray, List.set_cons_succ, List.set_cons_zero]; exact rfl)
    replace E0 := ext_cell E0 hw (fun h => by first | exact absurd h (by omega) | simp)
    replace E := ext_cell E hw (fun h => by first | exact absurd h (by omega) | simp)
    clear hw
    refine wpList_nil ?_
    go_upto_region 5 with (fail)
    refine region_any (Ext [] w3) follows fun w4 hh eS => ?_
    have q_ := q
    replace q := keep_same hh q
    replace E := ext_same E eS
    replace E0 := ext_same E0 eS
    refine anyH_take (i := 0) rfl (by kernel_rfl) (by kernel_rfl) (by kernel_rfl) (fun _ _ _ h => h) rfl rfl (fun w' hS => R_move (v := .pointer (some ⟨_, _, none⟩)) rfl rfl) eS (by simp only [List.set_cons_succ, List.set_cons_zero]; exact rfl) ?_
    refine anyH_take (i := 1) rfl (by kernel_rfl) (by kernel_rfl) (by kernel_rfl) (fun _ _ _ h => h) rfl rfl (fun w' hS => R_nilCheck rfl rfl) eS (by simp only [List.set_cons_succ, List.set_cons_zero]; exact rfl) ?_
    refine anyH_take (i := 2) rfl (by kernel_rfl) (by kernel_rfl) (by kernel_rfl) (fun _ _ _ h => h) rfl rfl (fun w' hS => R_field rfl rfl Try.underlying98 rfl (n := 2) (sz := 1) rfl (by kernel_rfl) (by decide)) eS (by simp only [List.set_cons_succ, List.set_cons_zero]; exact rfl) ?_
    refine anyH_take (i := 3) rfl (by kernel_rfl) (by kernel_rfl) (by kernel_rfl) (fun _ _ _ h => h) rfl rfl (fun w' hS => R_load rfl rfl Try.underlying96 rfl ((cells_of_block (hS.keep q_ (by simp)) 2).trans (getS (getS (get0))))) eS (by simp only [List.set_cons_succ, List.set_cons_zero]; exact rfl) ?_
    refine anyH_take (i := 4) rfl (by kernel_rfl) (by kernel_rfl) (by kernel_rfl) (fun _ _ _ h => h) rfl rfl (fun w' hS => R_move (v := .pointer (some ⟨_, _, none⟩)) rfl rfl) eS (by simp only [List.set_cons_succ, List.set_cons_zero]; exact rfl) ?_
    refine anyH_take (i := 5) rfl (by kernel_rfl) (by kernel_rfl) (by kernel_rfl) (fun _ _ _ h => h) rfl rfl (fun w' hS => R_nilCheck rfl rfl) eS (by simp only [List.set_cons_succ, List.set_cons_zero]; exact rfl) ?_
    refine anyH_take (i := 6) rfl (by kernel_rfl) (by kernel_rfl) (by kernel_rfl) (fun _ _ _ h => h) rfl rfl (fun w' hS => R_field rfl rfl Try.underlying98 rfl (n := 2) (sz := 1) rfl (by kernel_rfl) (by decide)) eS (by simp only [List.set_cons_succ, List.set_cons_zero]; exact rfl) ?_
    refine anyH_take (i := 7) rfl (by kernel_rfl) (by kernel_rfl) (by kernel_rfl) (fun _ _ _ h => h) rfl rfl (fun w' hS => R_load rfl rfl Try.underlying96 rfl ((cells_of_block (hS.keep q_ (by simp)) 2).trans (getS (getS (get0))))) eS (by simp only [List.set_cons_succ, List.set_cons_zero]; exact rfl) ?_
    refine anyH_take (i := 8) rfl (by kernel_rfl) (by kernel_rfl) (by kernel_rfl) (fun _ _ _ h => h) rfl rfl (fun w' hS => R_shr (m := 29) rfl rfl rfl) eS (by simp only [List.set_cons_succ, List.set_cons_zero]; exact rfl) ?_
    refine anyH_take (i := 9) rfl (by kernel_rfl) (by kernel_rfl) (by kernel_rfl) (fun _ _ _ h => h) rfl rfl (fun w' hS => R_xor rfl rfl rfl) eS (by simp only [List.set_cons_succ, List.set_cons_zero]; exact rfl) ?_
    refine anyH_take (i := 10) rfl (by kernel_rfl) (by kernel_rfl) (by kernel_rfl) (fun _ _ _ h => h) rfl rfl (fun w' hS => R_assign (v := .int .u64 _) rfl rfl) eS (by simp only [List.set_cons_succ, List.set_cons_zero]; exact rfl) ?_
    refine wpAnyH_done (by kernel_rfl) ?_ _
    clear q_ hh eS
    generalize hz : bits .xor .u64 st2 (st2.fdiv (2 ^ min 29 IntKind.u64.bits)) = z
    clear hz
    go_upto_region 6 with (fail)
    refine wp_region_lit ?_
    refine seq_val rfl rfl (R_move (v := .int .u64 _) rfl rfl) (by simp only [List.set_cons_succ, List.set_cons_zero]; exact rfl) ?_
    refine seq_val rfl rfl (R_wmul rfl rfl rfl) (by simp only [List.set_cons_succ, List.set_cons_zero]; exact rfl) ?_
    refine seq_val rfl rfl (R_assign (v := .int .u64 _) rfl rfl) (by simp only [List.set_cons_succ, List.set_cons_zero]; exact rfl) ?_
    refine wpList_nil ?_
    have hz2 := wrap_u64 (z * 2685821657736338717)
    generalize IntKind.u64.wrap (z * 2685821657736338717) = z2 at hz2 ⊢
    go_upto_region 7 with (fail)
    refine wp_region_lit ?_
    refine seq_val rfl rfl (R_move (v := .int .u64 _) rfl rfl) (by simp only [List.set_cons_succ, List.set_cons_zero]; exact rfl) ?_
    refine seq_val rfl rfl (R_move (v := .int .u64 _) rfl rfl) (by simp only [List.set_cons_succ, List.set_cons_zero]; exact rfl) ?_
    refine seq_val rfl rfl (R_shr (m := 32) rfl rfl rfl) (by simp only [List.set_cons_succ, List.set_cons_zero]; exact rfl) ?_
    refine seq_val rfl rfl (R_xor rfl rfl rfl) (by simp only [List.set_cons_succ, List.set_cons_zero]; exact rfl) ?_
    refine seq_val rfl rfl (R_shr (m := 8) rfl rfl rfl) (by simp only [List.set_cons_succ, List.set_cons_zero]; exact rfl) ?_
    refine seq_val rfl rfl (R_assign (v := .int .u64 _) rfl rfl) (by simp only [List.set_cons_succ, List.set_cons_zero]; exact rfl) ?_
    refine wpList_nil ?_
    have hz3 := fdiv_pow z2 (min 32 IntKind.u64.bits) hz2.1
    have hz4 := xor_u64 z2 _ hz2 ⟨hz3.1, by omega⟩
    generalize bits .xor .u64 z2 (z2.fdiv (2 ^ min 32 IntKind.u64.bits)) = z5 at hz4 ⊢
    have hz6 := shr8 hz4
    generalize z5.fdiv (2 ^ min 8 IntKind.u64.bits) = z7 at hz6 ⊢
    go_wp2
    go_ret
    exact ⟨z7, rfl, hz6.1, hz6.2, ⟨hb, ⟨na, nc, xs, rfl, hn⟩, E0, d + 1, st2, q, by omega, by omega, hst2.1, hst2.2⟩, E⟩
theorem upto_val {v n : Int} (h1 : 0 ≤ v ∧ v < 72057594037927936) (h2 : 1 ≤ n ∧ n ≤ 1000000) : IntKind.u64.wrap (n + 1) = n + 1 ∧ IntKind.i64.wrap (v.tmod (n + 1)) = v.tmod (n + 1) ∧ 0 ≤ v.tmod (n + 1) ∧ v.tmod (n + 1) ≤ n := by
  have h3 : 0 ≤ v.tmod (n + 1) := Int.tmod_nonneg _ h1.1
  have h4 : v.tmod (n + 1) < n + 1 := Int.tmod_lt_of_pos _ (by omega)
  refine ⟨?_, IntWalk.i64_in _ (by omega), h3, by omega⟩
  simp only [IntKind.wrap, IntKind.bits, IntKind.signed]
  simp
  omega
set_option maxRecDepth 100000 in
set_option maxHeartbeats 4000000 in
theorem upto_any (w0 w : World) (b k : Nat) (nv : Value) (n : Int) (h : LotsOk w0 w b k nv) (hk : k ≤ 1000000) (h0 : -1000000 ≤ n) (hn : n ≤ 1000000) :
    Calls Try.prog 51 #[.pointer (some ⟨b, 0, none⟩), .int .i64 n] w fun e w' => ∃ v : Int, e = .returned (.int .i64 v) ∧ 0 ≤ v ∧ v ≤ max n 0 ∧ LotsOk w0 w' b (k + 1) nv ∧ Ext [b] w w' := by
  by_cases hlt : n < 1
  · go_enter Try.func51, Try.ntmps51
    go_wp2
    go_ret
    exact ⟨0, rfl, by omega, by omega, lots_mono h (by omega), Ext.refl _ _⟩
  · have E : Ext [] w w := Ext.refl _ _
    go_enter Try.func51, Try.ntmps51
    go_upto_region 3 with (fail)
    refine wp_region_lit ?_
    refine seq_val rfl rfl (R_move (v := .pointer (some ⟨_, _, none⟩)) rfl rfl) (by simp only [List.set_cons_succ, List.set_cons_zero]; exact rfl) ?_
    refine seq_call rfl rfl (by kernel_rfl) (lnext_any w0 w b k nv h hk) fun e w1 hR => ?_
    obtain ⟨v, rfl, hv1, hv2, HL, e1⟩ := hR
    refine ⟨_, _, rfl, (by simp only [List.set_cons_succ, List.set_cons_zero]; exact rfl), ?_⟩
    have hu := upto_val (n := n) ⟨hv1, hv2⟩ ⟨by omega, hn⟩
    refine seq_val rfl rfl (R_move (v := .int .i64 _) rfl rfl) (by simp only [List.set_cons_succ, List.set_cons_zero]; exact rfl) ?_
    refine seq_val rfl rfl (R_add rfl rfl rfl (by omega) (by omega)) (by simp only [List.set_cons_succ, List.set_cons_zero]; exact rfl) ?_
    refine seq_val rfl rfl (R_convert rfl rfl Try.underlying3 Try.underlying96) (by simp only [List.set_cons_succ, List.set_cons_zero]; exact rfl) ?_
    rw [hu.1]
    refine seq_val rfl rfl (R_rem rfl rfl rfl (by omega)) (by simp only [List.set_cons_succ, List.set_cons_zero]; exact rfl) ?_
    refine seq_val rfl rfl (R_convert rfl rfl Try.underlying96 Try.underlying3) (by simp only [List.set_cons_succ, List.set_cons_zero]; exact rfl) ?_
    rw [hu.2.1]
    refine seq_val rfl rfl (R_assign (v := .int .i64 _) rfl rfl) (by simp only [List.set_cons_succ, List.set_cons_zero]; exact rfl) ?_
    refine wpList_nil ?_
    go_wp2
    go_ret
    exact ⟨_, rfl, hu.2.2.1, by omega, HL, e1⟩
set_option maxRecDepth 100000 in
set_option maxHeartbeats 4000000 in
theorem in_any (w0 w : World) (b k : Nat) (nv : Value) (lo hi : Int) (h : LotsOk w0 w b k nv) (hk : k ≤ 1000000) (h1 : -1000 ≤ lo) (h2 : lo ≤ 1000) (h3 : -1000 ≤ hi) (h4 : hi ≤ 1000) :
    Calls Try.prog 55 #[.pointer (some ⟨b, 0, none⟩), .int .i64 lo, .int .i64 hi] w fun e w' => ∃ v : Int, e = .returned (.int .i64 v) ∧ lo ≤ v ∧ v ≤ max lo hi ∧ LotsOk w0 w' b (k + 1) nv ∧ Ext [b] w w' := by
  have hc := upto_any w0 w b k nv (hi - lo) h hk (by omega) (by omega)
  have E : Ext [b] w w := Ext.refl _ _
  go_enter Try.func55, Try.ntmps55
  go_upto_region 1 with (fail)
  refine wp_region_lit ?_
  refine seq_val rfl rfl (R_move (v := .int .i64 _) rfl rfl) (by simp only [List.set_cons_succ, List.set_cons_zero]; exact rfl) ?_
  refine seq_val rfl rfl (R_move (v := .pointer (some ⟨_, _, none⟩)) rfl rfl) (by simp only [List.set_cons_succ, List.set_cons_zero]; exact rfl) ?_
  refine seq_val rfl rfl (R_move (v := .int .i64 _) rfl rfl) (by simp only [List.set_cons_succ, List.set_cons_zero]; exact rfl) ?_
  refine seq_val rfl rfl (R_move (v := .int .i64 _) rfl rfl) (by simp only [List.set_cons_succ, List.set_cons_zero]; exact rfl) ?_
  refine seq_val rfl rfl (R_sub rfl rfl rfl (by omega) (by omega)) (by simp only [List.set_cons_succ, List.set_cons_zero]; exact rfl) ?_
  refine seq_call rfl rfl (by kernel_rfl) (hc) fun e w1 hR => ?_
  obtain ⟨v, rfl, hv1, hv2, HL, e1⟩ := hR
  refine ⟨_, _, rfl, (by simp only [List.set_cons_succ, List.set_cons_zero]; exact rfl), ?_⟩
  replace E := E.trans e1
  refine seq_val rfl rfl (R_add rfl rfl rfl (by omega) (by omega)) (by simp only [List.set_cons_succ, List.set_cons_zero]; exact rfl) ?_
  refine seq_val rfl rfl (R_assign (v := .int .i64 _) rfl rfl) (by simp only [List.set_cons_succ, List.set_cons_zero]; exact rfl) ?_
  refine wpList_nil ?_
  go_wp2
  go_ret
  exact ⟨_, rfl, by omega, by omega, HL, e1⟩
set_option maxRecDepth 100000 in
set_option maxHeartbeats 4000000 in
theorem of_any (w0 w : World) (b k : Nat) (nv : Value) (g : Nat) (T : TypeId) (xs : List Int) (h : LotsOk w0 w b k nv) (hk : k ≤ 1000000) (hg : w.heap[g]? = some (.cells (xs.map (Value.int .i64)).toArray T (0, 0))) (hgb : g ≠ b) (hx : 0 < xs.length) (hx2 : xs.length ≤ 1000) :
    Calls Try.prog 45 #[.pointer (some ⟨b, 0, none⟩), .slice (some ⟨g, 0, none⟩) xs.length xs.length] w fun e w' => ∃ v : Int, e = .returned (.int .i64 v) ∧ v ∈ xs ∧ LotsOk w0 w' b (k + 1) nv ∧ Ext [b] w w' := by
  have hc := upto_any w0 w b k nv ((xs.length : Int) - 1) h hk (by omega) (by omega)
  have E : Ext [b] w w := Ext.refl _ _
  go_enter Try.func45, Try.ntmps45
  go_upto_region 1 with (fail)
  refine wp_region_lit ?_
  refine seq_val rfl rfl (R_move (v := .slice _ _ _) rfl rfl) (by simp only [List.set_cons_succ, List.set_cons_zero]; exact rfl) ?_
  refine seq_val rfl rfl (R_move (v := .pointer (some ⟨_, _, none⟩)) rfl rfl) (by simp only [List.set_cons_succ, List.set_cons_zero]; exact rfl) ?_
  refine seq_val rfl rfl (R_move (v := .slice _ _ _) rfl rfl) (by simp only [List.set_cons_succ, List.set_cons_zero]; exact rfl) ?_
  refine seq_val rfl rfl (R_len rfl rfl rfl Try.underlying29) (by simp only [List.set_cons_succ, List.set_cons_zero]; exact rfl) ?_
  refine seq_val rfl rfl (R_sub rfl rfl rfl (by omega) (by omega)) (by simp only [List.set_cons_succ, List.set_cons_zero]; exact rfl) ?_
  refine seq_call rfl rfl (by kernel_rfl) (hc) fun e w1 hR => ?_
  obtain ⟨v, rfl, hv1, hv2, HL, e1⟩ := hR
  refine ⟨_, _, rfl, (by simp only [List.set_cons_succ, List.set_cons_zero]; exact rfl), ?_⟩
  replace hg := (e1).keep hg (by simp; omega)
  replace E := E.trans e1
  obtain ⟨i, rfl⟩ := Int.eq_ofNat_of_zero_le hv1
  have hil : i < xs.length := by omega
  have hci := (cells_of_block hg (0 + (i : Int).toNat * 1)).trans (show (xs.map (Value.int .i64)).toArray[0 + (i : Int).toNat * 1]? = some (.int .i64 (xs[i])) by simp [hil])
  refine seq_val rfl rfl (R_ixSlice (sz := 1) rfl rfl rfl Try.underlying29 (by kernel_rfl) (by omega) (by omega)) (by simp only [List.set_cons_succ, List.set_cons_zero]; exact rfl) ?_
  refine seq_val rfl rfl (R_load (v := .int .i64 (xs[i])) rfl rfl Try.underlying3 rfl hci) (by simp only [List.set_cons_succ, List.set_cons_zero]; exact rfl) ?_
  refine seq_val rfl rfl (R_assign (v := .int .i64 _) rfl rfl) (by simp only [List.set_cons_succ, List.set_cons_zero]; exact rfl) ?_
  refine wpList_nil ?_
  go_wp2
  go_ret
  exact ⟨_, rfl, List.getElem_mem hil, HL, e1⟩
end Go.Proofs.Ytholfdgebdlgjaa
