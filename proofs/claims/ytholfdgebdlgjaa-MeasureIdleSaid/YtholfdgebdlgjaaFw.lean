/- Floyd and Warshall's rounds over 13 nodes as the program goes through them, in plain Lean. No conditions. -/
import Derived.Test.YtholfdgebdlgjaaMat
import Derived.Test.YtholfdgebdlgjaaEqs
namespace Go.Proofs.Ytholfdgebdlgjaa
open Go.RowKit
/-- Whether two matrices agree. -/
def eqM (m m' : Nat → Nat → Int) : Bool := (List.range 13).all fun i => (List.range 13).all fun j => m i j == m' i j
theorem eqM_iff {m m' : Nat → Nat → Int} : eqM m m' = true ↔ ∀ i j, i < 13 → j < 13 → m i j = m' i j := by
  simp only [eqM, List.all_eq_true, List.mem_range, beq_iff_eq]
  exact ⟨fun h i j hi hj => h i hi j hj, fun h i hi j hj => h i j hi hj⟩
theorem matCells_row (m : Nat → Nat → Int) (i j : Nat) (hi : i < 13) (hj : j < 13) : ((matCells m).extract (i * 13) (i * 13 + 13))[j * 1]? = some (.int .i64 (m i j)) := by
  have := matCells_get m i j hi hj
  have hs := matCells_size m
  rw [Nat.mul_one, Array.getElem?_extract, if_pos (by rw [hs]; omega), this]
theorem R_neqMat {ρ : Operand → Value} {o : Oper} {w : World} {x y : Operand} {t' : TypeId} {m m' : Nat → Nat → Int} (ho : o.op = .binOp .neq 105 x y t') (hx : ρ x = .agg (matCells m)) (hy : ρ y = .agg (matCells m')) :
    (execOp ρ o).run Try.prog w = .ok (.value (.bool (!eqM m m'))) w := by
  have hrow : ∀ i, i < 13 → (Op.equalIn 9999 103 (.agg ((matCells m).extract (i * 13) (i * 13 + 13))) (.agg ((matCells m').extract (i * 13) (i * 13 + 13)))).run Try.prog w = .ok ((List.range 13).all fun j => m i j == m' i j) w := by
    intro i hi
    refine run_equalIn_array (n := 1) Try.underlying103 (by kernel_rfl) _ fun j hj => ?_
    refine ⟨.int .i64 (m i j), .int .i64 (m' i j), ?_, ?_, run_equalIn_int w _ _ .i64 .i64 _ _ Try.underlying3⟩
    · simp only [part, isAgg, Sem.run_bind, run_underlying Try.underlying3, Result.andThen_ok, Sem.run_pure, matCells_row m i j hi hj]
      rfl
    · simp only [part, isAgg, Sem.run_bind, run_underlying Try.underlying3, Result.andThen_ok, Sem.run_pure, matCells_row m' i j hi hj]
      rfl
  have hz : (sizeOf 103).run Try.prog w = .ok 13 w := by
    have h : (Try.prog.info? 103).map (·.size) = some 13 := by kernel_rfl
    cases hq : Try.prog.info? 103 with
    | none => simp [hq] at h
    | some j =>
      have hs : j.size = 13 := by simpa [hq] using h
      simp [sizeOf, typeInfo, hq, hs]
  have hall : (Op.equalIn 10000 105 (.agg (matCells m)) (.agg (matCells m'))).run Try.prog w = .ok (eqM m m') w := by
    refine run_equalIn_array (n := 13) Try.underlying105 (by kernel_rfl) _ fun i hi => ?_
    refine ⟨_, _, ?_, ?_, hrow i hi⟩
    · simp only [part, isAgg, Sem.run_bind, run_underlying Try.underlying103, Result.andThen_ok, Sem.run_pure, if_true, hz]
    · simp only [part, isAgg, Sem.run_bind, run_underlying Try.underlying103, Result.andThen_ok, Sem.run_pure, if_true, hz]
  have hg : Try.prog.eqGuardType Try.prog.depth 105 = false := by kernel_rfl
  unfold execOp
  simp only [ho, hx, hy, Sem.run_bind, run_eqGuard_agg w .neq 105 x y (matCells m) (matCells m') hg, Result.andThen_ok, run_neq_struct, hall, Sem.run_pure]
theorem R_neqMat' {ρ : Operand → Value} {o : Oper} {w : World} {x y : Operand} {t' : TypeId} {m m' : Nat → Nat → Int} {b : Bool} (ho : o.op = .binOp .neq 105 x y t') (hx : ρ x = .agg (matCells m)) (hy : ρ y = .agg (matCells m')) (hb : (!eqM m m') = b) :
    (execOp ρ o).run Try.prog w = .ok (.value (.bool b)) w := by
  rw [← hb]; exact R_neqMat ho hx hy
/-- One comparison. -/
def fwStep (m : Nat → Nat → Int) (k i j : Nat) : Nat → Nat → Int := upd m i j (min (m i j) (m i k + m k j))
/-- The first j comparisons of a row. -/
def rowTo (m : Nat → Nat → Int) (k i : Nat) : Nat → Nat → Nat → Int
  | 0 => m
  | j + 1 => fwStep (rowTo m k i j) k i j
/-- The first i rows by way of k; none at a contradiction. -/
def iTo (m : Nat → Nat → Int) (k : Nat) : Nat → Option (Nat → Nat → Int)
  | 0 => some m
  | i + 1 => match iTo m k i with
    | none => none
    | some m' => if rowTo m' k i 13 i i < 0 then none else some (rowTo m' k i 13)
/-- By way of the first k nodes. -/
def kTo (m : Nat → Nat → Int) : Nat → Option (Nat → Nat → Int)
  | 0 => some m
  | k + 1 => match kTo m k with
    | none => none
    | some m' => iTo m' k 13
/-- No sum of a round leaves the range. -/
def safeM (m : Nat → Nat → Int) : Prop := ∀ k i j, k < 13 → i < 13 → j < 13 → ∀ m1, kTo m k = some m1 → ∀ m2, iTo m1 k i = some m2 →
  -9223372036854775808 ≤ rowTo m2 k i j i k + rowTo m2 k i j k j ∧ rowTo m2 k i j i k + rowTo m2 k i j k j ≤ 9223372036854775807
end Go.Proofs.Ytholfdgebdlgjaa
