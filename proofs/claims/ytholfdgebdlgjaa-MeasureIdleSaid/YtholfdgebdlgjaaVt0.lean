/- Tapes whose lists are one's own. No conditions. -/
import Derived.Test.YtholfdgebdlgjaaV1
import Derived.Test.YtholfdgebdlgjaaMof
namespace Go.Proofs.Ytholfdgebdlgjaa
open Go.RowKit
set_option linter.unusedVariables false
set_option linter.unusedSimpArgs false
theorem gr_one (x : Int × Int) : ∀ u ∈ grRow x, u.oneCell' = true := by simp [grRow, Value.oneCell']
theorem rd_one (x : Int × Int × Int × Int) : ∀ u ∈ rdRow x, u.oneCell' = true := by simp [rdRow, Value.oneCell']
theorem lk_one (x : Int × Int × Int × Int × Int × Int) : ∀ u ∈ lkRow x, u.oneCell' = true := by simp [lkRow, Value.oneCell']
/-- Tapes in memory of one's own. -/
def OwnTp (w : World) (base : Nat) (gv rv lv : Value) (t : Tp) : Prop :=
  w.ownsRow base 23 2 gv t.gr.length (flatG t.gr) ∧ w.ownsRow base 66 4 rv t.rd.length (flatR t.rd) ∧ w.ownsRow base 75 6 lv t.lk.length (flatK t.lk)
theorem flatR_set (u : Int) : ∀ (rd : List (Int × Int × Int × Int)) (i : Nat), i < rd.length → (flatR rd).set (i * 4 + 3) (.int .i64 u) = flatR (rd.set i ((rd.getD i (0, 0, 0, 0)).1, (rd.getD i (0, 0, 0, 0)).2.1, (rd.getD i (0, 0, 0, 0)).2.2.1, u))
  | [], i, h => by simp at h
  | r :: rd, 0, _ => by simp [flatR, rdRow]
  | r :: rd, i + 1, h => by
    have := flatR_set u rd i (by simpa using h)
    simp only [flatR] at this
    simp only [flatR, List.map_cons, List.flatten_cons, List.set_cons_succ, List.getD_cons_succ]
    rw [← this, List.set_append_right _ _ (by simp [rdRow]; omega)]
    congr 2
    simp [rdRow]; omega
end Go.Proofs.Ytholfdgebdlgjaa
