/- Two arrays are compared: element by element. No conditions. -/
import Derived.Test.YtholfdgebdlgjaaSx
namespace Go.Proofs.Ytholfdgebdlgjaa
open Go.RowKit
set_option linter.unusedVariables false
set_option linter.unusedSimpArgs false
theorem run_equalIn_array {P : Program} {w : World} {d len n : Nat} {t elem : TypeId} {xs ys : Array Value} (ht : P.underlying t = some (.array len elem)) (hn : (P.info? elem).map (·.size) = some n) (e : Nat → Bool)
    (hx : ∀ i, i < len → ∃ x y, (part elem xs (i * n)).run P w = .ok x w ∧ (part elem ys (i * n)).run P w = .ok y w ∧ (Op.equalIn d elem x y).run P w = .ok (e i) w) :
    (Op.equalIn (d + 1) t (.agg xs) (.agg ys)).run P w = .ok ((List.range len).all e) w := by
  have hz : (sizeOf elem).run P w = .ok n w := by
    cases hq : P.info? elem with
    | none => simp [hq] at hn
    | some j =>
      have hs : j.size = n := by simpa [hq] using hn
      simp [sizeOf, typeInfo, hq, hs]
  have hL : ∀ i ∈ List.range' 0 len 1, i < len := by simp
  have hall : (List.range len).all e = (List.range' 0 len 1).all e := by rw [List.range_eq_range']
  rw [hall]
  simp only [Op.equalIn, Sem.run_bind, run_underlying ht, Result.andThen_ok, hz, Std.Legacy.Range.forIn_eq_forIn_range', Std.Legacy.Range.size, Nat.sub_zero, Nat.add_sub_cancel, Nat.div_one]
  generalize List.range' 0 len 1 = L at hL ⊢
  induction L with
  | nil => simp
  | cons i L ih =>
    obtain ⟨x, y, h1, h2, h3⟩ := hx i (hL i (by simp))
    have ih' := ih (fun j hj => hL j (by simp [hj]))
    simp only [List.forIn_cons, Sem.run_bind, h1, h2, h3, Result.andThen_ok, List.all_cons]
    cases he : e i with
    | false => simp
    | true =>
      simp only [Bool.true_and]
      simpa using ih'
end Go.Proofs.Ytholfdgebdlgjaa
