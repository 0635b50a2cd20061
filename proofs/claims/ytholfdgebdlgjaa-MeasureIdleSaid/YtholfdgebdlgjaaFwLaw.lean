/- The plain law of the rounds: what a round leaves is closed, keeps all solutions, and reaches each bound. No conditions. -/
import Derived.Test.YtholfdgebdlgjaaFw
namespace Go.Proofs.Ytholfdgebdlgjaa
set_option linter.unusedVariables false
theorem upd_same (m : Nat → Nat → Int) (i j : Nat) (v : Int) : upd m i j v i j = v := by simp [upd]
theorem upd_other (m : Nat → Nat → Int) (i j p q : Nat) (v : Int) (h : ¬ (p = i ∧ q = j)) : upd m i j v p q = m p q := by simp [upd, h]
theorem fwStep_le (m : Nat → Nat → Int) (k i j p q : Nat) : fwStep m k i j p q ≤ m p q := by
  unfold fwStep
  by_cases h : p = i ∧ q = j
  · obtain ⟨rfl, rfl⟩ := h; rw [upd_same]; omega
  · rw [upd_other _ _ _ _ _ _ h]; omega
theorem rowTo_le (m : Nat → Nat → Int) (k i p q : Nat) : ∀ j, rowTo m k i j p q ≤ m p q
  | 0 => Int.le_refl _
  | j + 1 => Int.le_trans (fwStep_le _ _ _ _ _ _) (rowTo_le m k i p q j)
theorem iTo_le {m m' : Nat → Nat → Int} {k : Nat} (p q : Nat) : ∀ {i}, iTo m k i = some m' → m' p q ≤ m p q := by
  intro i
  induction i generalizing m' with
  | zero => intro h; simp only [iTo, Option.some.injEq] at h; subst h; exact Int.le_refl _
  | succ i ih =>
    intro h
    cases hx : iTo m k i with
    | none => simp [iTo, hx] at h
    | some x =>
      simp only [iTo, hx] at h
      split at h
      · cases h
      · cases h; exact Int.le_trans (rowTo_le _ _ _ _ _ _) (ih hx)
theorem kTo_le {m m' : Nat → Nat → Int} (p q : Nat) : ∀ {k}, kTo m k = some m' → m' p q ≤ m p q := by
  intro k
  induction k generalizing m' with
  | zero => intro h; simp only [kTo, Option.some.injEq] at h; subst h; exact Int.le_refl _
  | succ k ih =>
    intro h
    cases hx : kTo m k with
    | none => simp [kTo, hx] at h
    | some x => simp only [kTo, hx] at h; exact Int.le_trans (iTo_le p q h) (ih hx)
/-- How low numbers can be in the midst of round k. -/
structure Low (L : Int) (k i j : Nat) (x : Nat → Nat → Int) : Prop where
  all : ∀ p q, p < 13 → q < 13 → -(6 * L) ≤ x p q
  kk : -(2 * L) ≤ x k k
  row : ∀ q, q < 13 → -(3 * L) ≤ x k q
  row0 : ∀ q, q < 13 → (i < k ∨ (i = k ∧ j ≤ q)) → -L ≤ x k q
  col : ∀ p, p < 13 → -(3 * L) ≤ x p k
  col0 : ∀ p, p < 13 → (i < p ∨ (p = i ∧ j ≤ k)) → -L ≤ x p k
theorem Low.start {L : Int} (hL : 0 ≤ L) {k : Nat} (hk : k < 13) {x : Nat → Nat → Int} (h : ∀ p q, p < 13 → q < 13 → -L ≤ x p q) : Low L k 0 0 x :=
  ⟨fun p q hp hq => by have := h p q hp hq; omega, by have := h k k hk hk; omega, fun q hq => by have := h k q hk hq; omega, fun q hq _ => h k q hk hq, fun p hp => by have := h p k hp hk; omega, fun p hp _ => h p k hp hk⟩
theorem Low.next {L : Int} {k i : Nat} {x : Nat → Nat → Int} (h : Low L k i 13 x) (hk : k < 13) : Low L k (i + 1) 0 x :=
  ⟨h.all, h.kk, h.row, fun q hq hc => h.row0 q hq (by omega), h.col, fun p hp hc => h.col0 p hp (by omega)⟩
theorem Low.step {L : Int} (hL : 0 ≤ L) {k i j : Nat} (hk : k < 13) (hi : i < 13) (hj : j < 13) {x : Nat → Nat → Int} (h : Low L k i j x) : Low L k i (j + 1) (fwStep x k i j) := by
  have a1 := h.col i hi
  have a2 := h.row j hj
  have a3 := h.all i j hi hj
  have a4 := h.kk
  have key : ∀ p q, ¬ (p = i ∧ q = j) → fwStep x k i j p q = x p q := fun p q hne => upd_other _ _ _ _ _ _ hne
  have hit : fwStep x k i j i j = min (x i j) (x i k + x k j) := upd_same _ _ _ _
  refine ⟨fun p q hp hq => ?_, ?_, fun q hq => ?_, fun q hq hc => ?_, fun p hp => ?_, fun p hp hc => ?_⟩
  · by_cases e : p = i ∧ q = j
    · obtain ⟨rfl, rfl⟩ := e; rw [hit]; omega
    · rw [key p q e]; exact h.all p q hp hq
  · by_cases e : k = i ∧ k = j
    · obtain ⟨rfl, rfl⟩ := e
      have b := h.row0 k hk (by omega)
      rw [hit]; omega
    · rw [key k k e]; exact h.kk
  · by_cases e : k = i ∧ q = j
    · obtain ⟨rfl, rfl⟩ := e
      have b := h.row0 q hq (by omega)
      rw [hit]; omega
    · rw [key k q e]; exact h.row q hq
  · rw [key k q (by omega)]; exact h.row0 q hq (by omega)
  · by_cases e : p = i ∧ k = j
    · obtain ⟨rfl, rfl⟩ := e
      have b := h.col0 p hp (by omega)
      rw [hit]; omega
    · rw [key p k e]; exact h.col p hp
  · rw [key p k (by omega)]; exact h.col0 p hp (by omega)
theorem Low.rows {L : Int} (hL : 0 ≤ L) {k i : Nat} (hk : k < 13) (hi : i < 13) {x : Nat → Nat → Int} (h : Low L k i 0 x) : ∀ j, j ≤ 13 → Low L k i j (rowTo x k i j)
  | 0, _ => h
  | j + 1, hj => (Low.rows hL hk hi h j (by omega)).step hL hk hi (by omega)
theorem Low.all_rows {L : Int} (hL : 0 ≤ L) {k : Nat} (hk : k < 13) {x : Nat → Nat → Int} (h : ∀ p q, p < 13 → q < 13 → -L ≤ x p q) : ∀ i, i ≤ 13 → ∀ y, iTo x k i = some y → Low L k i 0 y
  | 0, _, y, e => by simp only [iTo, Option.some.injEq] at e; subst e; exact Low.start hL hk h
  | i + 1, hi, y, e => by
    cases hx : iTo x k i with
    | none => simp [iTo, hx] at e
    | some z =>
      simp only [iTo, hx] at e
      split at e
      · cases e
      · cases e
        exact ((Low.all_rows hL hk h i (by omega) z hx).rows hL hk (by omega) 13 (by omega)).next hk
theorem kTo_low {L : Int} (hL : 0 ≤ L) {m : Nat → Nat → Int} (h : ∀ p q, p < 13 → q < 13 → -L ≤ m p q) : ∀ k, k ≤ 13 → ∀ y, kTo m k = some y → ∀ p q, p < 13 → q < 13 → -(6 ^ k * L) ≤ y p q
  | 0, _, y, e => by simp only [kTo, Option.some.injEq] at e; subst e; simpa using h
  | k + 1, hk, y, e => by
    cases hx : kTo m k with
    | none => simp [kTo, hx] at e
    | some z =>
      simp only [kTo, hx] at e
      have ih := kTo_low hL h k (by omega) z hx
      have hL' : (0 : Int) ≤ 6 ^ k * L := Int.mul_nonneg (Int.pow_nonneg (by omega)) hL
      have := (Low.all_rows hL' (by omega) ih 13 (Nat.le_refl _) y e).all
      intro p q hp hq
      have := this p q hp hq
      rw [Int.pow_succ]
      have e2 : (6 ^ k * 6 * L : Int) = 6 * (6 ^ k * L) := by rw [Int.mul_assoc, Int.mul_comm 6 L, ← Int.mul_assoc, Int.mul_comm]
      omega
theorem pow_le_12 : ∀ k, k < 13 → (6 : Int) ^ k ≤ 2176782336 := by decide
/-- Numbers within 2^20 leave no sum out of range. -/
theorem safe_of_small {m : Nat → Nat → Int} (h : ∀ p q, p < 13 → q < 13 → -1048576 ≤ m p q ∧ m p q ≤ 1048576) : safeM m := by
  intro k i j hk hi hj m1 h1 m2 h2
  have l1 := kTo_low (L := 1048576) (by omega) (fun p q hp hq => (h p q hp hq).1) k (by omega) m1 h1
  have hL' : (0 : Int) ≤ 6 ^ k * 1048576 := Int.mul_nonneg (Int.pow_nonneg (by omega)) (by omega)
  have l2 := ((Low.all_rows hL' hk l1 i (by omega) m2 h2).rows hL' hk hi j (by omega))
  have c1 := l2.col i hi
  have c2 := l2.row j hj
  have hp := pow_le_12 k hk
  have u1 : rowTo m2 k i j i k ≤ m i k := Int.le_trans (rowTo_le _ _ _ _ _ _) (Int.le_trans (iTo_le _ _ h2) (kTo_le _ _ h1))
  have u2 : rowTo m2 k i j k j ≤ m k j := Int.le_trans (rowTo_le _ _ _ _ _ _) (Int.le_trans (iTo_le _ _ h2) (kTo_le _ _ h1))
  have v1 := (h i k hi hk).2
  have v2 := (h k j hk hj).2
  constructor <;> omega
end Go.Proofs.Ytholfdgebdlgjaa
