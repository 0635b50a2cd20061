/- The plain law of the rounds, second part: closed matrices, solutions. No conditions. -/
import Derived.Test.YtholfdgebdlgjaaFwLaw
namespace Go.Proofs.Ytholfdgebdlgjaa
set_option linter.unusedVariables false
/-- All rows by way of k at once. -/
def relax (x : Nat → Nat → Int) (k : Nat) : Nat → Nat → Int := fun p q => if p < 13 ∧ q < 13 then min (x p q) (x p k + x k q) else x p q
def relaxRow (x : Nat → Nat → Int) (k i j : Nat) : Nat → Nat → Int := fun p q => if p = i ∧ q < j then min (x p q) (x p k + x k q) else x p q
def relaxRows (x : Nat → Nat → Int) (k i : Nat) : Nat → Nat → Int := fun p q => if p < i ∧ q < 13 then min (x p q) (x p k + x k q) else x p q
theorem rowTo_eq {x : Nat → Nat → Int} {k i : Nat} (hk : 0 ≤ x k k) : ∀ j, rowTo x k i j = relaxRow x k i j
  | 0 => by funext p q; simp [rowTo, relaxRow]
  | j + 1 => by
    have ih := rowTo_eq (i := i) hk j
    funext p q
    show fwStep (rowTo x k i j) k i j p q = _
    rw [ih]
    unfold fwStep
    by_cases e : p = i ∧ q = j
    · obtain ⟨rfl, rfl⟩ := e
      rw [upd_same]
      have e1 : relaxRow x k p q p q = x p q := by simp [relaxRow]
      have e2 : relaxRow x k p q p k = x p k := by
        unfold relaxRow
        split
        · omega
        · rfl
      have e3 : relaxRow x k p q k q = x k q := by simp [relaxRow]
      rw [e1, e2, e3]
      unfold relaxRow
      rw [if_pos ⟨rfl, by omega⟩]
    · rw [upd_other _ _ _ _ _ _ e]
      unfold relaxRow
      by_cases h1 : p = i ∧ q < j
      · rw [if_pos h1, if_pos ⟨h1.1, by omega⟩]
      · rw [if_neg h1, if_neg (by omega)]
theorem iTo_eq {x : Nat → Nat → Int} {k : Nat} (hk13 : k < 13) (hk : 0 ≤ x k k) : ∀ i, i ≤ 13 → ∀ y, iTo x k i = some y → y = relaxRows x k i ∧ ∀ p, p < i → 0 ≤ y p p
  | 0, _, y, e => by
    simp only [iTo, Option.some.injEq] at e
    subst e
    exact ⟨by funext p q; simp [relaxRows], fun p hp => absurd hp (Nat.not_lt_zero _)⟩
  | i + 1, hi, y, e => by
    cases hx : iTo x k i with
    | none => simp [iTo, hx] at e
    | some z =>
      obtain ⟨hz, hd⟩ := iTo_eq hk13 hk i (by omega) z hx
      simp only [iTo, hx] at e
      split at e
      · cases e
      · rename_i hneg
        cases e
        have hzk : z k k = x k k := by
          rw [hz]; unfold relaxRows
          split
          · omega
          · rfl
        have hrow := rowTo_eq (x := z) (k := k) (i := i) (by rw [hzk]; exact hk) 13
        have hkq : ∀ q, q < 13 → z k q = x k q := fun q hq => by
          rw [hz]; unfold relaxRows
          split
          · omega
          · rfl
        have hiq : ∀ q, z i q = x i q := fun q => by
          rw [hz]; unfold relaxRows
          rw [if_neg (by omega)]
        refine ⟨?_, fun p hp => ?_⟩
        · rw [hrow]
          funext p q
          unfold relaxRow
          by_cases h1 : p = i ∧ q < 13
          · obtain ⟨rfl, hq⟩ := h1
            rw [if_pos ⟨rfl, hq⟩, hiq, hiq, hkq q hq]
            unfold relaxRows
            rw [if_pos ⟨by omega, hq⟩]
          · rw [if_neg h1, hz]
            unfold relaxRows
            by_cases h2 : p < i ∧ q < 13
            · rw [if_pos h2, if_pos ⟨by omega, h2.2⟩]
            · rw [if_neg h2, if_neg (by omega)]
        · by_cases e : p = i
          · subst e; omega
          · have := hd p (by omega)
            rw [hrow]; unfold relaxRow
            rw [if_neg (by omega)]
            exact this
theorem kTo_step {m y : Nat → Nat → Int} (hd : ∀ p, p < 13 → 0 ≤ m p p) : ∀ k, k ≤ 13 → kTo m k = some y → (∀ p, p < 13 → 0 ≤ y p p) ∧ (∀ p, p < k → ∀ i j, i < 13 → j < 13 → y i j ≤ y i p + y p j)
  | 0, _, e => by
    simp only [kTo, Option.some.injEq] at e
    subst e
    exact ⟨hd, fun p hp => absurd hp (Nat.not_lt_zero _)⟩
  | k + 1, hk, e => by
    cases hx : kTo m k with
    | none => simp [kTo, hx] at e
    | some z =>
      simp only [kTo, hx] at e
      obtain ⟨hz, hc⟩ := kTo_step hd k (by omega) hx
      obtain ⟨hy, hyd⟩ := iTo_eq (by omega) (hz k (by omega)) 13 (Nat.le_refl _) y e
      refine ⟨hyd, fun p hp i j hi hj => ?_⟩
      have val : ∀ a b, a < 13 → b < 13 → y a b = min (z a b) (z a k + z k b) := fun a b ha hb => by
        rw [hy]; unfold relaxRows; rw [if_pos ⟨ha, hb⟩]
      have hkk := hz k (by omega)
      by_cases e : p = k
      · subst e
        rw [val i j hi hj, val i p hi (by omega), val p j (by omega) hj]
        omega
      · have hp' : p < k := by omega
        have t1 := hc p hp' i j hi hj
        have t2 := hc p hp' i k hi (by omega)
        have t3 := hc p hp' k j (by omega) hj
        have t4 := hc p hp' k k (by omega) (by omega)
        rw [val i j hi hj, val i p hi (by omega), val p j (by omega) hj]
        omega
/-- Closed: no way by another node is shorter. -/
def closedM (m : Nat → Nat → Int) : Prop := (∀ p, p < 13 → 0 ≤ m p p) ∧ ∀ p i j, p < 13 → i < 13 → j < 13 → m i j ≤ m i p + m p j
theorem closed_of_round {m y : Nat → Nat → Int} (hd : ∀ p, p < 13 → 0 ≤ m p p) (h : kTo m 13 = some y) : closedM y :=
  ⟨(kTo_step hd 13 (Nat.le_refl _) h).1, fun p i j hp hi hj => (kTo_step hd 13 (Nat.le_refl _) h).2 p hp i j hi hj⟩
theorem fwStep_closed {m : Nat → Nat → Int} (hc : closedM m) {k i j : Nat} (hk : k < 13) (hi : i < 13) (hj : j < 13) : fwStep m k i j = m := by
  funext p q
  unfold fwStep
  by_cases e : p = i ∧ q = j
  · obtain ⟨rfl, rfl⟩ := e
    rw [upd_same]
    have := hc.2 k p q hk hi hj
    omega
  · exact upd_other _ _ _ _ _ _ e
theorem rowTo_closed {m : Nat → Nat → Int} (hc : closedM m) {k i : Nat} (hk : k < 13) (hi : i < 13) : ∀ j, j ≤ 13 → rowTo m k i j = m
  | 0, _ => rfl
  | j + 1, hj => by
    show fwStep (rowTo m k i j) k i j = m
    rw [rowTo_closed hc hk hi j (by omega)]
    exact fwStep_closed hc hk hi (by omega)
theorem iTo_closed {m : Nat → Nat → Int} (hc : closedM m) {k : Nat} (hk : k < 13) : ∀ i, i ≤ 13 → iTo m k i = some m
  | 0, _ => rfl
  | i + 1, hi => by
    have h := rowTo_closed hc hk (show i < 13 by omega) 13 (Nat.le_refl _)
    have := hc.1 i (by omega)
    simp only [iTo, iTo_closed hc hk i (by omega), h]
    rw [if_neg (by omega)]
theorem kTo_closed {m : Nat → Nat → Int} (hc : closedM m) : ∀ k, k ≤ 13 → kTo m k = some m
  | 0, _ => rfl
  | k + 1, hk => by
    simp only [kTo, kTo_closed hc k (by omega), iTo_closed hc (show k < 13 by omega) 13 (Nat.le_refl _)]
theorem eqM_refl (m : Nat → Nat → Int) : eqM m m = true := eqM_iff.2 fun _ _ _ _ => rfl
theorem safe_closed {m : Nat → Nat → Int} (hc : closedM m) (h : ∀ p q, p < 13 → q < 13 → -4000000000000000000 ≤ m p q ∧ m p q ≤ 4000000000000000000) : safeM m := by
  intro k i j hk hi hj m1 h1 m2 h2
  rw [kTo_closed hc k (by omega)] at h1
  cases h1
  rw [iTo_closed hc hk i (by omega)] at h2
  cases h2
  rw [rowTo_closed hc hk hi j (by omega)]
  have a := h i k hi hk
  have b := h k j hk hj
  constructor <;> omega
/-- The second round changes nothing. -/
theorem second_round {m : Nat → Nat → Int} (hd : ∀ p, p < 13 → 0 ≤ m p p) (h : ∀ p q, p < 13 → q < 13 → -1048576 ≤ m p q ∧ m p q ≤ 1048576) :
    ∀ m', kTo m 13 = some m' → safeM m' ∧ ∃ m'', kTo m' 13 = some m'' ∧ eqM m'' m' = true := by
  intro m' hm
  have hc := closed_of_round hd hm
  refine ⟨safe_closed hc fun p q hp hq => ?_, m', kTo_closed hc 13 (Nat.le_refl _), eqM_refl _⟩
  have l := kTo_low (L := 1048576) (by omega) (fun p q hp hq => (h p q hp hq).1) 13 (Nat.le_refl _) m' hm p q hp hq
  have u := Int.le_trans (kTo_le p q hm) (h p q hp hq).2
  have e : (6 : Int) ^ 13 * 1048576 = 13695206129664 * 1000 + 210516160 * 0 + (6 ^ 13 * 1048576 - 13695206129664 * 1000) := by omega
  have hpw : (6 : Int) ^ 13 = 13060694016 := by decide
  rw [hpw] at l
  constructor <;> omega
/-- x is a solution: node j is above node i by at most m i j. -/
def sol (m : Nat → Nat → Int) (x : Nat → Int) : Prop := ∀ i j, i < 13 → j < 13 → x j - x i ≤ m i j
theorem sol_step {m : Nat → Nat → Int} {x : Nat → Int} (h : sol m x) {k i j : Nat} (hk : k < 13) (hi : i < 13) (hj : j < 13) : sol (fwStep m k i j) x := by
  intro p q hp hq
  unfold fwStep
  by_cases e : p = i ∧ q = j
  · obtain ⟨rfl, rfl⟩ := e
    rw [upd_same]
    have a := h p q hp hq
    have b := h p k hp hk
    have c := h k q hk hq
    omega
  · rw [upd_other _ _ _ _ _ _ e]; exact h p q hp hq
theorem sol_row {m : Nat → Nat → Int} {x : Nat → Int} (h : sol m x) {k i : Nat} (hk : k < 13) (hi : i < 13) : ∀ j, j ≤ 13 → sol (rowTo m k i j) x
  | 0, _ => h
  | j + 1, hj => sol_step (sol_row h hk hi j (by omega)) hk hi (by omega)
theorem sol_iTo {m : Nat → Nat → Int} {x : Nat → Int} (h : sol m x) {k : Nat} (hk : k < 13) : ∀ i, i ≤ 13 → ∃ y, iTo m k i = some y ∧ sol y x
  | 0, _ => ⟨m, rfl, h⟩
  | i + 1, hi => by
    obtain ⟨y, hy, hs⟩ := sol_iTo h hk i (by omega)
    have hr := sol_row hs hk (show i < 13 by omega) 13 (Nat.le_refl _)
    have := hr i i (by omega) (by omega)
    refine ⟨_, ?_, hr⟩
    simp only [iTo, hy]
    rw [if_neg (by omega)]
theorem sol_kTo {m : Nat → Nat → Int} {x : Nat → Int} (h : sol m x) : ∀ k, k ≤ 13 → ∃ y, kTo m k = some y ∧ sol y x
  | 0, _ => ⟨m, rfl, h⟩
  | k + 1, hk => by
    obtain ⟨y, hy, hs⟩ := sol_kTo h k (by omega)
    obtain ⟨z, hz, hs'⟩ := sol_iTo hs (show k < 13 by omega) 13 (Nat.le_refl _)
    exact ⟨z, by simp only [kTo, hy, hz], hs'⟩
theorem sol_back {m y : Nat → Nat → Int} {x : Nat → Int} (hm : kTo m 13 = some y) (h : sol y x) : sol m x := fun i j hi hj => Int.le_trans (h i j hi hj) (kTo_le i j hm)
/-- Each bound of a closed matrix is reached by a solution. -/
theorem sol_reach {m : Nat → Nat → Int} (hc : closedM m) {a : Nat} (ha : a < 13) : sol m (fun j => m a j) := fun i j hi hj => by
  have := hc.2 i a j hi ha hj
  show m a j - m a i ≤ m i j
  omega
end Go.Proofs.Ytholfdgebdlgjaa
