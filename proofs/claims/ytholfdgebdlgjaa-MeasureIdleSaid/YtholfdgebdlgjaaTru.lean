/- Truths of tapes: what the bounds mean. The tapes are valid. -/
import Derived.Test.YtholfdgebdlgjaaLooLaw
namespace Go.Proofs.Ytholfdgebdlgjaa
open Go.RowKit
set_option linter.unusedVariables false
theorem sol_limit {m : Nat → Nat → Int} {l h : Nat} (hne : l ≠ h) (hl : l < 13) (hh : h < 13) {lo hi : Int} {x : Nat → Int} :
    sol (limitM m l h lo hi) x ↔ sol m x ∧ lo ≤ x h - x l ∧ x h - x l ≤ hi := by
  have e1 : ∀ i j, limitM m l h lo hi i j = if i = h ∧ j = l then min (m h l) (-lo) else if i = l ∧ j = h then min (m l h) hi else m i j := by
    intro i j
    unfold limitM upd
    rw [if_neg (show ¬ (h = l ∧ l = h) by omega)]
  constructor
  · intro H
    refine ⟨fun i j hi' hj' => ?_, ?_, ?_⟩
    · have := H i j hi' hj'
      rw [e1] at this
      split at this
      · rename_i c; obtain ⟨rfl, rfl⟩ := c; omega
      · split at this
        · rename_i c; obtain ⟨rfl, rfl⟩ := c; omega
        · exact this
    · have := H h l hh hl
      rw [e1, if_pos ⟨rfl, rfl⟩] at this
      omega
    · have := H l h hl hh
      rw [e1, if_neg (by omega), if_pos ⟨rfl, rfl⟩] at this
      omega
  · rintro ⟨H, h1, h2⟩ i j hi' hj'
    have a := H i j hi' hj'
    rw [e1]
    split
    · rename_i c; obtain ⟨rfl, rfl⟩ := c; omega
    · split
      · rename_i c; obtain ⟨rfl, rfl⟩ := c; omega
      · exact a
theorem sol_far {x : Nat → Int} : sol farM x ↔ ∀ i j, i < 13 → j < 13 → x j - x i ≤ 1048576 := by
  constructor
  · intro H i j hi hj
    have := H i j hi hj
    unfold farM at this
    split at this <;> omega
  · intro H i j hi hj
    have := H i j hi hj
    unfold farM
    split
    · rename_i c; subst c; omega
    · exact this
/-- The measure of a singer in an autumn is right. -/
structure CellOk (t : Tp) (s a : Nat) (x : Nat → Int) : Prop where
  lo : t.bl ≤ x (nodeC s a) - x 0
  hi : x (nodeC s a) - x 0 ≤ t.bm
  glo : 0 < a → (t.gr.getD s (0, 0)).1 ≤ x (nodeC s a) - x (nodeC s ((a : Int) - 1))
  ghi : 0 < a → x (nodeC s a) - x (nodeC s ((a : Int) - 1)) ≤ (t.gr.getD s (0, 0)).2
structure ReadOk (t : Tp) (r : Int × Int × Int × Int) (x : Nat → Int) : Prop where
  lo : r.2.2.2 - t.sl ≤ x (nodeC r.1 r.2.1) - x (nodeT r.2.2.1)
  hi : x (nodeC r.1 r.2.1) - x (nodeT r.2.2.1) ≤ r.2.2.2 + t.sl
structure LinkOk (l : Int × Int × Int × Int × Int × Int) (x : Nat → Int) : Prop where
  lo : l.2.2.2.2.1 ≤ x (nodeC l.1 l.2.1) - x (nodeC l.2.2.1 l.2.2.2.1)
  hi : x (nodeC l.1 l.2.1) - x (nodeC l.2.2.1 l.2.2.2.1) ≤ l.2.2.2.2.2
structure TailOk (t : Tp) (i : Nat) (x : Nat → Int) : Prop where
  lo : -t.pm ≤ x (nodeT i) - x 0
  hi : x (nodeT i) - x 0 ≤ -t.pl
theorem cellTo_succ (t : Tp) (m : Nat → Nat → Int) (s a : Nat) : cellTo t m s (a + 1) = if (0 : Int) < (a : Int) then limitM (limitM (cellTo t m s a) 0 (nodeC s a) t.bl t.bm) (nodeC s ((a : Int) - 1)) (nodeC s a) ((t.gr.getD s (0, 0)).1) ((t.gr.getD s (0, 0)).2)
    else limitM (cellTo t m s a) 0 (nodeC s a) t.bl t.bm := rfl
theorem singTo_succ (t : Tp) (m : Nat → Nat → Int) (s : Nat) : singTo t m (s + 1) = cellTo t (singTo t m s) s t.A.toNat := rfl
theorem tailTo_succ (t : Tp) (m : Nat → Nat → Int) (i : Nat) : tailTo t m (i + 1) = limitM (tailTo t m i) 0 (nodeT i) (-t.pm) (-t.pl) := rfl
theorem readTo_succ (t : Tp) (out : Int) (m : Nat → Nat → Int) (i : Nat) : readTo t out m (i + 1) = if hasB out i then readTo t out m i
    else limitM (readTo t out m i) (nodeT (t.rd.getD i (0, 0, 0, 0)).2.2.1) (nodeC (t.rd.getD i (0, 0, 0, 0)).1 (t.rd.getD i (0, 0, 0, 0)).2.1) ((t.rd.getD i (0, 0, 0, 0)).2.2.2 - t.sl) ((t.rd.getD i (0, 0, 0, 0)).2.2.2 + t.sl) := rfl
theorem linkTo_succ (t : Tp) (m : Nat → Nat → Int) (i : Nat) : linkTo t m (i + 1) = limitM (linkTo t m i) (nodeC (t.lk.getD i (0, 0, 0, 0, 0, 0)).2.2.1 (t.lk.getD i (0, 0, 0, 0, 0, 0)).2.2.2.1) (nodeC (t.lk.getD i (0, 0, 0, 0, 0, 0)).1 (t.lk.getD i (0, 0, 0, 0, 0, 0)).2.1) (t.lk.getD i (0, 0, 0, 0, 0, 0)).2.2.2.2.1 (t.lk.getD i (0, 0, 0, 0, 0, 0)).2.2.2.2.2 := rfl
theorem sol_cell {t : Tp} (ok : t.Ok) {m : Nat → Nat → Int} {s : Nat} (hs : (s : Int) < t.S) {x : Nat → Int} : ∀ a : Nat, (a : Int) ≤ t.A → (sol (cellTo t m s a) x ↔ sol m x ∧ ∀ b < a, CellOk t s b x)
  | 0, _ => by simp [cellTo]
  | a + 1, ha => by
    have ih := sol_cell ok (m := m) hs (x := x) a (by omega)
    have o1 := ok.S3
    have o2 := ok.A3
    have key : sol (cellTo t m s (a + 1)) x ↔ sol (cellTo t m s a) x ∧ CellOk t s a x := by
      rw [cellTo_succ]
      split
      · rename_i h0
        rw [sol_limit (by unfold nodeC; omega) (by unfold nodeC; omega) (by unfold nodeC; omega), sol_limit (by unfold nodeC; omega) (by omega) (by unfold nodeC; omega)]
        constructor
        · rintro ⟨⟨h1, h2, h3⟩, h4, h5⟩; exact ⟨h1, ⟨h2, h3, fun _ => h4, fun _ => h5⟩⟩
        · rintro ⟨h1, c⟩; exact ⟨⟨h1, c.lo, c.hi⟩, c.glo (by omega), c.ghi (by omega)⟩
      · rename_i h0
        rw [sol_limit (by unfold nodeC; omega) (by omega) (by unfold nodeC; omega)]
        constructor
        · rintro ⟨h1, h2, h3⟩; exact ⟨h1, ⟨h2, h3, fun h => absurd h (by omega), fun h => absurd h (by omega)⟩⟩
        · rintro ⟨h1, c⟩; exact ⟨h1, c.lo, c.hi⟩
    rw [key, ih]
    constructor
    · rintro ⟨⟨h1, h2⟩, h3⟩
      refine ⟨h1, fun b hb => ?_⟩
      by_cases e : b = a
      · subst e; exact h3
      · exact h2 b (by omega)
    · rintro ⟨h1, h2⟩; exact ⟨⟨h1, fun b hb => h2 b (by omega)⟩, h2 a (by omega)⟩
theorem sol_sing {t : Tp} (ok : t.Ok) {m : Nat → Nat → Int} {x : Nat → Int} : ∀ s : Nat, (s : Int) ≤ t.S → (sol (singTo t m s) x ↔ sol m x ∧ ∀ p < s, ∀ a : Nat, (a : Int) < t.A → CellOk t p a x)
  | 0, _ => by simp [singTo]
  | s + 1, hs => by
    have ih := sol_sing ok (m := m) (x := x) s (by omega)
    have o2 := ok.A1
    rw [singTo_succ, sol_cell ok (by omega) _ (by omega), ih]
    constructor
    · rintro ⟨⟨h1, h2⟩, h3⟩
      refine ⟨h1, fun p hp a ha => ?_⟩
      by_cases e : p = s
      · subst e; exact h3 a (by omega)
      · exact h2 p (by omega) a ha
    · rintro ⟨h1, h2⟩; exact ⟨⟨h1, fun p hp => h2 p (by omega)⟩, fun b hb => h2 s (by omega) b (by omega)⟩
theorem sol_tail {t : Tp} (ok : t.Ok) {m : Nat → Nat → Int} {x : Nat → Int} : ∀ i : Nat, (i : Int) ≤ t.T → (sol (tailTo t m i) x ↔ sol m x ∧ ∀ p < i, TailOk t p x)
  | 0, _ => by simp [tailTo]
  | i + 1, hi => by
    have ih := sol_tail ok (m := m) (x := x) i (by omega)
    have o2 := ok.T3
    rw [tailTo_succ, sol_limit (by unfold nodeT; omega) (by omega) (by unfold nodeT; omega), ih]
    constructor
    · rintro ⟨⟨h1, h2⟩, h3, h4⟩
      refine ⟨h1, fun p hp => ?_⟩
      by_cases e : p = i
      · subst e; exact ⟨h3, h4⟩
      · exact h2 p (by omega)
    · rintro ⟨h1, h2⟩; exact ⟨⟨h1, fun p hp => h2 p (by omega)⟩, (h2 i (by omega)).lo, (h2 i (by omega)).hi⟩
theorem sol_read {t : Tp} (ok : t.Ok) (out : Int) {m : Nat → Nat → Int} {x : Nat → Int} : ∀ i : Nat, i ≤ t.rd.length → (sol (readTo t out m i) x ↔ sol m x ∧ ∀ p < i, hasB out p = false → ReadOk t (t.rd.getD p (0, 0, 0, 0)) x)
  | 0, _ => by simp [readTo]
  | i + 1, hi => by
    have ih := sol_read ok out (m := m) (x := x) i (by omega)
    have g := ok.rd (t.rd.getD i (0, 0, 0, 0)) (getD_mem _ (by omega))
    have o1 := ok.T3
    have o3 := ok.S3
    have o4 := ok.A3
    rw [readTo_succ]
    split
    · rename_i hb
      rw [ih]
      constructor
      · rintro ⟨h1, h2⟩
        refine ⟨h1, fun p hp hf => ?_⟩
        by_cases e : p = i
        · subst e; rw [hb] at hf; cases hf
        · exact h2 p (by omega) hf
      · rintro ⟨h1, h2⟩; exact ⟨h1, fun p hp => h2 p (by omega)⟩
    · rename_i hb
      rw [sol_limit (by unfold nodeT nodeC; omega) (by unfold nodeT; omega) (by unfold nodeC; omega), ih]
      constructor
      · rintro ⟨⟨h1, h2⟩, h3, h4⟩
        refine ⟨h1, fun p hp hf => ?_⟩
        by_cases e : p = i
        · subst e; exact ⟨h3, h4⟩
        · exact h2 p (by omega) hf
      · rintro ⟨h1, h2⟩
        have hf : hasB out i = false := by simpa using hb
        exact ⟨⟨h1, fun p hp => h2 p (by omega)⟩, (h2 i (by omega) hf).lo, (h2 i (by omega) hf).hi⟩
theorem sol_link {t : Tp} (ok : t.Ok) {m : Nat → Nat → Int} {x : Nat → Int} : ∀ i : Nat, i ≤ t.lk.length → (sol (linkTo t m i) x ↔ sol m x ∧ ∀ p < i, LinkOk (t.lk.getD p (0, 0, 0, 0, 0, 0)) x)
  | 0, _ => by simp [linkTo]
  | i + 1, hi => by
    have ih := sol_link ok (m := m) (x := x) i (by omega)
    have g := ok.lk (t.lk.getD i (0, 0, 0, 0, 0, 0)) (getD_mem _ (by omega))
    obtain ⟨g1, g2, g3, g4, g5, g6, g7, g8, g9, g10, g11, g12⟩ := g
    have o3 := ok.S3
    have o4 := ok.A3
    rw [linkTo_succ, sol_limit (by unfold nodeC; omega) (by unfold nodeC; omega) (by unfold nodeC; omega), ih]
    constructor
    · rintro ⟨⟨h1, h2⟩, h3, h4⟩
      refine ⟨h1, fun p hp => ?_⟩
      by_cases e : p = i
      · subst e; exact ⟨h3, h4⟩
      · exact h2 p (by omega)
    · rintro ⟨h1, h2⟩; exact ⟨⟨h1, fun p hp => h2 p (by omega)⟩, (h2 i (by omega)).lo, (h2 i (by omega)).hi⟩
/-- x is a truth of tapes without some readings (a pull is the negative of its node). -/
structure Tr (t : Tp) (out : Int) (x : Nat → Int) : Prop where
  cell : ∀ s a : Nat, (s : Int) < t.S → (a : Int) < t.A → CellOk t s a x
  tail : ∀ i : Nat, (i : Int) < t.T → TailOk t i x
  read : ∀ i < t.rd.length, hasB out i = false → ReadOk t (t.rd.getD i (0, 0, 0, 0)) x
  link : ∀ i < t.lk.length, LinkOk (t.lk.getD i (0, 0, 0, 0, 0, 0)) x
/-- The nodes of tapes. -/
def live (t : Tp) (i : Nat) : Prop := i = 0 ∨ (∃ s a : Nat, (s : Int) < t.S ∧ (a : Int) < t.A ∧ i = nodeC s a) ∨ ∃ k : Nat, (k : Int) < t.T ∧ i = nodeT k
theorem live_zero (t : Tp) : live t 0 := .inl rfl
theorem live_cell {t : Tp} {s a : Nat} (hs : (s : Int) < t.S) (ha : (a : Int) < t.A) : live t (nodeC s a) := .inr (.inl ⟨s, a, hs, ha, rfl⟩)
theorem live_tail {t : Tp} {k : Nat} (hk : (k : Int) < t.T) : live t (nodeT k) := .inr (.inr ⟨k, hk, rfl⟩)
theorem live_lt {t : Tp} (ok : t.Ok) {i : Nat} (h : live t i) : i < 13 := by
  have o1 := ok.S3
  have o2 := ok.A3
  have o3 := ok.T3
  rcases h with rfl | ⟨s, a, hs, ha, rfl⟩ | ⟨k, hk, rfl⟩
  · omega
  · unfold nodeC; omega
  · unfold nodeT; omega
theorem sol_loose {t : Tp} (ok : t.Ok) (out : Int) {x : Nat → Int} : sol (looseM t out) x ↔ (∀ i j, i < 13 → j < 13 → x j - x i ≤ 1048576) ∧ Tr t out x := by
  have o1 := ok.S1
  have o2 := ok.T1
  unfold looseM
  rw [sol_link ok _ (Nat.le_refl _), sol_read ok out _ (Nat.le_refl _), sol_tail ok _ (by omega), sol_sing ok _ (by omega), sol_far]
  constructor
  · rintro ⟨⟨⟨⟨h1, h2⟩, h3⟩, h4⟩, h5⟩
    exact ⟨h1, ⟨fun s a hs ha => h2 s (by omega) a ha, fun i hi => h3 i (by omega), h4, h5⟩⟩
  · rintro ⟨h1, h⟩
    exact ⟨⟨⟨⟨h1, fun p hp a ha => h.cell p a (by omega) ha⟩, fun p hp => h.tail p (by omega)⟩, h.read⟩, h.link⟩
/-- Truths with the same numbers at the nodes of the tapes are the same. -/
theorem Tr.congr {t : Tp} (ok : t.Ok) {out : Int} {x x' : Nat → Int} (e : ∀ i, live t i → x i = x' i) (h : Tr t out x) : Tr t out x' := by
  have z := e 0 (live_zero t)
  refine ⟨fun s a hs ha => ?_, fun i hi => ?_, fun i hi hb => ?_, fun i hi => ?_⟩
  · have c := h.cell s a hs ha
    have e1 := e _ (live_cell hs ha)
    refine ⟨by rw [← e1, ← z]; exact c.lo, by rw [← e1, ← z]; exact c.hi, fun h0 => ?_, fun h0 => ?_⟩
    all_goals
      have e2 := e _ (live_cell hs (a := a - 1) (by omega))
      rw [show ((a - 1 : Nat) : Int) = (a : Int) - 1 by omega] at e2
      rw [← e1, ← e2]
    · exact c.glo h0
    · exact c.ghi h0
  · have c := h.tail i hi
    have e1 := e _ (live_tail hi)
    exact ⟨by rw [← e1, ← z]; exact c.lo, by rw [← e1, ← z]; exact c.hi⟩
  · have c := h.read i hi hb
    have g := ok.rd (t.rd.getD i (0, 0, 0, 0)) (getD_mem _ hi)
    generalize t.rd.getD i (0, 0, 0, 0) = r at c g ⊢
    obtain ⟨r1, r2, r3, r4⟩ := r
    obtain ⟨g1, g2, g3, g4, g5, g6, g7⟩ := g
    try simp only at g1 g2 g3 g4 g5 g6 g7
    obtain ⟨r1, rfl⟩ := Int.eq_ofNat_of_zero_le g1
    obtain ⟨r2, rfl⟩ := Int.eq_ofNat_of_zero_le g3
    obtain ⟨r3, rfl⟩ := Int.eq_ofNat_of_zero_le g5
    have e1 := e _ (live_cell g2 g4)
    have e2 := e _ (live_tail g6)
    exact ⟨by show _ ≤ x' (nodeC _ _) - x' _; rw [← e1, ← e2]; exact c.lo, by show x' (nodeC _ _) - x' _ ≤ _; rw [← e1, ← e2]; exact c.hi⟩
  · have c := h.link i hi
    have g := ok.lk (t.lk.getD i (0, 0, 0, 0, 0, 0)) (getD_mem _ hi)
    generalize t.lk.getD i (0, 0, 0, 0, 0, 0) = r at c g ⊢
    obtain ⟨r1, r2, r3, r4, r5, r6⟩ := r
    obtain ⟨g1, g2, g3, g4, g5, g6, g7, g8, -⟩ := g
    try simp only at g1 g2 g3 g4 g5 g6 g7 g8
    obtain ⟨r1, rfl⟩ := Int.eq_ofNat_of_zero_le g1
    obtain ⟨r2, rfl⟩ := Int.eq_ofNat_of_zero_le g3
    obtain ⟨r3, rfl⟩ := Int.eq_ofNat_of_zero_le g5
    obtain ⟨r4, rfl⟩ := Int.eq_ofNat_of_zero_le g7
    have e1 := e _ (live_cell g2 g4)
    have e2 := e _ (live_cell g6 g8)
    exact ⟨by show _ ≤ x' (nodeC _ _) - x' _; rw [← e1, ← e2]; exact c.lo, by show x' (nodeC _ _) - x' _ ≤ _; rw [← e1, ← e2]; exact c.hi⟩
/-- At the nodes of the tapes a truth is near to node 0. -/
theorem Tr.near {t : Tp} (ok : t.Ok) {out : Int} {x : Nat → Int} (h : Tr t out x) {i : Nat} (hi : live t i) : -1000 ≤ x i - x 0 ∧ x i - x 0 ≤ 1000 := by
  have o1 := ok.bl1
  have o2 := ok.bm1
  have o3 := ok.pl1
  have o4 := ok.pm1
  rcases hi with rfl | ⟨s, a, hs, ha, rfl⟩ | ⟨k, hk, rfl⟩
  · omega
  · have c := h.cell s a hs ha
    have c1 := c.lo
    have c2 := c.hi
    constructor <;> omega
  · have c := h.tail k hk
    have c1 := c.lo
    have c2 := c.hi
    constructor <;> omega
open Classical in
/-- The numbers of a truth that count, and nothing else. -/
noncomputable def trim (t : Tp) (x : Nat → Int) : Nat → Int := fun i => if live t i then x i else x 0
theorem trim_live {t : Tp} {x : Nat → Int} {i : Nat} (h : live t i) : trim t x i = x i := by unfold trim; rw [if_pos h]
theorem Tr.trim {t : Tp} (ok : t.Ok) {out : Int} {x : Nat → Int} (h : Tr t out x) : sol (looseM t out) (trim t x) := by
  refine (sol_loose ok out).2 ⟨fun i j _ _ => ?_, h.congr ok fun i hi => (trim_live hi).symm⟩
  have n0 := h.near ok (live_zero t)
  have key : ∀ i, -1000 ≤ Go.Proofs.Ytholfdgebdlgjaa.trim t x i - x 0 ∧ Go.Proofs.Ytholfdgebdlgjaa.trim t x i - x 0 ≤ 1000 := fun i => by
    by_cases c : live t i
    · rw [trim_live c]; exact h.near ok c
    · unfold Go.Proofs.Ytholfdgebdlgjaa.trim; rw [if_neg c]; omega
  have a := key i
  have b := key j
  omega
/-- There is no bound just if there is no truth. -/
theorem bd_none {t : Tp} (ok : t.Ok) {out : Int} : kTo (looseM t out) 13 = none ↔ ¬ ∃ x, Tr t out x := by
  constructor
  · rintro h ⟨x, hx⟩
    obtain ⟨y, hy, -⟩ := sol_kTo (hx.trim ok) 13 (Nat.le_refl _)
    rw [h] at hy; cases hy
  · intro h
    cases e : kTo (looseM t out) 13 with
    | none => rfl
    | some y =>
      have hc := closed_of_round (fun p _ => by rw [(small_loose ok out).2 p]; exact Int.le_refl _) e
      exact absurd ⟨_, ((sol_loose ok out).1 (sol_back e (sol_reach hc (show 0 < 13 by omega)))).2⟩ h
theorem bd_some {t : Tp} (ok : t.Ok) {out : Int} {x : Nat → Int} (h : Tr t out x) : ∃ y, kTo (looseM t out) 13 = some y := by
  cases e : kTo (looseM t out) 13 with
  | none => exact absurd ⟨x, h⟩ ((bd_none ok).1 e)
  | some y => exact ⟨y, rfl⟩
/-- The bounds hold for each truth. -/
theorem bd_le {t : Tp} (ok : t.Ok) {out : Int} {y : Nat → Nat → Int} (hy : kTo (looseM t out) 13 = some y) {x : Nat → Int} (h : Tr t out x) {i j : Nat} (hi : live t i) (hj : live t j) : x j - x i ≤ y i j := by
  obtain ⟨y', hy', hs⟩ := sol_kTo (h.trim ok) 13 (Nat.le_refl _)
  rw [hy] at hy'
  obtain rfl := Option.some.inj hy'
  have := hs i j (live_lt ok hi) (live_lt ok hj)
  rwa [trim_live hi, trim_live hj] at this
/-- Each bound is reached by a truth. -/
theorem bd_reach {t : Tp} (ok : t.Ok) {out : Int} {y : Nat → Nat → Int} (hy : kTo (looseM t out) 13 = some y) {i : Nat} (hi : i < 13) : Tr t out (fun j => y i j) ∧ y i i = 0 := by
  have hc := closed_of_round (fun p _ => by rw [(small_loose ok out).2 p]; exact Int.le_refl _) hy
  refine ⟨((sol_loose ok out).1 (sol_back hy (sol_reach hc hi))).2, ?_⟩
  have a := hc.1 i hi
  have b := kTo_le i i hy
  rw [(small_loose ok out).2 i] at b
  omega
/-- A bound is known by a number that no truth goes above, and a truth that has it. -/
theorem bd_eq {t : Tp} (ok : t.Ok) {out : Int} {y : Nat → Nat → Int} (hy : kTo (looseM t out) 13 = some y) {i j : Nat} (hi : live t i) (hj : live t j) {n : Int} (hle : ∀ x, Tr t out x → x j - x i ≤ n) {x : Nat → Int} (hx : Tr t out x) (he : x j - x i = n) : y i j = n := by
  obtain ⟨r1, r2⟩ := bd_reach ok hy (live_lt ok hi)
  have a := hle _ r1
  have b := bd_le ok hy hx hi hj
  try simp only at a
  omega
end Go.Proofs.Ytholfdgebdlgjaa
