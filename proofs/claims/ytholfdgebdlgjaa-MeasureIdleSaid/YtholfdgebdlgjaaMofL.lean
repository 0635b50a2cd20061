/- Measures and pulls that are right for tapes: the plain facts behind MeasuredOf. No conditions. -/
import Derived.Test.YtholfdgebdlgjaaAp
import Derived.Test.YtholfdgebdlgjaaTru
namespace Go.Proofs.Ytholfdgebdlgjaa
open Go.RowKit
set_option linter.unusedVariables false
set_option linter.unusedSimpArgs false
def flatG (gs : List (Int × Int)) : List Value := (gs.map grRow).flatten
theorem flatG_snoc (gs : List (Int × Int)) (g : Int × Int) : flatG (gs ++ [g]) = flatG gs ++ [.int .i64 g.1, .int .i64 g.2] := by simp [flatG, grRow]
def flatR (gs : List (Int × Int × Int × Int)) : List Value := (gs.map rdRow).flatten
theorem flatR_snoc (gs : List (Int × Int × Int × Int)) (a b c d : Int) : flatR (gs ++ [(a, b, c, d)]) = flatR gs ++ [.int .i64 a, .int .i64 b, .int .i64 c, .int .i64 d] := by simp [flatR, rdRow]
def flatK (gs : List (Int × Int × Int × Int × Int × Int)) : List Value := (gs.map lkRow).flatten
theorem flatK_snoc (gs : List (Int × Int × Int × Int × Int × Int)) (a b c d e f : Int) : flatK (gs ++ [(a, b, c, d, e, f)]) = flatK gs ++ [.int .i64 a, .int .i64 b, .int .i64 c, .int .i64 d, .int .i64 e, .int .i64 f] := by simp [flatK, lkRow]
/-- Numbers as values. -/
def ivs (l : List Int) : List Value := l.map (Value.int .i64)
theorem ivs_snoc (l : List Int) (x : Int) : ivs (l ++ [x]) = ivs l ++ [.int .i64 x] := by simp [ivs]
/-- Lists of numbers in blocks of their own behind base; vs are their slices. -/
def ListsAt (w : World) (base : Nat) (vs : List Value) (ls : List (List Int)) : Prop :=
  vs.length = ls.length ∧ ∀ (i : Nat) (l : List Int), ls[i]? = some l → ∃ v, vs[i]? = some v ∧ w.ownsRow base 3 1 v l.length (ivs l)
theorem lists_nil (w : World) (base : Nat) : ListsAt w base [] [] := ⟨rfl, fun i l h => by simp at h⟩
theorem lists_keep {w w' : World} {base : Nat} {vs : List Value} {ls : List (List Int)} (h : ListsAt w base vs ls) (k : ∀ v n xs, w.ownsRow base 3 1 v n xs → w'.ownsRow base 3 1 v n xs) : ListsAt w' base vs ls :=
  ⟨h.1, fun i l hi => by
    obtain ⟨v, h1, h2⟩ := h.2 i l hi
    exact ⟨v, h1, k _ _ _ h2⟩⟩
theorem lists_snoc {w : World} {base : Nat} {vs : List Value} {ls : List (List Int)} (h : ListsAt w base vs ls) {v : Value} {l : List Int} (hv : w.ownsRow base 3 1 v l.length (ivs l)) : ListsAt w base (vs ++ [v]) (ls ++ [l]) := by
  refine ⟨by simp [h.1], fun i q hq => ?_⟩
  by_cases hi : i < ls.length
  · rw [List.getElem?_append_left hi] at hq
    obtain ⟨v', h1, h2⟩ := h.2 i q hq
    exact ⟨v', by rw [List.getElem?_append_left (by rw [h.1]; exact hi)]; exact h1, h2⟩
  · have hil : i = ls.length := by
      have := (List.getElem?_eq_some_iff.1 hq).1
      simp at this
      omega
    subst hil
    simp at hq
    subst hq
    exact ⟨v, by rw [← h.1]; simp, hv⟩
theorem owns_lower {w : World} {base base' : Nat} {e : TypeId} {sz : Nat} {v : Value} {n : Nat} {xs : List Value} (h : w.ownsRow base e sz v n xs) (hb : base' ≤ base) : w.ownsRow base' e sz v n xs := by
  refine ⟨h.1, ?_⟩
  rcases h.2 with h | ⟨g, cap, cur, h1, h2, h3, h4⟩
  · exact .inl h
  · exact .inr ⟨g, cap, cur, h1, Nat.le_trans hb h2, h3, h4⟩
theorem lists_lower {w : World} {base base' : Nat} {vs : List Value} {ls : List (List Int)} (h : ListsAt w base vs ls) (hb : base' ≤ base) : ListsAt w base' vs ls :=
  ⟨h.1, fun i l hi => by
    obtain ⟨v, h1, h2⟩ := h.2 i l hi
    exact ⟨v, h1, owns_lower h2 hb⟩⟩
/-- Numbers in lists in blocks of their own, where they are read. -/
theorem lists_cell {w : World} {base n vc : Nat} {va : Option Addr} {vs : List Value} {ls : List (List Int)} (om : w.ownsRow base 29 1 (.slice va n vc) n vs) (hl : ListsAt w base vs ls) {s a : Nat} (hs : s < ls.length) (ha : a < (ls.getD s []).length) :
    ∃ bo br c, va = some ⟨bo, 0, none⟩ ∧ (∀ (X : List Nat) (W : World), (∀ x ∈ X, x < base) → Ext X w W → W.cell? ⟨bo, 0 + s * 1, none⟩ = some (.slice (some ⟨br, 0, none⟩) (ls.getD s []).length c) ∧ W.cell? ⟨br, 0 + a * 1, none⟩ = some (.int .i64 ((ls.getD s []).getD a 0))) := by
  have e : ls[s]? = some (ls.getD s []) := by simp [hs]
  obtain ⟨v, hv, hvo⟩ := hl.2 s _ e
  generalize ls.getD s [] = row at ha hvo e ⊢
  rcases om.2 with ⟨h1, h2⟩ | ⟨g, cap, cur, h1, hb, hg, h3, h4, h5, h6⟩
  · have := om.1; rw [h2] at this
    have h0 : vs = [] := List.length_eq_zero_iff.1 (by omega)
    rw [h0] at hv; simp at hv
  · rcases hvo.2 with ⟨q1, q2⟩ | ⟨g2, cap2, cur2, q1, qb, qg, q3, q4, q5, q6⟩
    · omega
    · subst q1
      have hva : va = some ⟨g, 0, none⟩ := by cases h1; rfl
      refine ⟨g, g2, cap2, hva, fun X W hX E => ⟨?_, ?_⟩⟩
      · rw [E.cell (a := ⟨g, 0 + s * 1, none⟩) (blk_lt hg) (fun hm => by have := hX g hm; omega), cells_of_block hg, Nat.zero_add, Nat.mul_one]
        have hlen : s < n * 1 := by rw [← om.1]; exact (List.getElem?_eq_some_iff.1 hv).1
        have := congrArg (fun l => l[s]?) h6
        simp only [List.getElem?_take] at this
        rw [if_pos hlen] at this
        rw [← Array.getElem?_toList, this, hv]
      · rw [E.cell (a := ⟨g2, 0 + a * 1, none⟩) (blk_lt qg) (fun hm => by have := hX g2 hm; omega), cells_of_block qg, Nat.zero_add, Nat.mul_one]
        have := congrArg (fun l => l[a]?) q6
        simp only [List.getElem?_take] at this
        rw [if_pos (by omega)] at this
        rw [← Array.getElem?_toList, this]
        simp [ivs, ha]
/-- Numbers in a list of one's own, where they are read. -/
theorem ints_cell {w : World} {base n vc : Nat} {va : Option Addr} {l : List Int} (om : w.ownsRow base 3 1 (.slice va n vc) n (ivs l)) {a : Nat} (ha : a < l.length) :
    ∃ bo, va = some ⟨bo, 0, none⟩ ∧ (∀ (X : List Nat) (W : World), (∀ x ∈ X, x < base) → Ext X w W → W.cell? ⟨bo, 0 + a * 1, none⟩ = some (.int .i64 (l.getD a 0))) := by
  have hn := om.1
  simp only [ivs, List.length_map] at hn
  rcases om.2 with ⟨h1, h2⟩ | ⟨g, cap, cur, h1, hb, hg, h3, h4, h5, h6⟩
  · omega
  · have hva : va = some ⟨g, 0, none⟩ := by cases h1; rfl
    refine ⟨g, hva, fun X W hX E => ?_⟩
    rw [E.cell (a := ⟨g, 0 + a * 1, none⟩) (blk_lt hg) (fun hm => by have := hX g hm; omega), cells_of_block hg, Nat.zero_add, Nat.mul_one]
    have := congrArg (fun l => l[a]?) h6
    simp only [List.getElem?_take] at this
    rw [if_pos (by omega)] at this
    rw [← Array.getElem?_toList, this]
    simp [ivs, ha]
/-- Measures of a singer, so far: r, the last is cur; lo and hi are the least and the greatest growth. -/
structure RowSo (bl bm : Int) (r : List Int) (lo hi cur : Int) : Prop where
  b : ∀ x ∈ r, bl ≤ x ∧ x ≤ bm
  c1 : bl ≤ cur
  c2 : cur ≤ bm
  last : ∀ i, i + 1 = r.length → r.getD i 0 = cur
  d : ∀ i, i + 1 < r.length → lo ≤ r.getD (i + 1) 0 - r.getD i 0 ∧ r.getD (i + 1) 0 - r.getD i 0 ≤ hi
  one : r.length ≤ 1 → lo = 20 ∧ hi = -20
  two : 2 ≤ r.length → -4 ≤ lo ∧ lo ≤ hi ∧ hi ≤ 4
theorem RowSo.near {bl bm lo hi cur : Int} {r : List Int} (h : RowSo bl bm r lo hi cur) : -20 ≤ lo ∧ lo ≤ 20 ∧ -20 ≤ hi ∧ hi ≤ 20 := by
  by_cases c : r.length ≤ 1
  · have := h.one c; omega
  · have := h.two (by omega); omega
theorem RowSo.nil {bl bm cur : Int} (h1 : bl ≤ cur) (h2 : cur ≤ bm) : RowSo bl bm [] 20 (-20) cur :=
  ⟨fun x h => by simp at h, h1, h2, fun i h => by simp at h, fun i h => by simp at h, fun _ => ⟨rfl, rfl⟩, fun h => by simp at h⟩
theorem RowSo.one' {bl bm cur : Int} {r : List Int} (h : RowSo bl bm r 20 (-20) cur) (h0 : r.length = 0) : RowSo bl bm (r ++ [cur]) 20 (-20) cur := by
  have hr : r = [] := List.length_eq_zero_iff.1 h0
  subst hr
  exact ⟨fun x hx => by simp at hx; subst hx; exact ⟨h.c1, h.c2⟩, h.c1, h.c2, fun i hi => by simp at hi; subst hi; rfl, fun i hi => by simp at hi, fun _ => ⟨rfl, rfl⟩, fun hh => by simp at hh⟩
theorem RowSo.more {bl bm lo hi cur nx : Int} {r : List Int} (h : RowSo bl bm r lo hi cur) (h0 : 0 < r.length) (h1 : bl ≤ nx) (h2 : nx ≤ bm) (h3 : -4 ≤ nx - cur) (h4 : nx - cur ≤ 4) : RowSo bl bm (r ++ [nx]) (min lo (nx - cur)) (max hi (nx - cur)) nx := by
  refine ⟨fun x hx => ?_, h1, h2, fun i hi => ?_, fun i hi => ?_, fun hh => ?_, fun hh => ?_⟩
  · rcases List.mem_append.1 hx with hx | hx
    · exact h.b x hx
    · simp at hx; subst hx; exact ⟨h1, h2⟩
  · have : i = r.length := by simp at hi; omega
    subst this
    simp
  · have hl : i + 1 ≤ r.length := by simp at hi; omega
    by_cases hc : i + 1 < r.length
    · have := h.d i hc
      have e1 : (r ++ [nx]).getD (i + 1) 0 = r.getD (i + 1) 0 := by simp [List.getElem?_append_left hc]
      have e2 : (r ++ [nx]).getD i 0 = r.getD i 0 := by simp [List.getElem?_append_left (show i < r.length by omega)]
      rw [e1, e2]
      omega
    · have hil : i + 1 = r.length := by omega
      have e1 : (r ++ [nx]).getD (i + 1) 0 = nx := by rw [hil]; simp
      have e2 : (r ++ [nx]).getD i 0 = cur := by
        rw [← h.last i hil]
        simp [List.getElem?_append_left (show i < r.length by omega)]
      rw [e1, e2]
      omega
  · rw [List.length_append, List.length_singleton] at hh; omega
  · by_cases hc : r.length ≤ 1
    · have := h.one hc; omega
    · have := h.two (by omega); omega
/-- A singer's measures r and growth g are right. -/
structure RowOk (bl bm A : Int) (r : List Int) (g : Int × Int) : Prop where
  len : (r.length : Int) = A
  b : ∀ x ∈ r, bl ≤ x ∧ x ≤ bm
  d : ∀ i, i + 1 < r.length → g.1 ≤ r.getD (i + 1) 0 - r.getD i 0 ∧ r.getD (i + 1) 0 - r.getD i 0 ≤ g.2
  g1 : -20 ≤ g.1
  g2 : g.1 ≤ g.2
  g3 : g.2 ≤ 20
theorem RowSo.done {bl bm A lo hi cur lo' hi' u v : Int} {r : List Int} (h : RowSo bl bm r lo hi cur) (hl : (r.length : Int) = A) (hA : 1 ≤ A) (h1 : A = 1 → lo' = 0 ∧ hi' = 0) (h2 : A ≠ 1 → lo' = lo ∧ hi' = hi) (hu : 0 ≤ u) (hv : 0 ≤ v) (hu5 : u ≤ 5) (hv5 : v ≤ 5) : RowOk bl bm A r (max (-20) (lo' - u), min 20 (hi' + v)) := by
  by_cases c : A = 1
  · have := h1 c
    exact ⟨hl, h.b, fun i hi => by omega, by simp; omega, by simp; omega, by simp; omega⟩
  · have e := h2 c
    have t := h.two (by omega)
    refine ⟨hl, h.b, fun i hi => ?_, by simp; omega, by simp; omega, by simp; omega⟩
    have := h.d i hi
    simp only
    omega
/-- All singers' measures and growths are right. -/
structure RowsOk (bl bm A : Int) (ms : List (List Int)) (gs : List (Int × Int)) : Prop where
  len : ms.length = gs.length
  row : ∀ (i : Nat) (r : List Int), ms[i]? = some r → RowOk bl bm A r (gs.getD i (0, 0))
theorem RowsOk.nil {bl bm A : Int} : RowsOk bl bm A [] [] := ⟨rfl, fun i r h => by simp at h⟩
theorem RowsOk.snoc {bl bm A : Int} {ms : List (List Int)} {gs : List (Int × Int)} (h : RowsOk bl bm A ms gs) {r : List Int} {g : Int × Int} (hr : RowOk bl bm A r g) : RowsOk bl bm A (ms ++ [r]) (gs ++ [g]) := by
  refine ⟨by simp [h.len], fun i q hq => ?_⟩
  by_cases hi : i < ms.length
  · rw [List.getElem?_append_left hi] at hq
    have := h.row i q hq
    have e : (gs ++ [g]).getD i (0, 0) = gs.getD i (0, 0) := by simp [List.getElem?_append_left (show i < gs.length by rw [← h.len]; exact hi)]
    rw [e]; exact this
  · have hil : i = ms.length := by
      have := (List.getElem?_eq_some_iff.1 hq).1
      simp at this
      omega
    subst hil
    simp at hq
    subst hq
    have e : (gs ++ [g]).getD ms.length (0, 0) = g := by rw [h.len]; simp
    rw [e]; exact hr
end Go.Proofs.Ytholfdgebdlgjaa
