/- Tapes as data, how they lie in memory, and the bounds before they are narrowed. No conditions. -/
import Derived.Test.YtholfdgebdlgjaaM3
import Derived.Test.YtholfdgebdlgjaaSets
import Derived.Test.YtholfdgebdlgjaaFw
namespace Go.Proofs.Ytholfdgebdlgjaa
open Go.RowKit
/-- Tapes. -/
structure Tp where
  S : Int
  A : Int
  T : Int
  bl : Int
  bm : Int
  pl : Int
  pm : Int
  sl : Int
  gr : List (Int × Int)
  rd : List (Int × Int × Int × Int)
  lk : List (Int × Int × Int × Int × Int × Int)
/-- A slice of structs of sz cells each: v reads as the rows xs. -/
def IsRows (w : World) (v : Value) (sz : Nat) (xs : List (List Value)) : Prop :=
  ∃ a cap, v = .slice a xs.length cap ∧ (∀ x ∈ xs, x.length = sz) ∧ (xs ≠ [] → ∃ b off, a = some ⟨b, off, none⟩ ∧ b < w.heap.size ∧ ∀ i j x, xs[i]? = some x → j < sz → w.cell? ⟨b, off + i * sz + j, none⟩ = x[j]?)
theorem IsRows.ext {X : List Nat} {w w' : World} {v : Value} {sz : Nat} {xs : List (List Value)} (h : IsRows w v sz xs) (e : Ext X w w') (hx : ∀ b ∈ X, w.heap.size ≤ b) : IsRows w' v sz xs := by
  obtain ⟨a, cap, hv, hl, hc⟩ := h
  refine ⟨a, cap, hv, hl, fun hne => ?_⟩
  obtain ⟨b, off, ha, hb, hcell⟩ := hc hne
  refine ⟨b, off, ha, Nat.lt_of_lt_of_le hb e.size, fun i j x hi hj => ?_⟩
  rw [e.cell (a := ⟨b, off + i * sz + j, none⟩) hb (fun hm => by have := hx b hm; omega)]
  exact hcell i j x hi hj
theorem IsRows.range {w : World} {v : Value} {sz : Nat} {xs : List (List Value)} (h : IsRows w v sz xs) {a : Option Addr} {n cap : Nat} (hv : v = .slice a n cap) (hne : xs ≠ []) :
    ∃ b off, a = some ⟨b, off, none⟩ ∧ b < w.heap.size ∧ ∀ i x, xs[i]? = some x → w.rangeAt b (off + i * sz) x := by
  obtain ⟨a', cap', hv', hl, hc⟩ := h
  rw [hv'] at hv
  cases hv
  obtain ⟨b, off, ha, hb, hcell⟩ := hc hne
  refine ⟨b, off, ha, hb, fun i x hi j u hu => ?_⟩
  have hj : j < sz := by
    have hx := hl x (List.mem_of_getElem? hi)
    rw [← hx]
    exact (List.getElem?_eq_some_iff.1 hu).1
  rw [hcell i j x hi hj]; exact hu
def grRow (g : Int × Int) : List Value := [.int .i64 g.1, .int .i64 g.2]
def rdRow (r : Int × Int × Int × Int) : List Value := [.int .i64 r.1, .int .i64 r.2.1, .int .i64 r.2.2.1, .int .i64 r.2.2.2]
def lkRow (l : Int × Int × Int × Int × Int × Int) : List Value := [.int .i64 l.1, .int .i64 l.2.1, .int .i64 l.2.2.1, .int .i64 l.2.2.2.1, .int .i64 l.2.2.2.2.1, .int .i64 l.2.2.2.2.2]
/-- The tapes' value, its slices being gv, rv, lv. -/
def tpV (t : Tp) (gv rv lv : Value) : Value := .agg #[.int .i64 t.S, .int .i64 t.A, .int .i64 t.T, .int .i64 t.bl, .int .i64 t.bm, .int .i64 t.pl, .int .i64 t.pm, .int .i64 t.sl, gv, rv, lv]
structure IsTp (w : World) (gv rv lv : Value) (t : Tp) : Prop where
  gr : IsRows w gv 2 (t.gr.map grRow)
  rd : IsRows w rv 4 (t.rd.map rdRow)
  lk : IsRows w lv 6 (t.lk.map lkRow)
theorem IsTp.ext {X : List Nat} {w w' : World} {gv rv lv : Value} {t : Tp} (h : IsTp w gv rv lv t) (e : Ext X w w') (hx : ∀ b ∈ X, w.heap.size ≤ b) : IsTp w' gv rv lv t :=
  ⟨h.gr.ext e hx, h.rd.ext e hx, h.lk.ext e hx⟩
/-- Valid tapes. -/
structure Tp.Ok (t : Tp) : Prop where
  S1 : 1 ≤ t.S
  S3 : t.S ≤ 3
  A1 : 1 ≤ t.A
  A3 : t.A ≤ 3
  T1 : 1 ≤ t.T
  T3 : t.T ≤ 3
  bl1 : 20 ≤ t.bl
  bm1 : t.bm ≤ 200
  b : t.bl ≤ t.bm
  pl1 : -9 ≤ t.pl
  pm1 : t.pm ≤ 9
  p : t.pl ≤ t.pm
  sl0 : 0 ≤ t.sl
  sl5 : t.sl ≤ 5
  grl : (t.gr.length : Int) = t.S
  gr : ∀ g ∈ t.gr, -20 ≤ g.1 ∧ g.2 ≤ 20 ∧ g.1 ≤ g.2
  rdl : t.rd.length ≤ 9
  rd : ∀ r ∈ t.rd, 0 ≤ r.1 ∧ r.1 < t.S ∧ 0 ≤ r.2.1 ∧ r.2.1 < t.A ∧ 0 ≤ r.2.2.1 ∧ r.2.2.1 < t.T ∧ 0 ≤ r.2.2.2 ∧ r.2.2.2 ≤ 250
  lkl : t.lk.length ≤ 3
  lk : ∀ l ∈ t.lk, 0 ≤ l.1 ∧ l.1 < t.S ∧ 0 ≤ l.2.1 ∧ l.2.1 < t.A ∧ 0 ≤ l.2.2.1 ∧ l.2.2.1 < t.S ∧ 0 ≤ l.2.2.2.1 ∧ l.2.2.2.1 < t.A ∧ ¬ (l.1 = l.2.2.1 ∧ l.2.1 = l.2.2.2.1) ∧ -200 ≤ l.2.2.2.2.1 ∧ l.2.2.2.2.2 ≤ 200 ∧ l.2.2.2.2.1 ≤ l.2.2.2.2.2
/-- The node of a measure, and of a tailor. -/
def nodeC (s a : Int) : Nat := (1 + s * 3 + a).toNat
def nodeT (t : Int) : Nat := (10 + t).toNat
/-- Bounds that say nothing. -/
def farM : Nat → Nat → Int := fun i k => if i = k then 0 else 1048576
/-- The first a measures of singer s. -/
def cellTo (t : Tp) (m : Nat → Nat → Int) (s : Nat) : Nat → Nat → Nat → Int
  | 0 => m
  | a + 1 =>
    if (0 : Int) < (a : Int) then limitM (limitM (cellTo t m s a) 0 (nodeC s a) t.bl t.bm) (nodeC s (a - 1)) (nodeC s a) ((t.gr.getD s (0, 0)).1) ((t.gr.getD s (0, 0)).2)
    else limitM (cellTo t m s a) 0 (nodeC s a) t.bl t.bm
def singTo (t : Tp) (m : Nat → Nat → Int) : Nat → Nat → Nat → Int
  | 0 => m
  | s + 1 => cellTo t (singTo t m s) s t.A.toNat
def tailTo (t : Tp) (m : Nat → Nat → Int) : Nat → Nat → Nat → Int
  | 0 => m
  | i + 1 => limitM (tailTo t m i) 0 (nodeT i) (-t.pm) (-t.pl)
def readTo (t : Tp) (out : Int) (m : Nat → Nat → Int) : Nat → Nat → Nat → Int
  | 0 => m
  | i + 1 =>
    if hasB out i then readTo t out m i
    else limitM (readTo t out m i) (nodeT (t.rd.getD i (0, 0, 0, 0)).2.2.1) (nodeC (t.rd.getD i (0, 0, 0, 0)).1 (t.rd.getD i (0, 0, 0, 0)).2.1) ((t.rd.getD i (0, 0, 0, 0)).2.2.2 - t.sl) ((t.rd.getD i (0, 0, 0, 0)).2.2.2 + t.sl)
def linkTo (t : Tp) (m : Nat → Nat → Int) : Nat → Nat → Nat → Int
  | 0 => m
  | i + 1 => limitM (linkTo t m i) (nodeC (t.lk.getD i (0, 0, 0, 0, 0, 0)).2.2.1 (t.lk.getD i (0, 0, 0, 0, 0, 0)).2.2.2.1) (nodeC (t.lk.getD i (0, 0, 0, 0, 0, 0)).1 (t.lk.getD i (0, 0, 0, 0, 0, 0)).2.1) (t.lk.getD i (0, 0, 0, 0, 0, 0)).2.2.2.2.1 (t.lk.getD i (0, 0, 0, 0, 0, 0)).2.2.2.2.2
/-- The bounds of tapes without some readings, before they are narrowed. -/
def looseM (t : Tp) (out : Int) : Nat → Nat → Int :=
  linkTo t (readTo t out (tailTo t (singTo t farM t.S.toNat) t.T.toNat) t.rd.length) t.lk.length
theorem zeroMat : Try.zeroCells105 = matCells fun _ _ => 0 := by
  unfold matCells
  kernel_rfl
end Go.Proofs.Ytholfdgebdlgjaa
