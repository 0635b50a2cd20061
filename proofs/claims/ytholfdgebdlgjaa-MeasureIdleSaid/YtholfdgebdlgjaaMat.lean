/- A matrix of 13 rows and 13 columns in one block of memory. No conditions. -/
import Derived.Test.YtholfdgebdlgjaaM1
import Derived.Test.YtholfdgebdlgjaaSx
namespace Go.Proofs.Ytholfdgebdlgjaa
open Go.RowKit
/-- The cells of a 13 x 13 matrix. -/
def matCells (m : Nat → Nat → Int) : Array Value := Array.ofFn (n := 169) fun i => .int .i64 (m (i.1 / 13) (i.1 % 13))
theorem matCells_size (m) : (matCells m).size = 169 := by simp [matCells]
theorem matCells_get (m : Nat → Nat → Int) (i j : Nat) (hi : i < 13) (hj : j < 13) : (matCells m)[i * 13 + j]? = some (.int .i64 (m i j)) := by
  have h : i * 13 + j < 169 := by omega
  have e1 : (i * 13 + j) / 13 = i := by omega
  have e2 : (i * 13 + j) % 13 = j := by omega
  simp [matCells, h, e1, e2]
def upd (m : Nat → Nat → Int) (i j : Nat) (v : Int) : Nat → Nat → Int := fun a b => if a = i ∧ b = j then v else m a b
theorem matCells_set (m : Nat → Nat → Int) (i j : Nat) (hi : i < 13) (hj : j < 13) (v : Int) :
    (matCells m).setIfInBounds (i * 13 + j) (.int .i64 v) = matCells (upd m i j v) := by
  apply Array.ext_getElem?
  intro k
  rw [Array.getElem?_setIfInBounds]
  by_cases hk : i * 13 + j = k
  · subst hk
    have h : i * 13 + j < 169 := by omega
    have e1 : (i * 13 + j) / 13 = i := by omega
    have e2 : (i * 13 + j) % 13 = j := by omega
    simp [matCells, h, upd, e1, e2]
  · rw [if_neg hk]
    by_cases h : k < 169
    · have h2 : ¬ (k / 13 = i ∧ k % 13 = j) := by omega
      simp [matCells, h, upd, h2]
    · simp [matCells, h]
theorem matCells_congr {m m' : Nat → Nat → Int} (h : ∀ i j, i < 13 → j < 13 → m i j = m' i j) : matCells m = matCells m' := by
  apply Array.ext_getElem?
  intro k
  by_cases hk : k < 169
  · simp [matCells, hk, h (k / 13) (k % 13) (by omega) (by omega)]
  · simp [matCells, hk]
def matList (m : Nat → Nat → Int) : List Value := (matCells m).toList
theorem matList_toArray (m) : (matList m).toArray = matCells m := by simp only [matList, Array.toArray_toList]
theorem matList_length (m) : (matList m).length = 169 := by simp only [matList, Array.length_toList, matCells_size]
theorem matList_one (m) : ∀ v ∈ matList m, v.oneCell' = true := by
  intro v hv
  obtain ⟨k, hk, rfl⟩ := List.mem_iff_getElem.1 hv
  simp only [matList, matCells, Array.getElem_toList, Array.getElem_ofFn]
  rfl
/-- Block b holds the matrix m. -/
structure MatAt (w : World) (b : Nat) (ty : TypeId) (m : Nat → Nat → Int) : Prop where
  blk : w.heap[b]? = some (.cells (matCells m) ty (0, 0))
theorem MatAt.cell {w : World} {b ty} {m} (h : MatAt w b ty m) (i j : Nat) (hi : i < 13) (hj : j < 13) :
    w.cell? ⟨b, i * 13 + j, none⟩ = some (.int .i64 (m i j)) := by
  simp [World.cell?, h.blk, matCells_get m i j hi hj]
theorem MatAt.frozen {w : World} {b ty} {m} (h : MatAt w b ty m) (o : Nat) : w.frozen? ⟨b, o, none⟩ = false := by
  simp [World.frozen?, h.blk]
theorem MatAt.set {w : World} {b ty} {m} (h : MatAt w b ty m) (i j : Nat) (hi : i < 13) (hj : j < 13) (v : Int) :
    MatAt (w.setCell ⟨b, i * 13 + j, none⟩ (.int .i64 v)) b ty (upd m i j v) := by
  constructor
  simp [World.setCell, Array.getElem?_modify, h.blk, matCells_set m i j hi hj v]
theorem MatAt.drew {w : World} {b ty} {m} (h : MatAt w b ty m) : MatAt w.drew b ty m := ⟨h.blk⟩
theorem MatAt.alloc {w : World} {b ty} {m} (h : MatAt w b ty m) (o : Obj) : MatAt (w.alloc o) b ty m := ⟨blk_old h.blk⟩
theorem MatAt.set' {w w2 : World} {b ty} {m} (h : MatAt w b ty m) (i j : Nat) {off : Nat} {v : Int} (e : w2 = w.setCell ⟨b, off, none⟩ (.int .i64 v)) (hi : i < 13) (hj : j < 13) (eo : off = i * 13 + j) : MatAt w2 b ty (upd m i j v) := by subst e; subst eo; exact h.set i j hi hj v
theorem MatAt.ext {X : List Nat} {w w' : World} {b ty} {m} (h : MatAt w b ty m) (e : Ext X w w') (hb : b ∉ X) : MatAt w' b ty m := ⟨e.keep h.blk hb⟩
theorem MatAt.same {w w' : World} {b ty} {m} (h : MatAt w b ty m) (e : w'.heap = w.heap) : MatAt w' b ty m := ⟨by rw [e]; exact h.blk⟩
theorem MatAt.lt {w : World} {b ty} {m} (h : MatAt w b ty m) : b < w.heap.size := blk_lt h.blk
theorem MatAt.below {B : Nat} {w w' : World} {b ty} {m} (h : MatAt w b ty m) (hb : Below B w w') (hB : b < B) : MatAt w' b ty m := ⟨blk_below hb h.blk hB⟩
theorem MatAt.new {w : World} {b : Nat} {ty} {m} (h : b = w.heap.size) : MatAt (w.alloc (.cells (matCells m) ty)) b ty m := ⟨blk_new h⟩
theorem MatAt.other {w : World} {b ty} {m} (h : MatAt w b ty m) (a : Addr) (ha : b ≠ a.block) (v : Value) : MatAt (w.setCell a v) b ty m := ⟨by rw [Below.heap_setCell _ _ _ _ ha]; exact h.blk⟩
theorem MatAt.range {w : World} {b ty} {m} (h : MatAt w b ty m) : w.rangeAt b 0 (matList m) := by
  intro j v hv
  rw [Nat.zero_add, cells_of_block h.blk]
  rw [matList, Array.getElem?_toList] at hv
  exact hv
attribute [irreducible] matCells matList
theorem MatAt.cellAt {w : World} {b ty} {m} (h : MatAt w b ty m) (i j off : Nat) (hi : i < 13) (hj : j < 13) (e : off = i * 13 + j) :
    w.cell? ⟨b, off, none⟩ = some (.int .i64 (m i j)) := by subst e; exact h.cell i j hi hj
theorem MatAt.setAt {w : World} {b ty} {m} (h : MatAt w b ty m) (i j off : Nat) (hi : i < 13) (hj : j < 13) (e : off = i * 13 + j) (v : Int) :
    MatAt (w.setCell ⟨b, off, none⟩ (.int .i64 v)) b ty (upd m i j v) := by subst e; exact h.set i j hi hj v
theorem matInfo (m) : (Try.prog.info? 105).map (·.size) = some (matList m).length := by rw [matList_length]; kernel_rfl
end Go.Proofs.Ytholfdgebdlgjaa
