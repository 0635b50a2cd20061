/- The order in which sets of readings are gone through, and what a round of a loop over them keeps. No conditions. -/
import Derived.Test.YtholfdgebdlgjaaSets
import Derived.RangeFuncKeeps
import Derived.RangeFuncFrom
namespace Go.Proofs.Ytholfdgebdlgjaa
open Go.RowKit
set_option linter.unusedVariables false
/-- The sets that grow by so many readings, from one on. -/
def growL (many : Nat) : Nat → Nat → Nat → List Nat
  | 0, s, _ => [s]
  | more + 1, s, from_ => (List.range (many - more - from_)).flatMap fun k => growL many more (s ||| 2 ^ (from_ + k)) (from_ + k + 1)
/-- All sets of so many readings, the shorter lists first. -/
def setsL (many : Nat) : List Nat := (List.range (many + 1)).flatMap fun size => growL many size 0 0
theorem flat_succ {α : Type} (f : Nat → List α) (k : Nat) : (List.range (k + 1)).flatMap f = (List.range k).flatMap f ++ f k := by
  rw [List.range_succ, List.flatMap_append]; simp
theorem flat_prefix {α : Type} (f : Nat → List α) {k n : Nat} (h : k ≤ n) : (List.range k).flatMap f <+: (List.range n).flatMap f := by
  obtain ⟨d, rfl⟩ := Nat.exists_eq_add_of_le h
  induction d with
  | zero => exact List.prefix_refl _
  | succ d ih => exact (ih (by omega)).trans ⟨f (k + d), by rw [← flat_succ]; rfl⟩
/-- All cells but those of X lie as they lay. -/
structure KeepC (X : List Nat) (w w' : World) : Prop where
  os : w'.os = w.os
  tape : w'.tape = w.tape
  output : w'.output = w.output
  size : w.heap.size ≤ w'.heap.size
  block : ∀ (k : Nat) (o : Obj), w.heap[k]? = some o → o.isCells = true → k ∉ X → w'.heap[k]? = some o
theorem KeepC.refl (X : List Nat) (w : World) : KeepC X w w := ⟨rfl, rfl, rfl, Nat.le_refl _, fun _ _ h _ _ => h⟩
theorem KeepC.trans {X : List Nat} {a b c : World} (h : KeepC X a b) (k : KeepC X b c) : KeepC X a c :=
  ⟨k.os.trans h.os, k.tape.trans h.tape, k.output.trans h.output, Nat.le_trans h.size k.size, fun i o hi hc hx => k.block i o (h.block i o hi hc hx) hc hx⟩
theorem KeepC.of_ext {X : List Nat} {a b : World} (h : Ext X a b) : KeepC X a b :=
  ⟨h.os, h.tape, h.output, h.size, fun i o hi _ hx => h.keep hi hx⟩
theorem KeepC.put {X : List Nat} (W : World) (l : Nat) (o o' : Obj) (hl : W.heap[l]? = some o) (hc : o.isCells = false) : KeepC X W (W.putObj l o') := by
  refine ⟨rfl, rfl, rfl, by simp [World.putObj], fun k x hk hx _ => ?_⟩
  have : k ≠ l := fun e => by subst e; rw [hl] at hk; cases hk; rw [hc] at hx; cases hx
  rw [World.putObj_heap_other this]; exact hk
theorem KeepC.cells {X : List Nat} {a b : World} (h : KeepC X a b) {k : Nat} {cs : Array Value} {T : TypeId} {fz : Nat × Nat} (H : a.heap[k]? = some (.cells cs T fz)) (hx : k ∉ X) : b.heap[k]? = some (.cells cs T fz) := h.block k _ H rfl hx
theorem KeepC.mono {X Y : List Nat} {a b : World} (h : KeepC X a b) (hs : ∀ i ∈ X, i ∈ Y) : KeepC Y a b := ⟨h.os, h.tape, h.output, h.size, fun i o hi hc hx => h.block i o hi hc (fun hm => hx (hs i hm))⟩
theorem or_lt16 {s n : Nat} (hs : s < 65536) (hn : n < 16) : s ||| 2 ^ n < 65536 :=
  Nat.or_lt_two_pow (n := 16) hs (Nat.pow_lt_pow_right (by decide) hn)
end Go.Proofs.Ytholfdgebdlgjaa
