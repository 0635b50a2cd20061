/- Steps of a region that draws its order, one operation at a time; worlds that extend others; blocks that are known whole. No conditions. -/
import Derived.Test.YtholfdgebdlgjaaMem
namespace Go.Proofs.Ytholfdgebdlgjaa
open Go.RowKit
set_option linter.unusedVariables false
set_option linter.unusedSimpArgs false
/-- w' is w, but for the blocks of X and for new ones. -/
structure Ext (X : List Nat) (w w' : World) : Prop where
  os : w'.os = w.os
  tape : w'.tape = w.tape
  output : w'.output = w.output
  size : w.heap.size ≤ w'.heap.size
  block : ∀ k, k < w.heap.size → k ∉ X → w'.heap[k]? = w.heap[k]?
theorem Ext.refl (X : List Nat) (w : World) : Ext X w w := ⟨rfl, rfl, rfl, Nat.le_refl _, fun _ _ _ => rfl⟩
theorem Ext.trans {X : List Nat} {a b c : World} (h : Ext X a b) (k : Ext X b c) : Ext X a c :=
  ⟨k.os.trans h.os, k.tape.trans h.tape, k.output.trans h.output, Nat.le_trans h.size k.size, fun i hi hx => (k.block i (Nat.lt_of_lt_of_le hi h.size) hx).trans (h.block i hi hx)⟩
/-- Behind a step that writes blocks of Y: those that were there at the beginning are among X. -/
theorem Ext.trans' {X Y : List Nat} {a b c : World} (h : Ext X a b) (k : Ext Y b c) (hy : ∀ i ∈ Y, i < a.heap.size → i ∈ X) : Ext X a c :=
  ⟨k.os.trans h.os, k.tape.trans h.tape, k.output.trans h.output, Nat.le_trans h.size k.size, fun i hi hx => (k.block i (Nat.lt_of_lt_of_le hi h.size) (fun hm => hx (hy i hm hi))).trans (h.block i hi hx)⟩
theorem Ext.nil {X : List Nat} {a b c : World} (h : Ext X a b) (k : Ext [] b c) : Ext X a c := h.trans' k (fun _ hi => by cases hi)
theorem Ext.mono {X Y : List Nat} {a b : World} (h : Ext X a b) (hs : ∀ i ∈ X, i ∈ Y) : Ext Y a b := ⟨h.os, h.tape, h.output, h.size, fun i hi hx => h.block i hi (fun hm => hx (hs i hm))⟩
theorem Ext.drew {X : List Nat} {a w : World} (h : Ext X a w) : Ext X a w.drew := ⟨h.os, h.tape, h.output, h.size, h.block⟩
theorem Ext.alloc {X : List Nat} {a w : World} (h : Ext X a w) (o : Obj) : Ext X a (w.alloc o) :=
  h.nil ⟨rfl, rfl, rfl, by rw [size_alloc]; omega, fun k hk _ => Below.heap_alloc _ _ _ hk⟩
theorem Ext.setCell {X : List Nat} {a w : World} (h : Ext X a w) {p : Addr} (hp : p.block < a.heap.size → p.block ∈ X) (u : Value) : Ext X a (w.setCell p u) :=
  h.trans' (Y := [p.block]) ⟨rfl, rfl, rfl, by rw [size_setCell]; exact Nat.le_refl _, fun k hk hx => Below.heap_setCell _ _ _ _ (by simpa using hx)⟩ (fun i hi hl => by simp at hi; subst hi; exact hp hl)
theorem Ext.of_below {w w' : World} (h : Below w.heap.size w w') : Ext [] w w' := ⟨h.os, h.tape, h.output, h.size, fun k hk _ => h.block k hk⟩
theorem Ext.below {w w' : World} (h : Ext [] w w') : Below w.heap.size w w' := ⟨h.os, h.tape, h.output, h.size, fun k hk => h.block k hk (by simp)⟩
theorem Ext.keep {X : List Nat} {w w' : World} (h : Ext X w w') {b : Nat} {o : Obj} (H : w.heap[b]? = some o) (hb : b ∉ X) : w'.heap[b]? = some o := by
  rw [h.block b (blk_lt H) hb, H]
theorem Ext.keep0 {w w' : World} (h : Ext [] w w') {b : Nat} {o : Obj} (H : w.heap[b]? = some o) : w'.heap[b]? = some o := h.keep H (by simp)
theorem Ext.cell {X : List Nat} {w w' : World} (h : Ext X w w') {a : Addr} (ha : a.block < w.heap.size) (hb : a.block ∉ X) : w'.cell? a = w.cell? a := World.cell?_of_block (w := w) (h.block a.block ha hb)
theorem Ext.lt {X : List Nat} {w w' : World} (h : Ext X w w') {b : Nat} (hb : b < w.heap.size) : b < w'.heap.size := Nat.lt_of_lt_of_le hb h.size
theorem Ext.set' {X : List Nat} {a w w2 : World} (h : Ext X a w) {p : Addr} {u : Value} (e : w2 = w.setCell p u) (hp : p.block < a.heap.size → p.block ∈ X) : Ext X a w2 := by rw [e]; exact h.setCell hp u
theorem keep_set {w w2 : World} {p : Addr} {u : Value} {b : Nat} {o : Obj} (e : w2 = w.setCell p u) (H : w.heap[b]? = some o) (hb : b ≠ p.block) : w2.heap[b]? = some o := by
  rw [e, Below.heap_setCell _ _ _ _ hb, H]
theorem keep_same {w w' : World} {b : Nat} {o : Obj} (e : w'.heap = w.heap) (H : w.heap[b]? = some o) : w'.heap[b]? = some o := by rw [e]; exact H
/-- A row of values is stored over a whole block. -/
theorem setCells_block (b : Nat) (T : TypeId) : ∀ (cs pre : List Value) (old : List Value) (w : World), w.heap[b]? = some (.cells (pre ++ old).toArray T (0, 0)) → old.length = cs.length →
    (w.setCells b pre.length cs).heap[b]? = some (.cells (pre ++ cs).toArray T (0, 0))
  | [], pre, old, w, H, hl => by
    obtain rfl : old = [] := List.length_eq_zero_iff.1 hl
    exact H
  | v :: cs, pre, [], w, H, hl => by simp at hl
  | v :: cs, pre, x :: old, w, H, hl => by
    have := setCells_block b T cs (pre ++ [v]) old (w.setCell ⟨b, pre.length, none⟩ v) (by
      simp [World.setCell, Array.getElem?_modify, H]) (by simpa using hl)
    simpa [World.setCells] using this
theorem setCells_other (b : Nat) : ∀ (cs : List Value) (o : Nat) (w : World) (k : Nat), k ≠ b → (w.setCells b o cs).heap[k]? = w.heap[k]?
  | [], _, _, _, _ => rfl
  | v :: cs, o, w, k, h => (setCells_other b cs (o + 1) _ k h).trans (Below.heap_setCell _ _ _ _ h)
theorem setCells_same (b : Nat) : ∀ (cs : List Value) (o : Nat) (w : World), (w.setCells b o cs).os = w.os ∧ (w.setCells b o cs).tape = w.tape ∧ (w.setCells b o cs).output = w.output ∧ (w.setCells b o cs).heap.size = w.heap.size
  | [], _, _ => ⟨rfl, rfl, rfl, rfl⟩
  | v :: cs, o, w => by
    obtain ⟨h1, h2, h3, h4⟩ := setCells_same b cs (o + 1) (w.setCell ⟨b, o, none⟩ v)
    exact ⟨h1, h2, h3, h4.trans (size_setCell _ _ _)⟩
theorem Ext.setCells {X : List Nat} {a w : World} (h : Ext X a w) {b : Nat} (hp : b < a.heap.size → b ∈ X) (o : Nat) (cs : List Value) : Ext X a (w.setCells b o cs) := by
  obtain ⟨h1, h2, h3, h4⟩ := setCells_same b cs o w
  exact h.trans' (Y := [b]) ⟨h1, h2, h3, by rw [h4]; exact Nat.le_refl _, fun k hk hx => setCells_other b cs o w k (by simpa using hx)⟩ (fun i hi hl => by simp at hi; subst hi; exact hp hl)
theorem range_of_block {w : World} {b : Nat} {cs : List Value} {T : TypeId} {fz : Nat × Nat} (H : w.heap[b]? = some (.cells cs.toArray T fz)) : w.rangeAt b 0 cs := fun j v hv => by
  rw [Nat.zero_add, cells_of_block H]; simpa using hv
theorem there_of_block {w : World} {b : Nat} {cs : Array Value} {T : TypeId} (H : w.heap[b]? = some (.cells cs T (0, 0))) : w.there b 0 cs.size := fun j hj => by
  rw [Nat.zero_add, cells_of_block H, free_of_block H]; simp [hj]
theorem range_mid {w : World} {b off : Nat} {cs : List Value} {C : Array Value} {T : TypeId} {fz : Nat × Nat} (H : w.heap[b]? = some (.cells C T fz)) (h : ∀ j v, cs[j]? = some v → C[off + j]? = some v) : w.rangeAt b off cs := fun j v hv => by
  rw [cells_of_block H]; exact h j v hv
section
variable {P : Program} {ρ : Operand → Value} {o : Oper} {w : World}
theorem R_move {x : Operand} {v : Value} (ho : o.op = .move x) (hx : ρ x = v) : (execOp ρ o).run P w = .ok (.value v) w := by
  simp [execOp, ho, hx, pure, Sem.run]
theorem R_assign {x : Operand} {v : Value} (ho : o.op = .assign x) (hx : ρ x = v) : (execOp ρ o).run P w = .ok (.value v) w := by
  simp [execOp, ho, hx, pure, Sem.run]
theorem R_load {x : Operand} {t : TypeId} {b off : Nat} {v : Value} {d : TypeDesc} (ho : o.op = .load t x) (hx : ρ x = .pointer (some ⟨b, off, none⟩)) (hd : P.underlying t = some d) (ha : d.isRow = false) (hc : w.cell? ⟨b, off, none⟩ = some v) :
    (execOp ρ o).run P w = .ok (.value v) w := by
  unfold execOp
  cases d <;> first | (simp [TypeDesc.isRow] at ha; done) | simp [ho, hx, Instr.loadAt, Instr.sureAddr, loadVar, isAgg, underlying, hd, load, hc, Sem.run, go_sem]
theorem R_loadRow {x : Operand} {t : TypeId} {b off : Nat} {cs : List Value} {d : TypeDesc} (ho : o.op = .load t x) (hx : ρ x = .pointer (some ⟨b, off, none⟩)) (hd : P.underlying t = some d) (ha : d.isRow = true) (hi : (P.info? t).map (·.size) = some cs.length) (hc : w.rangeAt b off cs) :
    (execOp ρ o).run P w = .ok (.value (.agg cs.toArray)) w := by
  unfold execOp
  simp only [ho, hx, Instr.loadAt, Instr.sureAddr, Sem.run_bind, Sem.run_pure, Result.andThen_ok, run_loadVar_mid w b off t cs d hc hd ha hi]
theorem R_storeRow {x y : Operand} {t : TypeId} {b : Nat} {cs : Array Value} (ho : o.op = .store t x y) (hx : ρ x = .pointer (some ⟨b, 0, none⟩)) (hy : ρ y = .agg cs) (hi : (P.info? t).map (·.size) = some cs.size) (h1 : cs.all (·.oneCell') = true) {old : Array Value} {T : TypeId} (H : w.heap[b]? = some (.cells old T (0, 0))) (hs : old.size = cs.size) :
    (execOp ρ o).run P w = .ok .skip (w.setCells b 0 cs.toList) := by
  unfold execOp
  have ht := there_of_block H
  rw [hs] at ht
  simp only [ho, hx, hy, Instr.storeAt, Instr.sureAddr, Sem.run_bind, Sem.run_pure, Result.andThen_ok, run_storeVar_mid w b 0 t cs ht hi h1]
theorem stored_block {b : Nat} {T : TypeId} {cs old : Array Value} (H : w.heap[b]? = some (.cells old T (0, 0))) (hs : old.size = cs.size) : (w.setCells b 0 cs.toList).heap[b]? = some (.cells cs T (0, 0)) := by
  have := setCells_block b T cs.toList [] old.toList w (by simpa using H) (by simpa using hs)
  simpa using this
theorem wrap_id {n : Int} (h1 : -9223372036854775808 ≤ n) (h2 : n ≤ 9223372036854775807) : IntKind.i64.wrap n = n := IntWalk.i64_in n (by omega)
theorem R_add {x y : Operand} {t t' : TypeId} {n m : Int} (ho : o.op = .binOp .add t x y t') (hx : ρ x = .int .i64 n) (hy : ρ y = .int .i64 m) (h1 : -9223372036854775808 ≤ n + m) (h2 : n + m ≤ 9223372036854775807) :
    (execOp ρ o).run P w = .ok (.value (.int .i64 (n + m))) w := by
  have hw := wrap_id h1 h2
  unfold execOp
  simp [ho, hx, hy, eqGuard, binOp, Op.intArith, hw, go_sem]
theorem R_sub {x y : Operand} {t t' : TypeId} {n m : Int} (ho : o.op = .binOp .sub t x y t') (hx : ρ x = .int .i64 n) (hy : ρ y = .int .i64 m) (h1 : -9223372036854775808 ≤ n - m) (h2 : n - m ≤ 9223372036854775807) :
    (execOp ρ o).run P w = .ok (.value (.int .i64 (n - m))) w := by
  have hw := wrap_id h1 h2
  unfold execOp
  simp [ho, hx, hy, eqGuard, binOp, Op.intArith, hw, go_sem]
theorem R_mul {x y : Operand} {t t' : TypeId} {n m : Int} (ho : o.op = .binOp .mul t x y t') (hx : ρ x = .int .i64 n) (hy : ρ y = .int .i64 m) (h1 : -9223372036854775808 ≤ n * m) (h2 : n * m ≤ 9223372036854775807) :
    (execOp ρ o).run P w = .ok (.value (.int .i64 (n * m))) w := by
  have hw := wrap_id h1 h2
  unfold execOp
  simp [ho, hx, hy, eqGuard, binOp, Op.intArith, hw, go_sem]
theorem R_neg {x : Operand} {t : TypeId} {n : Int} (ho : o.op = .unOp .neg t x) (hx : ρ x = .int .i64 n) (h1 : -9223372036854775807 ≤ n) (h2 : n ≤ 9223372036854775807) :
    (execOp ρ o).run P w = .ok (.value (.int .i64 (-n))) w := by
  have hw := wrap_id (n := -n) (by omega) (by omega)
  unfold execOp
  simp [ho, hx, Op.intArith, hw, go_sem]
theorem R_not {x : Operand} {t : TypeId} {b : Bool} (ho : o.op = .unOp .not t x) (hx : ρ x = .bool b) : (execOp ρ o).run P w = .ok (.value (.bool !b)) w := by
  unfold execOp
  simp [ho, hx, go_sem]
theorem R_lss {x y : Operand} {t t' : TypeId} {k : IntKind} {n m : Int} (ho : o.op = .binOp .lss t x y t') (hx : ρ x = .int k n) (hy : ρ y = .int k m) :
    (execOp ρ o).run P w = .ok (.value (.bool (decide (n < m)))) w := by
  unfold execOp
  simp [ho, hx, hy, eqGuard, binOp, Op.intCmp, go_sem]
theorem R_leq {x y : Operand} {t t' : TypeId} {k : IntKind} {n m : Int} (ho : o.op = .binOp .leq t x y t') (hx : ρ x = .int k n) (hy : ρ y = .int k m) :
    (execOp ρ o).run P w = .ok (.value (.bool (decide (n ≤ m)))) w := by
  unfold execOp
  simp [ho, hx, hy, eqGuard, binOp, Op.intCmp, go_sem]
theorem R_gtr {x y : Operand} {t t' : TypeId} {k : IntKind} {n m : Int} (ho : o.op = .binOp .gtr t x y t') (hx : ρ x = .int k n) (hy : ρ y = .int k m) :
    (execOp ρ o).run P w = .ok (.value (.bool (decide (m < n)))) w := by
  unfold execOp
  simp [ho, hx, hy, eqGuard, binOp, Op.intCmp, go_sem]
theorem R_geq {x y : Operand} {t t' : TypeId} {k : IntKind} {n m : Int} (ho : o.op = .binOp .geq t x y t') (hx : ρ x = .int k n) (hy : ρ y = .int k m) :
    (execOp ρ o).run P w = .ok (.value (.bool (decide (m ≤ n)))) w := by
  unfold execOp
  simp [ho, hx, hy, eqGuard, binOp, Op.intCmp, go_sem]
theorem R_eql {x y : Operand} {t t' : TypeId} {k : IntKind} {n m : Int} (ho : o.op = .binOp .eql t x y t') (hx : ρ x = .int k n) (hy : ρ y = .int k m) :
    (execOp ρ o).run P w = .ok (.value (.bool (n == m))) w := by
  unfold execOp
  simp [ho, hx, hy, eqGuard, binOp, Op.intCmp, go_sem]
theorem R_neq {x y : Operand} {t t' : TypeId} {k : IntKind} {n m : Int} (ho : o.op = .binOp .neq t x y t') (hx : ρ x = .int k n) (hy : ρ y = .int k m) :
    (execOp ρ o).run P w = .ok (.value (.bool (n != m))) w := by
  unfold execOp
  simp [ho, hx, hy, eqGuard, binOp, Op.intCmp, go_sem]
theorem R_nilCheck {x : Operand} {b : Addr} (ho : o.op = .nilCheck x) (hx : ρ x = .pointer (some b)) : (execOp ρ o).run P w = .ok (.value (.pointer (some b))) w := by
  unfold execOp
  simp [ho, hx, go_sem]
theorem R_fieldAddr {x : Operand} {t : TypeId} {f b off sz : Nat} {fs : Array Go.Field} {fd : Go.Field} (ho : o.op = .fieldAddr t x f) (hx : ρ x = .pointer (some ⟨b, off, none⟩)) (hu : P.underlying t = some (.struct fs)) (hf : fs[f]? = some fd) {n : Nat} (hn : fd.offset = n) (hs : (P.info? fd.type).map (·.size) = some sz) (h0 : sz ≠ 0) :
    (execOp ρ o).run P w = .ok (.value (.pointer (some ⟨b, off + n, none⟩))) w := by
  subst hn
  unfold execOp
  cases hq : P.info? fd.type with
  | none => simp [hq] at hs
  | some i =>
    have hs' : i.size = sz := by simpa [hq] using hs
    simp [ho, hx, Instr.fieldAt, Instr.sureAddr, run_underlying hu, hf, sizeOf, typeInfo, hq, hs', h0, go_sem]
theorem R_ixArr {x ix : Operand} {t e : TypeId} {k : IntKind} {i : Int} {b off n sz : Nat} (ho : o.op = .indexAddr t x ix) (hx : ρ x = .pointer (some ⟨b, off, none⟩)) (hi : ρ ix = .int k i) (hu : P.underlying t = some (.array n e)) (hs : (P.info? e).map (·.size) = some sz) (h0 : 0 ≤ i) (h1 : i < n) :
    (execOp ρ o).run P w = .ok (.value (.pointer (some ⟨b, off + i.toNat * sz, none⟩))) w := by
  unfold execOp
  cases hq : P.info? e with
  | none => simp [hq] at hs
  | some j =>
    have hs' : j.size = sz := by simpa [hq] using hs
    simp [ho, hx, hi, Instr.indexAt, Instr.sureAddr, run_underlying hu, asIntOf, h0, h1, sizeOf, typeInfo, hq, hs', go_sem]
theorem R_ixSlice {x ix : Operand} {t e : TypeId} {k : IntKind} {i : Int} {b off len cap sz : Nat} (ho : o.op = .indexAddr t x ix) (hx : ρ x = .slice (some ⟨b, off, none⟩) len cap) (hi : ρ ix = .int k i) (hu : P.underlying t = some (.slice e)) (hs : (P.info? e).map (·.size) = some sz) (h0 : 0 ≤ i) (h1 : i < len) :
    (execOp ρ o).run P w = .ok (.value (.pointer (some ⟨b, off + i.toNat * sz, none⟩))) w := by
  unfold execOp
  cases hq : P.info? e with
  | none => simp [hq] at hs
  | some j =>
    have hs' : j.size = sz := by simpa [hq] using hs
    simp [ho, hx, hi, Instr.indexAt, run_underlying hu, asIntOf, h0, h1, sizeOf, typeInfo, hq, hs', go_sem]
theorem R_len {c : Call} {x : Operand} {t : TypeId} {a : Option Addr} {n cap : Nat} (ho : o.op = .call c) (hc : c = { callee := .builtin .len, args := #[x], argTypes := #[t] }) (hx : ρ x = .slice a n cap) (hu : P.underlying t = some (.slice (P.elem t))) :
    (execOp ρ o).run P w = .ok (.value (.int .i64 n)) w := by
  subst hc
  unfold execOp
  simp [ho, hx, resolve, invoke, builtin, run_len_slice w t o.type a n cap hu, goInt, go_sem]
theorem R_max {c : Call} {x y : Operand} {t t' : TypeId} {n m : Int} (ho : o.op = .call c) (hc : c = { callee := .builtin .max, args := #[x, y], argTypes := #[t, t'] }) (hx : ρ x = .int .i64 n) (hy : ρ y = .int .i64 m) :
    (execOp ρ o).run P w = .ok (.value (.int .i64 (max n m))) w := by
  subst hc
  unfold execOp
  simp [ho, hx, hy, resolve, invoke, builtin, go_sem]
  split <;> omega
theorem cells_one {v : Value} (h : v.oneCell' = true) : v.cells = #[v] := by
  cases v <;> first | rfl | (simp [Value.oneCell'] at h)
theorem R_store {x y : Operand} {t : TypeId} {b off : Nat} {v u : Value} (ho : o.op = .store t x y) (hx : ρ x = .pointer (some ⟨b, off, none⟩)) (hy : ρ y = v) (h1 : v.oneCell' = true) (hs : (P.info? t).map (·.size) = some 1) (hc : w.cell? ⟨b, off, none⟩ = some u) (hf : w.frozen? ⟨b, off, none⟩ = false) :
    (execOp ρ o).run P w = .ok .skip (w.setCell ⟨b, off, none⟩ v) := by
  have := run_storeCells_cells (P := P) b off [v] 0 w (fun j hj => by obtain rfl : j = 0 := (by simp at hj; omega); simp [hc]) (fun j hj => by obtain rfl : j = 0 := (by simp at hj; omega); simp [hf]) (fun z hz => by simp at hz; subst hz; exact h1)
  simp only [Nat.add_zero] at this
  have hsv : (storeVar t ⟨b, off, none⟩ v).run P w = .ok () (w.setCell ⟨b, off, none⟩ v) := by
    unfold storeVar
    rw [cells_one h1]
    cases hq : P.info? t with
    | none => simp [hq] at hs
    | some j =>
      have hs' : j.size = 1 := by simpa [hq] using hs
      simp [sizeOf, typeInfo, hq, hs', this]
      rfl
  unfold execOp
  simp only [ho, hx, hy, Instr.storeAt, Instr.sureAddr, Sem.run_bind, Sem.run_pure, Result.andThen_ok, hsv]
theorem R_min {c : Call} {x y : Operand} {t t' : TypeId} {n m : Int} (ho : o.op = .call c) (hc : c = { callee := .builtin .min, args := #[x, y], argTypes := #[t, t'] }) (hx : ρ x = .int .i64 n) (hy : ρ y = .int .i64 m) :
    (execOp ρ o).run P w = .ok (.value (.int .i64 (min n m))) w := by
  subst hc
  unfold execOp
  simp [ho, hx, hy, resolve, invoke, builtin, go_sem]
  split <;> omega
theorem R_alloc {T : TypeId} {z : Value} (ho : o.op = .alloc T) (hz : ∀ w, (zeroValue T).run P w = .ok z w) : (execOp ρ o).run P w = .ok (.value (.pointer (some ⟨w.heap.size, 0, none⟩))) (w.alloc (.cells z.cells T)) := by
  unfold execOp
  simp only [ho, Instr.alloc, Sem.run_bind, hz, Result.andThen_ok]
  simp only [newVar, newRow, newObj, Sem.run_bind, Sem.run_pure]
  rfl
theorem R_box {T : TypeId} {x : Operand} {v : Value} (ho : o.op = .box T x) (hx : ρ x = v) : (execOp ρ o).run P w = .ok (.value (.pointer (some ⟨w.heap.size, 0, none⟩))) (w.alloc (.cells v.cells T)) := by
  unfold execOp
  simp only [ho, hx, Instr.box, Sem.run_bind, Result.andThen_ok]
  simp only [newVar, newRow, newObj, Sem.run_bind, Sem.run_pure]
  rfl
theorem Y_of {ops : Array Oper} {S : World → Prop} {a : Act} {v : Value} (hw : Region.wanted o (yielded ops a.tmps) = true) (h : ∀ w, S w → (execOp a.eval o).run P w = .ok (.value v) w) : YieldsIf P ops S o v a := .inl ⟨hw, h⟩
end
section
variable {P : Program} {ops : Array Oper} {Q : Exit → Act → World → Prop} {o : Oper} {rest : List Oper} {a : Act} {w w' : World} {v : Value}
theorem put_lit {l : List Value} {ds : List Deferred} {d : Tmp} {v : Value} (o : Option Tmp) (hd : o = some d) : (Act.mk l.toArray ds).put o v = Act.mk (l.set d v).toArray ds := by
  subst hd; simp [Act.put]
theorem still_val {K : Act → Prop} {l l' : List Value} {ds : List Deferred} {d : Tmp} (hd : o.dst = some d) (hw : Region.wanted o (yielded ops l.toArray) = true) (hr : (execOp (Act.eval ⟨l.toArray, ds⟩) o).run P w = .ok (.value v) w) (hl : l.set d v = l') (h : wpStill P ops w K rest ⟨l'.toArray, ds⟩) : wpStill P ops w K (o :: rest) ⟨l.toArray, ds⟩ := by
  unfold wpStill
  simp only [hw, if_true, Oper.still, hr, Oper.stillUpon_value]
  rw [put_lit _ hd, hl]
  exact h
theorem still_call {K : Act → Prop} {l l' : List Value} {ds : List Deferred} {d : Tmp} {f : FuncId} {args : Array Value} (hd : o.dst = some d) (hw : Region.wanted o (yielded ops l.toArray) = true) (hr : (execOp (Act.eval ⟨l.toArray, ds⟩) o).run P w = .ok (.enter f args) w) (hc : Calls P f args w fun e w' => e = .returned v ∧ w = w') (hl : l.set d v = l') (h : wpStill P ops w K rest ⟨l'.toArray, ds⟩) : wpStill P ops w K (o :: rest) ⟨l.toArray, ds⟩ := by
  unfold wpStill
  simp only [hw, if_true, Oper.still, hr, Oper.stillUpon]
  refine ⟨trivial, v, hc.mono fun e w' h => ⟨h.1, h.2.symm⟩, ?_⟩
  rw [put_lit _ hd, hl]
  exact h
theorem still_no {K : Act → Prop} {l l' : List Value} {ds : List Deferred} {d : Tmp} (hd : o.dst = some d) (hw : Region.wanted o (yielded ops l.toArray) = false) (hl : l.set d undef = l') (h : wpStill P ops w K rest ⟨l'.toArray, ds⟩) : wpStill P ops w K (o :: rest) ⟨l.toArray, ds⟩ := by
  unfold wpStill
  simp only [hw, Bool.false_eq_true, if_false]
  rw [put_lit _ hd, hl]
  exact h
theorem seq_val {l l' : List Value} {ds : List Deferred} {d : Tmp} (hd : o.dst = some d) (hw : Region.wanted o (yielded ops l.toArray) = true) (hr : (execOp (Act.eval ⟨l.toArray, ds⟩) o).run P w = .ok (.value v) w') (hl : l.set d v = l') (h : wpList P ops Q rest ⟨l'.toArray, ds⟩ w') : wpList P ops Q (o :: rest) ⟨l.toArray, ds⟩ w := by
  unfold wpList
  simp only [hw, if_true, Oper.wp, hr, Oper.upon]
  rw [put_lit _ hd, hl]
  exact .inl h
theorem seq_skip {l : List Value} {ds : List Deferred} (hd : o.dst = none) (hw : Region.wanted o (yielded ops l.toArray) = true) (hr : (execOp (Act.eval ⟨l.toArray, ds⟩) o).run P w = .ok .skip w') (h : wpList P ops Q rest ⟨l.toArray, ds⟩ w') : wpList P ops Q (o :: rest) ⟨l.toArray, ds⟩ w := by
  unfold wpList
  simp only [hw, if_true, Oper.wp, hr, Oper.upon, hd, Act.put]
  exact .inl h
theorem seq_no {l l' : List Value} {ds : List Deferred} {d : Tmp} (hd : o.dst = some d) (hw : Region.wanted o (yielded ops l.toArray) = false) (hl : l.set d undef = l') (h : wpList P ops Q rest ⟨l'.toArray, ds⟩ w) : wpList P ops Q (o :: rest) ⟨l.toArray, ds⟩ w := by
  unfold wpList
  simp only [hw, Bool.false_eq_true, if_false]
  rw [put_lit _ hd, hl]
  exact h
theorem seq_call {l : List Value} {ds : List Deferred} {d : Tmp} {f : FuncId} {args : Array Value} {R : Ending → World → Prop} (hd : o.dst = some d) (hw : Region.wanted o (yielded ops l.toArray) = true) (hr : (execOp (Act.eval ⟨l.toArray, ds⟩) o).run P w = .ok (.enter f args) w) (hc : Calls P f args w R) (h : ∀ e w', R e w' → ∃ v l', e = .returned v ∧ l.set d v = l' ∧ wpList P ops Q rest ⟨l'.toArray, ds⟩ w') : wpList P ops Q (o :: rest) ⟨l.toArray, ds⟩ w := by
  unfold wpList
  simp only [hw, if_true, Oper.wp, hr, Oper.upon]
  refine .inl (hc.mono fun e w' hR => ?_)
  obtain ⟨v, l', rfl, hl, h1⟩ := h e w' hR
  show wpList _ _ _ _ _ _
  rw [put_lit _ hd, hl]
  exact h1
/-- As seq_skip; the world behind it gets a name. -/
theorem seq_to {l : List Value} {ds : List Deferred} (hd : o.dst = none) (hw : Region.wanted o (yielded ops l.toArray) = true) (hr : (execOp (Act.eval ⟨l.toArray, ds⟩) o).run P w = .ok .skip w') (h : ∀ W2, W2 = w' → wpList P ops Q rest ⟨l.toArray, ds⟩ W2) : wpList P ops Q (o :: rest) ⟨l.toArray, ds⟩ w :=
  seq_skip hd hw hr (h _ rfl)
/-- As seq_val; the world behind it gets a name. -/
theorem seq_new {l l' : List Value} {ds : List Deferred} {d : Tmp} (hd : o.dst = some d) (hw : Region.wanted o (yielded ops l.toArray) = true) (hr : (execOp (Act.eval ⟨l.toArray, ds⟩) o).run P w = .ok (.value v) w') (hl : l.set d v = l') (h : ∀ W2, W2 = w' → wpList P ops Q rest ⟨l'.toArray, ds⟩ W2) : wpList P ops Q (o :: rest) ⟨l.toArray, ds⟩ w :=
  seq_val hd hw hr hl (h _ rfl)
end
/-- A region that draws begins: the world behind the draw has the same heap. -/
theorem wp_region_go {P : Program} {ops : Array Oper} {Q : Exit → Act → World → Prop} {id : Nat} {a : Act} {w : World} (S : World → Prop) (hm : P.follows .mixedOrders = true)
    (h : ∀ W : World, W.heap = w.heap → Ext [] w W → wpAnyH P .any ops Q S ops.size (Array.replicate ops.size false) a W) : (Code.region id ops true).wp P Q a w :=
  wp_region_held (S := S) hm (h _ rfl ⟨rfl, rfl, rfl, Nat.le_refl _, fun _ _ _ => rfl⟩)
/-- A region that draws, whose first n operations only read: the world behind the draw gets a name. -/
theorem wp_region_st {P : Program} {id : Nat} {Q : Exit → Act → World → Prop} {a : Act} {w : World} {l : List Oper} (n : Nat) (hm : P.follows .mixedOrders = true) (hB : Region.lexTailB .any l.toArray n = true)
    (h : ∀ W : World, W.heap = w.heap → Ext [] w W → wpStill P l.toArray W (fun a' => wpList P l.toArray Q (l.drop n) a' W) (l.take n) a) : (Code.region id l.toArray true).wp P Q a w :=
  wp_region_still_tail n hm hB (h _ rfl ⟨rfl, rfl, rfl, Nat.le_refl _, fun _ _ _ => rfl⟩)
/-- A struct result is read out of its block at the return. -/
theorem res_cell {P : Program} {fn : Func} {t : Tmp} {ty : TypeId} {tmps : Array Value} {w : World} {b : Nat} {cs : Array Value} {T : TypeId} {d : TypeDesc} {fz : Nat × Nat} (hr : fn.results = #[.cell t ty]) (ht : tmps.getD t undef = .pointer (some ⟨b, 0, none⟩)) (hd : P.underlying ty = some d) (ha : d.isRow = true) (hi : (P.info? ty).map (·.size) = some cs.size) (H : w.heap[b]? = some (.cells cs T fz)) :
    (results fn tmps).run P w = .ok (.agg cs) w := by
  have hc : w.rangeAt b 0 cs.toList := fun j v hv => by
    rw [Nat.zero_add, cells_of_block H]; simpa using hv
  have hl := run_loadVar_mid (P := P) w b 0 ty cs.toList d hc hd ha (by simpa using hi)
  have ht' : tmps[t]?.getD undef = .pointer (some ⟨b, 0, none⟩) := by simpa using ht
  simp [results, hr, ht', asAddr, hl, Sem.run_bind, Sem.run_pure, Result.andThen]
end Go.Proofs.Ytholfdgebdlgjaa
