/- More steps of a region, and how facts on blocks are carried over them. No conditions. -/
import Derived.Test.YtholfdgebdlgjaaSx
import Derived.LoopTactic
import Derived.Deep.Cut
namespace Go.Proofs.Ytholfdgebdlgjaa
open Go.RowKit
set_option linter.unusedVariables false
set_option linter.unusedSimpArgs false
theorem new_block {w w2 : World} {o : Obj} {b : Nat} (e : w2 = w.alloc o) (h : b = w.heap.size) : w2.heap[b]? = some o := by rw [e]; exact blk_new h
theorem new_row {w w2 : World} {cs : Array Value} {T : TypeId} {b : Nat} (e : w2 = w.alloc (.cells (Value.agg cs).cells T)) (h : b = w.heap.size) : w2.heap[b]? = some (.cells cs T (0, 0)) := by rw [e]; exact blk_new h
theorem new_one {w w2 : World} {v : Value} {T : TypeId} {b : Nat} (e : w2 = w.alloc (.cells v.cells T)) (h1 : v.oneCell' = true) (h : b = w.heap.size) : w2.heap[b]? = some (.cells #[v] T (0, 0)) := by rw [e, cells_one h1]; exact blk_new h
theorem get0 {a : Value} {l : List Value} : (a :: l).toArray[0]? = some a := by simp
theorem getS {a v : Value} {l : List Value} {k : Nat} (h : l.toArray[k]? = some v) : (a :: l).toArray[k + 1]? = some v := by simpa using h
theorem mid0 {C : Array Value} {o : Nat} : ∀ j, j < 0 → C[o + j]? = ([] : List Value)[j]? := fun j h => absurd h (by omega)
theorem midS {C : Array Value} {o n : Nat} {x : Value} {cs : List Value} (h : C[o]? = some x) (k : ∀ j, j < n → C[o + 1 + j]? = cs[j]?) : ∀ j, j < n + 1 → C[o + j]? = (x :: cs)[j]? := fun j hj => by
  cases j with
  | zero => simpa using h
  | succ j => have := k j (by omega); rw [show o + (j + 1) = o + 1 + j by omega, this]; simp
theorem keep_alloc {w w2 : World} {o o' : Obj} {b : Nat} (e : w2 = w.alloc o) (h : w.heap[b]? = some o') : w2.heap[b]? = some o' := by rw [e]; exact blk_old h
theorem ext_alloc {X : List Nat} {a w w2 : World} {o : Obj} (h : Ext X a w) (e : w2 = w.alloc o) : Ext X a w2 := by rw [e]; exact h.alloc o
theorem keep_cells {w w2 : World} {b c : Nat} {o : Nat} {l : List Value} {x : Obj} (e : w2 = w.setCells c o l) (h : w.heap[b]? = some x) (hb : b ≠ c) : w2.heap[b]? = some x := by
  rw [e, setCells_other _ _ _ _ _ hb, h]
theorem put_row {w w2 : World} {b : Nat} {T : TypeId} {cs old : Array Value} (e : w2 = w.setCells b 0 cs.toList) (h : w.heap[b]? = some (.cells old T (0, 0))) (hs : old.size = cs.size) : w2.heap[b]? = some (.cells cs T (0, 0)) := by
  rw [e]; exact stored_block h hs
theorem ext_cells {X : List Nat} {a w w2 : World} {c : Nat} {o : Nat} {l : List Value} (h : Ext X a w) (e : w2 = w.setCells c o l) (hp : c < a.heap.size → c ∈ X) : Ext X a w2 := by rw [e]; exact h.setCells hp _ _
theorem keep_cell {w w2 : World} {b c o : Nat} {v : Value} {x : Obj} (e : w2 = w.setCell ⟨c, o, none⟩ v) (h : w.heap[b]? = some x) (hb : b ≠ c) : w2.heap[b]? = some x := keep_set e h hb
theorem put_cell {w w2 : World} {b o : Nat} {T : TypeId} {cs cs' : Array Value} {v : Value} (e : w2 = w.setCell ⟨b, o, none⟩ v) (h : w.heap[b]? = some (.cells cs T (0, 0))) (hc : cs.setIfInBounds o v = cs') : w2.heap[b]? = some (.cells cs' T (0, 0)) := by
  subst hc
  rw [e]
  have := blk_lt h
  simp [World.setCell, Array.getElem?_modify, h]
theorem ext_cell {X : List Nat} {a w w2 : World} {c o : Nat} {v : Value} (h : Ext X a w) (e : w2 = w.setCell ⟨c, o, none⟩ v) (hp : c < a.heap.size → c ∈ X) : Ext X a w2 := by rw [e]; exact h.setCell hp _
theorem ext_same {X : List Nat} {a w w2 : World} (h : Ext X a w) (e : Ext [] w w2) : Ext X a w2 := h.nil e
theorem range_mid' {w : World} {b off n : Nat} {cs : List Value} {C : Array Value} {T : TypeId} {fz : Nat × Nat} (H : w.heap[b]? = some (.cells C T fz)) (hn : cs.length = n) (h : ∀ j, j < n → C[off + j]? = cs[j]?) : w.rangeAt b off cs := fun j v hv => by
  rw [cells_of_block H, h j (by have := (List.getElem?_eq_some_iff.1 hv).1; omega), hv]
section
variable {P : Program} {ρ : Operand → Value} {o : Oper} {w : World}
theorem R_loadBlk {x : Operand} {t : TypeId} {b : Nat} {cs : Array Value} {T : TypeId} {fz : Nat × Nat} {d : TypeDesc} (ho : o.op = .load t x) (hx : ρ x = .pointer (some ⟨b, 0, none⟩)) (hd : P.underlying t = some d) (ha : d.isRow = true) (hi : (P.info? t).map (·.size) = some cs.size) (H : w.heap[b]? = some (.cells cs T fz)) :
    (execOp ρ o).run P w = .ok (.value (.agg cs)) w := by
  have := R_loadRow (w := w) (cs := cs.toList) ho hx hd ha (by simpa using hi) (range_of_block (T := T) (fz := fz) (by simpa using H))
  simpa using this
theorem R_field {x : Operand} {t : TypeId} {f b off sz n : Nat} {fs : Array Go.Field} {fd : Go.Field} (ho : o.op = .fieldAddr t x f) (hx : ρ x = .pointer (some ⟨b, off, none⟩)) (hu : P.underlying t = some (.struct fs)) (hf : fs[f]? = some fd) (hn : off + fd.offset = n) (hs : (P.info? fd.type).map (·.size) = some sz) (h0 : sz ≠ 0) :
    (execOp ρ o).run P w = .ok (.value (.pointer (some ⟨b, n, none⟩))) w := by
  subst hn
  exact R_fieldAddr ho hx hu hf rfl hs h0
theorem R_extract {x : Operand} {k : Nat} {vs : Array Value} {v : Value} (ho : o.op = .extract x k) (hx : ρ x = .tuple vs) (hv : vs[k]? = some v) : (execOp ρ o).run P w = .ok (.value v) w := by
  unfold execOp
  simp [ho, hx, Instr.extract, hv, Sem.run, go_sem]
theorem R_pick {c x y : Operand} {b : Bool} {v : Value} (ho : o.op = .pick c x y) (hc : ρ c = .bool b) (hv : (if b then ρ x else ρ y) = v) : (execOp ρ o).run P w = .ok (.value v) w := by
  unfold execOp
  cases b <;> simp_all [go_sem, asBool]
theorem R_build' {t : TypeId} {parts : Array (Nat × Operand)} {cells : Array Value} (ho : o.op = .build t parts) (h : P.built t (parts.map fun (i, x) => (i, ρ x)).toList = some cells) : (execOp ρ o).run P w = .ok (.value (.agg cells)) w := by
  unfold execOp
  simp [ho, run_build w t _ cells h]
theorem R_andNot {x y : Operand} {t t' : TypeId} {k : IntKind} {n m : Int} (ho : o.op = .binOp .andNot t x y t') (hx : ρ x = .int k n) (hy : ρ y = .int k m) : (execOp ρ o).run P w = .ok (.value (.int k (bits .andNot k n m))) w := by
  unfold execOp
  simp [ho, hx, hy, binOp, Op.intBits, go_sem]
  rfl
theorem R_makeFunc {fn : Fn} {first cap : Array Operand} {us vs : Array Value} (ho : o.op = .makeFunc fn first cap) (h1 : first.map ρ = us) (h2 : cap.map ρ = vs) : (execOp ρ o).run P w = .ok (.value (.func fn us vs)) w := by
  subst h1 h2
  unfold execOp
  simp [ho, Instr.makeFunc, go_sem]
/-- A slice literal is laid. -/
theorem R_buildSlice {t e : TypeId} {n size : Nat} {parts : Array (Nat × Operand)} {z : Value} {cells : Array Value} (ho : o.op = .buildSlice t n parts) (hu : P.underlying t = some (.slice e)) (hs : (P.info? e).map (·.size) = some size) (hn : n * size ≤ 2 ^ 24) (hn0 : n * size ≠ 0) (hz : ∀ w, (zeroValue e).run P w = .ok z w)
    (hf : Instr.fill (fun i => some (i * size, size)) ((Array.range (n * size)).map (z.cells[· % z.cells.size]!)) (parts.map fun (i, x) => (i, ρ x)).toList = some cells) :
    (execOp ρ o).run P w = .ok (.value (.slice (some ⟨w.heap.size, 0, none⟩) n n)) (w.alloc (.cells cells e)) := by
  unfold execOp
  cases hq : P.info? e with
  | none => simp [hq] at hs
  | some i =>
    have hs' : i.size = size := by simpa [hq] using hs
    subst hs'
    have hn' : ¬ (2 ^ 24 < n * i.size) := by omega
    simp [Value.cells] at hf
    simp [ho, Instr.buildSlice, run_underlying hu, sizeOf, typeInfo, hq, hn', hn0, hz, newRow, newObj, go_sem, hf]
    rfl
theorem R_index {x ix : Operand} {t e : TypeId} {k : IntKind} {i : Int} {n : Nat} {cs : Array Value} {v : Value} (ho : o.op = .index t x ix) (hx : ρ x = .agg cs) (hi : ρ ix = .int k i) (hu : P.underlying t = some (.array n e)) (hs : (P.info? e).map (·.size) = some 1) {d : TypeDesc} (hd : P.underlying e = some d) (ha : d.isRow = false) (h0 : 0 ≤ i) (h1 : i < n) (hv : cs[i.toNat]? = some v) :
    (execOp ρ o).run P w = .ok (.value v) w := by
  unfold execOp
  cases hq : P.info? e with
  | none => simp [hq] at hs
  | some j =>
    have hs' : j.size = 1 := by simpa [hq] using hs
    cases d <;> first | (simp [TypeDesc.isRow] at ha; done) | simp [ho, hx, hi, Instr.index, asIntOf, run_underlying hu, sizeOf, typeInfo, hq, hs', h0, h1, part, isAgg, run_underlying hd, hv, go_sem]
end
section
variable {P : Program} {ops : Array Oper} {Q : Exit → Act → World → Prop} {md : Region.Mode} {S : World → Prop}
/-- A region that draws: an operation that yields whatever came before it is taken first. -/
theorem anyH_take {i d : Nat} {oi : Oper} {v : Value} {fuel : Nat} {listed : Array Bool} {l l' : List Value} {ds : List Deferred} {w : World} (hi : ops[i]? = some oi)
    (hs : Region.noSelect ops = true) (hf : Region.free md ops listed i = true) (hr : (Region.ready md ops listed).contains i = true)
    (hQ : ∀ c a w, Q (.panic c) (a.put oi.dst v) w → Q (.panic c) a w) (hd : oi.dst = some d) (hw : Region.wanted oi (yielded ops l.toArray) = true) (hrun : ∀ w, S w → (execOp (Act.eval ⟨l.toArray, ds⟩) oi).run P w = .ok (.value v) w) (hS : S w) (hl : l.set d v = l')
    (h : wpAnyH P md ops Q S fuel (listed.setIfInBounds i true) ⟨l'.toArray, ds⟩ w) : wpAnyH P md ops Q S (fuel + 1) listed ⟨l.toArray, ds⟩ w :=
  wpAnyH_take hi hs hf hr hQ (.inl ⟨hw, hrun⟩) hS (by rw [put_lit _ hd, hl]; exact h)
theorem anyH_no {i d : Nat} {oi : Oper} {fuel : Nat} {listed : Array Bool} {l l' : List Value} {ds : List Deferred} {w : World} (hi : ops[i]? = some oi)
    (hs : Region.noSelect ops = true) (hf : Region.free md ops listed i = true) (hr : (Region.ready md ops listed).contains i = true)
    (hQ : ∀ c a w, Q (.panic c) (a.put oi.dst undef) w → Q (.panic c) a w) (hd : oi.dst = some d) (hw : Region.wanted oi (yielded ops l.toArray) = false) (hS : S w) (hl : l.set d undef = l')
    (h : wpAnyH P md ops Q S fuel (listed.setIfInBounds i true) ⟨l'.toArray, ds⟩ w) : wpAnyH P md ops Q S (fuel + 1) listed ⟨l.toArray, ds⟩ w :=
  wpAnyH_take hi hs hf hr hQ (.inr ⟨hw, rfl⟩) hS (by rw [put_lit _ hd, hl]; exact h)
theorem anyH_new {i d : Nat} {o : Oper} {v : Value} {fuel : Nat} {listed : Array Bool} {l l' : List Value} {ds : List Deferred} {w w' : World} (hi : ops[i]? = some o) (hr : Region.ready md ops listed = [i])
    (hd : o.dst = some d) (hw : Region.wanted o (yielded ops l.toArray) = true) (hrun : (execOp (Act.eval ⟨l.toArray, ds⟩) o).run P w = .ok (.value v) w') (hl : l.set d v = l')
    (h : ∀ W2, W2 = w' → S W2 ∧ wpAnyH P md ops Q S fuel (listed.setIfInBounds i true) ⟨l'.toArray, ds⟩ W2) : wpAnyH P md ops Q S (fuel + 1) listed ⟨l.toArray, ds⟩ w :=
  wpAnyH_val hi hr hw hrun (h _ rfl).1 (by rw [put_lit _ hd, hl]; exact (h _ rfl).2)
theorem anyH_to {i : Nat} {o : Oper} {fuel : Nat} {listed : Array Bool} {l : List Value} {ds : List Deferred} {w w' : World} (hi : ops[i]? = some o) (hr : Region.ready md ops listed = [i])
    (hd : o.dst = none) (hw : Region.wanted o (yielded ops l.toArray) = true) (hrun : (execOp (Act.eval ⟨l.toArray, ds⟩) o).run P w = .ok .skip w')
    (h : ∀ W2, W2 = w' → S W2 ∧ wpAnyH P md ops Q S fuel (listed.setIfInBounds i true) ⟨l.toArray, ds⟩ W2) : wpAnyH P md ops Q S (fuel + 1) listed ⟨l.toArray, ds⟩ w := by
  refine wpAnyH_skip hi hr hw hrun (h _ rfl).1 ?_
  rw [hd]
  exact (h _ rfl).2
theorem anyH_call {i d : Nat} {o : Oper} {f : FuncId} {args : Array Value} {R : Ending → World → Prop} {fuel : Nat} {listed : Array Bool} {l : List Value} {ds : List Deferred} {w : World} (hi : ops[i]? = some o) (hr : Region.ready md ops listed = [i])
    (hd : o.dst = some d) (hw : Region.wanted o (yielded ops l.toArray) = true) (hrun : (execOp (Act.eval ⟨l.toArray, ds⟩) o).run P w = .ok (.enter f args) w) (hc : Calls P f args w R)
    (h : ∀ e w', R e w' → ∃ v l', e = .returned v ∧ l.set d v = l' ∧ S w' ∧ wpAnyH P md ops Q S fuel (listed.setIfInBounds i true) ⟨l'.toArray, ds⟩ w') : wpAnyH P md ops Q S (fuel + 1) listed ⟨l.toArray, ds⟩ w := by
  refine wpAnyH_call hi hr hw hrun hc fun e w' hR => ?_
  obtain ⟨v, l', h1, h2, h3, h4⟩ := h e w' hR
  exact ⟨v, h1, h3, by rw [put_lit _ hd, h2]; exact h4⟩
/-- A region that draws begins. -/
theorem region_any {l : List Oper} {L : List Value} {ds : List Deferred} {id : Nat} {w : World} (S : World → Prop) (hm : P.follows .mixedOrders = true)
    (h : ∀ W : World, W.heap = w.heap → Ext [] w W → wpAnyH P .any l.toArray Q S l.toArray.size (Array.replicate l.toArray.size false) ⟨L.toArray, ds⟩ W) : (Code.region id l.toArray true).wp P Q ⟨L.toArray, ds⟩ w :=
  wp_region_go S hm h
end
end Go.Proofs.Ytholfdgebdlgjaa
