/- Functions that defer, or range over a function: how they begin and end; caught, where no fault came. No conditions. -/
import Derived.Test.YtdjeecgddbjbeaaDri
import Derived.RecoverIn
namespace Go.Proofs.Ytdjeecgddbjbeaa
open Go.RowKit
set_option linter.unusedVariables false
set_option linter.unusedSimpArgs false
section
variable {P : Program} {fn : Func} {R : Ending → World → Prop} {N : Nat} {D : List Deferred} {a : Act} {L : List (Nat × Value)} {w : World}
theorem calls_hasM {f : FuncId} {c : Code} {args : List Value} (N : Nat) (hf : P.funcs[f]? = some fn) (hb : fn.body = some c) (hN : fn.ntmps = N) (hle : args.length ≤ N)
    (h : ∀ a, Has N [] a (argL 0 args) → c.wp P (bodyPostM Fence.wide 9 P fn R) a w) : Calls P f args.toArray w R := by
  refine (callsIn_wide (n := 9)).1 (callsIn_of_wp_marks hf hb trivial (wpIn_wide.2 (h _ ⟨rfl, by simp; omega, fun k v e => ?_⟩)))
  obtain ⟨j, h1, h2⟩ := argL_get _ _ _ _ e
  obtain rfl : k = j := by omega
  have hj := (List.getElem?_eq_some_iff.1 h2).1
  simp only [Array.getD_eq_getD_getElem?]
  rw [Array.getElem?_append_left (by simpa using hj)]
  simp [h2]
theorem rtM_v (F : Has N D a L) (h : LeavesInM Fence.wide 9 P fn a.tmps R D .returning w) : bodyPostM Fence.wide 9 P fn R .ret a w := by
  show LeavesInM _ _ _ _ _ _ a.defers _ _
  rw [F.ds]; exact h
theorem rtM_n (F : Has N D a L) (h : LeavesInM Fence.wide 9 P fn a.tmps R D .returning w) : bodyPostM Fence.wide 9 P fn R .normal a w := by
  show LeavesInM _ _ _ _ _ _ a.defers _ _
  rw [F.ds]; exact h
theorem lv_nil {tmps : Array Value} {v : Value} (hr : (results fn tmps).run P w = .ok v w) (h : R (.returned v) w) : LeavesInM Fence.wide 9 P fn tmps R [] .returning w := ⟨v, hr, h⟩
theorem lv_mark {tmps : Array Value} {b : Nat} {args : Array Value} {ds : List Deferred} (hk : w.heap[b]? = some (.deferred (some []))) (h : ∀ w2, w2 = w.putObj b (.deferred none) → LeavesInM Fence.wide 9 P fn tmps R ds .returning w2) : LeavesInM Fence.wide 9 P fn tmps R ({ target := .collected b, args := args } :: ds) .returning w :=
  ⟨by simp, .inl ⟨b, _, rfl, run_takeDeferred hk, h _ rfl⟩⟩
end
theorem fault_no (xT : TypeId) (w : World) : (Instr.typeAssert Value.nilIface xT 126 true).run Try.prog w = .ok (.tuple #[.int .i64 0, .bool false]) w := by
  simp [Instr.typeAssert, run_underlying Try.underlying126, Try.zeroValue126, go_sem, Result.andThen]
set_option maxRecDepth 20000 in
set_option maxHeartbeats 400000 in
theorem caught_idle (n : Nat) (p : Addr) (w : World) :
    CallsDIn Fence.wide n Try.prog 53 #[.pointer (some p)] .returning w fun e u' w' => e = .returned (.tuple #[]) ∧ u' = .returning ∧ w' = w := by
  refine callsDIn_of_wpSIn Try.func53 rfl trivial fun c₀ cs hu => ?_
  apply wpSIn_seq
  apply wpSIn_region
  simp [wpOpsSIn, Fence.wide, go_sem, recoverD, hu, Try.ntmps53, Exit.thenS, fault_no, Result.andThen]
  apply wpSIn_seq
  apply wpSIn_region
  simp [wpOpsSIn, Fence.wide, go_sem, Exit.thenS, Array.replicate]
  refine wpSIn_cond (t := false) (by simp [Act.eval]) ?_
  simp only [Bool.false_eq_true, if_false]
  refine wpSIn_of_wpIn rfl (wpIn_skip ?_)
  cases c₀
  simp_all [bodyPostS, results, Try.results53]
theorem lv_caught {fn : Func} {R : Ending → World → Prop} {tmps : Array Value} {w : World} {b : Nat} {ds : List Deferred} (h : LeavesInM Fence.wide 9 Try.prog fn tmps R ds .returning w) : LeavesInM Fence.wide 9 Try.prog fn tmps R ({ target := .fn (.func 53) #[], args := #[.pointer (some ⟨b, 0, none⟩)] } :: ds) .returning w := by
  refine ⟨by simp, .inr ⟨(fun h => by cases h), _, _, 53, #[.pointer (some ⟨b, 0, none⟩)], rfl, (by simp [go_sem]), (fun _ _ => trivial), ?_⟩⟩
  refine CallsDIn.mono (caught_idle 8 ⟨b, 0, none⟩ w) ?_
  rintro e u' w' ⟨rfl, rfl, rfl⟩
  exact h
section
variable {P : Program} {ops : Array Oper} {Q : Exit → Act → World → Prop} {o : Oper} {rest : List Oper} {N : Nat} {D : List Deferred} {a : Act} {L : List (Nat × Value)} {w w' : World} {v : Value}
/-- A defer statement. -/
theorem sq_defer (F : Has N D a L) {d : Deferred} (hd : o.dst = none) (hw : Region.wanted o (yielded ops a.tmps) = true) (hr : (execOp a.eval o).run P w = .ok (.defer d) w) (h : ∀ a2, Has N (d :: D) a2 L → wpList P ops Q rest a2 w) : wpList P ops Q (o :: rest) a w := by
  unfold wpList
  simp only [hw, if_true, Oper.wp, hr, Oper.upon, hd, Act.put]
  exact .inl (h _ ⟨by simp [F.ds], F.sz, F.get⟩)
theorem R_defer {ρ : Operand → Value} {f : FuncId} {l : List Operand} {ts : Array TypeId} {vs : List Value} (ho : o.op = .defer { callee := .value (.func f), args := l.toArray, argTypes := ts }) (hf : ρ (.func f) = .func (.func f) #[] #[]) (ha : l.map ρ = vs) : (execOp ρ o).run P w = .ok (.defer { target := .fn (.func f) #[], args := vs.toArray }) w := by
  have ha := mapsN ha
  rw [← ha]
  unfold execOp
  simp [ho, resolve, hf, go_sem]
end
theorem Has.mark {N : Nat} {D : List Deferred} {a : Act} {L : List (Nat × Value)} (F : Has N D a L) {d : Deferred} : Has N (d :: D) { a with defers := d :: a.defers } L := ⟨by simp [F.ds], F.sz, F.get⟩
theorem keep_putW {w w2 : World} {D k : Nat} {o o' : Obj} (e : w2 = w.putObj D o') (hD : w.heap[D]? = some o) (hc : o.isCells = false) {cs : Array Value} {T : TypeId} {fz : Nat × Nat} (h : w.heap[k]? = some (.cells cs T fz)) : w2.heap[k]? = some (.cells cs T fz) := by
  have : k ≠ D := fun e => by subst e; rw [hD] at h; cases h; cases hc
  rw [e, World.putObj_heap_other this]; exact h
theorem ext_putW {X : List Nat} {w W w2 : World} {D : Nat} {o' : Obj} (h : Ext X w W) (e : w2 = W.putObj D o') (hD : w.heap.size ≤ D) : Ext X w w2 := by
  rw [e]
  exact ⟨h.os, h.tape, h.output, by simpa [World.putObj] using h.size, fun k hk hx => (World.putObj_heap_other (by omega)).trans (h.block k hk hx)⟩
theorem owns_put {w w2 : World} {base : Nat} {e : TypeId} {size n : Nat} {v : Value} {xs : List Value} {D : Nat} {o o' : Obj} (hw : w2 = w.putObj D o') (hD : w.heap[D]? = some o) (hc : o.isCells = false) (h : w.ownsRow base e size v n xs) : w2.ownsRow base e size v n xs := by
  rw [hw]
  refine h.kept (grownBy_putObj' w D o') ?_
  rcases h.2 with ⟨rfl, _⟩ | ⟨g, cap, cur, rfl, _, hgb, _⟩
  · exact .inl rfl
  · refine .inr fun e => ?_
    obtain rfl : g = D := by simpa [Value.ownBlock] using e
    rw [hD] at hgb; cases hgb; cases hc
section
variable {P : Program} {fn : Func} {N : Nat} {D : List Deferred} {a : Act} {L : List (Nat × Value)} {w : World}
theorem loadVar_cell {P : Program} {t : TypeId} {b off : Nat} {v : Value} {d : TypeDesc} {w : World} (hd : P.underlying t = some d) (ha : d.isRow = false) (hc : w.cell? ⟨b, off, none⟩ = some v) : (loadVar t ⟨b, off, none⟩).run P w = .ok v w := by
  cases d <;> first | (simp [TypeDesc.isRow] at ha; done) | simp [loadVar, isAgg, underlying, hd, load, hc, Sem.run, go_sem]
theorem rs_tc (F : Has N D a L) {t s ty b : Nat} {u v : Value} {T : TypeId} {d : TypeDesc} {fz : Nat × Nat} (hr : fn.results = #[.tmp t, .cell s ty]) (hv : L.lookup t = some v) (hs : L.lookup s = some (.pointer (some ⟨b, 0, none⟩))) (hd : P.underlying ty = some d) (ha : d.isRow = false) (H : w.heap[b]? = some (.cells #[u] T fz)) : (results fn a.tmps).run P w = .ok (.tuple #[v, u]) w := by
  have hl := loadVar_cell (P := P) (t := ty) hd ha ((cells_of_block H 0).trans get0)
  have h1 := F.get _ _ hv
  have h2 := F.get _ _ hs
  simp only [Array.getD_eq_getD_getElem?] at h1 h2
  simp [results, hr, h1, h2, asAddr, hl, Result.andThen]
theorem rs_ttc (F : Has N D a L) {t r s ty b : Nat} {u v x : Value} {T : TypeId} {d : TypeDesc} {fz : Nat × Nat} (hr : fn.results = #[.tmp t, .tmp r, .cell s ty]) (hv : L.lookup t = some v) (hx : L.lookup r = some x) (hs : L.lookup s = some (.pointer (some ⟨b, 0, none⟩))) (hd : P.underlying ty = some d) (ha : d.isRow = false) (H : w.heap[b]? = some (.cells #[u] T fz)) : (results fn a.tmps).run P w = .ok (.tuple #[v, x, u]) w := by
  have hl := loadVar_cell (P := P) (t := ty) hd ha ((cells_of_block H 0).trans get0)
  have h1 := F.get _ _ hv
  have h2 := F.get _ _ hs
  have h3 := F.get _ _ hx
  simp only [Array.getD_eq_getD_getElem?] at h1 h2 h3
  simp [results, hr, h1, h2, h3, asAddr, hl, Result.andThen]
end
end Go.Proofs.Ytdjeecgddbjbeaa
