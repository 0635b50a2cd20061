/- The iterator over all recipes. Conditions: at most four dyes. -/
import Derived.Test.YtdjeecgddbjbeaaDrc
namespace Go.Proofs.Ytdjeecgddbjbeaa
open Go.RowKit
set_option linter.unusedVariables false
set_option linter.unusedSimpArgs false
section
variable {P : Program} {ops : Array Oper} {Q : Exit → Act → World → Prop} {o : Oper} {rest : List Oper} {N : Nat} {D : List Deferred} {a : Act} {L : List (Nat × Value)} {w w' : World} {v : Value} {n : Nat}
theorem calls_hasW {fn : Func} {R : Ending → World → Prop} {f : FuncId} {c : Code} {args : List Value} {w : World} (N : Nat) (hf : P.funcs[f]? = some fn) (hb : fn.body = some c) (hN : fn.ntmps = N) (hle : args.length ≤ N)
    (h : ∀ a, Has N [] a (argL 0 args) → c.wpIn Fence.wide 9 P (bodyPost P fn R) a w) : Calls P f args.toArray w R :=
  calls_has N hf hb hN hle fun a F => wpIn_wide.1 (h a F)
theorem si_new (F : Has N D a L) {d : Nat} (hd : o.dst = some d) (hN : d < N) (hw : Region.wanted o (yielded ops a.tmps) = true) (hr : (execOp a.eval o).run P w = .ok (.value v) w') (h : ∀ a2 w2, Has N D a2 ((d, v) :: L) → w2 = w' → wpListIn Fence.wide n P ops Q rest a2 w2) : wpListIn Fence.wide n P ops Q (o :: rest) a w := by
  unfold wpListIn
  simp only [hw, if_true]
  refine ⟨fun _ _ => trivial, ?_⟩
  rw [show Fence.wide.round = none from rfl, Oper.semAt_none, hr, Oper.uponIn_value, hd]
  exact h _ _ (F.put hN v) rfl
theorem si_val (F : Has N D a L) {d : Nat} (hd : o.dst = some d) (hN : d < N) (hw : Region.wanted o (yielded ops a.tmps) = true) (hr : (execOp a.eval o).run P w = .ok (.value v) w) (h : ∀ a2, Has N D a2 ((d, v) :: L) → wpListIn Fence.wide n P ops Q rest a2 w) : wpListIn Fence.wide n P ops Q (o :: rest) a w :=
  si_new F hd hN hw hr fun a2 w2 F2 e => by subst e; exact h a2 F2
theorem si_no (F : Has N D a L) {d : Nat} (hd : o.dst = some d) (hN : d < N) (hw : Region.wanted o (yielded ops a.tmps) = false) (h : ∀ a2, Has N D a2 ((d, undef) :: L) → wpListIn Fence.wide n P ops Q rest a2 w) : wpListIn Fence.wide n P ops Q (o :: rest) a w := by
  unfold wpListIn
  simp only [hw, Bool.false_eq_true, if_false, hd]
  exact ⟨fun _ _ => trivial, h _ (F.put hN undef)⟩
theorem si_to (hd : o.dst = none) (hw : Region.wanted o (yielded ops a.tmps) = true) (hr : (execOp a.eval o).run P w = .ok .skip w') (h : ∀ w2, w2 = w' → wpListIn Fence.wide n P ops Q rest a w2) : wpListIn Fence.wide n P ops Q (o :: rest) a w := by
  unfold wpListIn
  simp only [hw, if_true]
  refine ⟨fun _ _ => trivial, ?_⟩
  rw [show Fence.wide.round = none from rfl, Oper.semAt_none, hr, Oper.uponIn_skip, hd]
  exact h _ rfl
theorem si_call (F : Has N D a L) {d : Nat} {f : FuncId} {args : Array Value} {R : Ending → World → Prop} (hd : o.dst = some d) (hN : d < N) (hw : Region.wanted o (yielded ops a.tmps) = true) (hr : (execOp a.eval o).run P w = .ok (.enter f args) w) (hc : Calls P f args w R)
    (h : ∀ e w', R e w' → ∃ v, e = .returned v ∧ ∀ a2, Has N D a2 ((d, v) :: L) → wpListIn Fence.wide n P ops Q rest a2 w') : wpListIn Fence.wide n P ops Q (o :: rest) a w := by
  unfold wpListIn
  simp only [hw, if_true]
  refine ⟨fun _ _ => trivial, ?_⟩
  rw [show Fence.wide.round = none from rfl, Oper.semAt_none, hr, Oper.uponIn_enter]
  refine ⟨(fun h => by cases h), CallsIn.mono (callsIn_wide.2 hc) fun e w' hR => ?_⟩
  obtain ⟨v, rfl, h1⟩ := h e w' hR
  show wpListIn _ _ _ _ _ _ _ _
  rw [hd]
  exact h1 _ (F.put hN v)
theorem si_yield (F : Has N D a L) {d : Nat} {l : Nat} {f : FuncId} {tmps : Array Value} {assign body : Code} {R : Ending → World → Prop} (hd : o.dst = some d) (hN : d < N) (hw : Region.wanted o (yielded ops a.tmps) = true) (hr : (execOp a.eval o).run P w = .ok (.round l f tmps assign body) w) (hc : RoundIn Fence.wide 0 P l f tmps assign body w R)
    (h : ∀ e w', R e w' → ∃ v, e = .returned v ∧ ∀ a2, Has N D a2 ((d, v) :: L) → wpListIn Fence.wide n P ops Q rest a2 w') : wpListIn Fence.wide n P ops Q (o :: rest) a w := by
  unfold wpListIn
  simp only [hw, if_true]
  refine ⟨fun _ _ => trivial, ?_⟩
  rw [show Fence.wide.round = none from rfl, Oper.semAt_none, hr, Oper.uponIn_round]
  refine ⟨(fun h => by cases h), RoundIn.mono (wide_round hc) fun e w' hR => ?_⟩
  obtain ⟨v, rfl, h1⟩ := h e w' hR
  show wpListIn _ _ _ _ _ _ _ _
  rw [hd]
  exact h1 _ (F.put hN v)
theorem Has.vlW (F : Has N D a L) {d : Nat} (hr : (execOp a.eval o).run P w = .ok (.value v) w) (h : ∀ a2, Has N D a2 ((d, v) :: L) → wpListIn Fence.wide n P ops Q rest a2 w) (hd : o.dst = some d := by rfl) (hN : d < N := by decide) (hw : Region.wanted o (yielded ops a.tmps) = true := by rfl) : wpListIn Fence.wide n P ops Q (o :: rest) a w :=
  si_val F hd hN hw hr h
theorem Has.mvW (F : Has N D a L) {d k : Nat} (h : ∀ a2, Has N D a2 ((d, v) :: L) → wpListIn Fence.wide n P ops Q rest a2 w) (ho : o.op = .move (.tmp k) := by rfl) (hl : L.lookup k = some v := by rfl) (hd : o.dst = some d := by rfl) (hN : d < N := by decide) (hw : Region.wanted o (yielded ops a.tmps) = true := by rfl) : wpListIn Fence.wide n P ops Q (o :: rest) a w :=
  si_val F hd hN hw (R_move ho (F.at hl)) h
theorem Has.asW (F : Has N D a L) {d k : Nat} (h : ∀ a2, Has N D a2 ((d, v) :: L) → wpListIn Fence.wide n P ops Q rest a2 w) (ho : o.op = .assign (.tmp k) := by rfl) (hl : L.lookup k = some v := by rfl) (hd : o.dst = some d := by rfl) (hN : d < N := by decide) (hw : Region.wanted o (yielded ops a.tmps) = true := by rfl) : wpListIn Fence.wide n P ops Q (o :: rest) a w :=
  si_val F hd hN hw (R_assign ho (F.at hl)) h
theorem R_yield {ρ : Operand → Value} {x : Operand} {l : Nat} {xs : List Operand} {ts : Array TypeId} {vs : List Value} {f : FuncId} {tmps : Array Value} {assign body : Code} (ho : o.op = .call { callee := .value x, args := xs.toArray, argTypes := ts }) (hf : ρ x = .func (.yield l) #[] #[]) (ha : xs.map ρ = vs) (hy : (Instr.yield l vs.toArray).run P w = .ok (.round l f tmps assign body) w) : (execOp ρ o).run P w = .ok (.round l f tmps assign body) w := by
  subst ha
  unfold execOp
  simp [ho, resolve, hf, invoke, go_sem, hy]
end
/-- All recipes that begin with some numbers: so many more, and so many parts left. -/
def frL : Nat → Nat → List Int → List (List Int)
  | 0, left, p => if left = 6 then [] else [p]
  | more + 1, left, p => (List.range (left + 1)).flatMap fun n => frL more (left - n) (p ++ [(n : Int)])
/-- All recipes of so many dyes, in lexicographic order. -/
def recL (nd : Nat) : List (List Int) := frL nd 6 []
/-- The numbers so far, and none for the dyes that are not there. -/
def Agr (nd : Nat) (g : Nat → Int) (p : List Int) : Prop := (∀ j, j < p.length → g j = val p j) ∧ ∀ j, nd ≤ j → g j = 0
theorem Agr.tub {nd : Nat} {g : Nat → Int} {p : List Int} (h : Agr nd g p) (hp : p.length = nd) : tubC g = tubC (val p) := by
  refine tub_congr fun k hk => ?_
  by_cases e : k < p.length
  · exact h.1 k e
  · rw [h.2 k (by omega), val, List.getD_eq_getElem?_getD, List.getElem?_eq_none (by omega)]; rfl
theorem Agr.step {nd : Nat} {g : Nat → Int} {p : List Int} (h : Agr nd g p) (hp : p.length < nd) (n : Int) : Agr nd (upF g p.length n) (p ++ [n]) := by
  refine ⟨fun j hj => ?_, fun j hj => ?_⟩
  · simp only [List.length_append, List.length_singleton] at hj
    by_cases e : j = p.length
    · subst e; simp [upF, val]
    · rw [upF, if_neg e, h.1 j (by omega)]; simp [val, List.getElem?_append_left (show j < p.length by omega)]
  · rw [upF, if_neg (by omega), h.2 j hj]
theorem Agr.back {nd : Nat} {g : Nat → Int} {p : List Int} {n : Int} (h : Agr nd g (p ++ [n])) : Agr nd g p := by
  refine ⟨fun j hj => ?_, h.2⟩
  rw [h.1 j (by simp; omega)]
  simp [val, List.getElem?_append_left hj]
theorem flat_succ {α : Type} (f : Nat → List α) (k : Nat) : (List.range (k + 1)).flatMap f = (List.range k).flatMap f ++ f k := by
  rw [List.range_succ, List.flatMap_append]; simp
theorem flat_prefix {α : Type} (f : Nat → List α) {k n : Nat} (h : k ≤ n) : (List.range k).flatMap f <+: (List.range n).flatMap f := by
  obtain ⟨d, rfl⟩ := Nat.exists_eq_add_of_le h
  induction d with
  | zero => exact List.prefix_refl _
  | succ d ih => exact (ih (by omega)).trans ⟨f (k + d), by rw [← flat_succ]; rfl⟩
/-- What the iterator holds. -/
structure ItB (x : Vm) (X : List Nat) (ob nb yb tb gb l : Nat) (g : Nat → Int) (W : World) : Prop where
  hn : W.heap[nb]? = some (.cells #[.int .i64 x.B, .slice x.da x.D.length x.dc, .slice x.la x.L.length x.lc, .int .i64 x.tol] 80 (0, 0))
  hy : W.heap[yb]? = some (.cells #[.func (.yield l) #[] #[]] 131 (0, 0))
  ht : W.heap[tb]? = some (.cells (tubC g) 83 (0, 0))
  hg : W.heap[gb]? = some (.cells #[.func (.func 103) #[] #[.pointer (some ⟨nb, 0, none⟩), .pointer (some ⟨yb, 0, none⟩), .pointer (some ⟨tb, 0, none⟩), .pointer (some ⟨gb, 0, none⟩)]] 132 (0, 0))
  sn : Safe X ob nb W
  sy : Safe X ob yb W
  st : Safe X ob tb W
  sg : Safe X ob gb W
theorem ItB.keep {x : Vm} {X : List Nat} {ob nb yb tb gb l : Nat} {g : Nat → Int} {W W' : World} (h : ItB x X ob nb yb tb gb l g W) (k : KeepR X ob W W') : ItB x X ob nb yb tb gb l g W' :=
  ⟨k.cells _ _ _ _ h.hn h.sn, k.cells _ _ _ _ h.hy h.sy, k.cells _ _ _ _ h.ht h.st, k.cells _ _ _ _ h.hg h.sg, h.sn.keep (blk_lt h.hn) k, h.sy.keep (blk_lt h.hy) k, h.st.keep (blk_lt h.ht) k, h.sg.keep (blk_lt h.hg) k⟩
end Go.Proofs.Ytdjeecgddbjbeaa
