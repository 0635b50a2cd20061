/- Slices of one's own: appends of many elements, stores into elements; empty literals. No conditions. -/
import Derived.Test.YtholfdgebdlgjaaVa
namespace Go.Proofs.Ytholfdgebdlgjaa
open Go.RowKit
set_option linter.unusedVariables false
set_option linter.unusedSimpArgs false
/-- A slice that is appended: its cells, one behind the other. -/
structure SrcAt (w : World) (sz : Nat) (sa : Option Addr) (m : Nat) (news : List Value) : Prop where
  len : news.length = m * sz
  nil : sa = none → m = 0
  cells : ∀ a0, sa = some a0 → ∀ (j : Nat) (v : Value), news[j]? = some v → w.cell? (a0.add j) = some v
  one : ∀ u ∈ news, u.oneCell' = true
theorem srcAt_of_rows {α : Type} {w : World} {a : Option Addr} {n c sz : Nat} {xs : List α} {row : α → List Value} (h : IsRows w (.slice a n c) sz (xs.map row)) (h0 : 0 < sz) (hr : ∀ x, (row x).length = sz) (h1 : ∀ x, ∀ u ∈ row x, u.oneCell' = true) : SrcAt w sz a n ((xs.map row).flatten) := by
  have hn : n = xs.length := by
    obtain ⟨a', c', hv, -⟩ := h
    cases hv
    simp
  refine ⟨by rw [flat_len hr, hn], fun ha => ?_, rows_flat h0 hr h, fun u hu => ?_⟩
  · by_cases hne : xs.map row = []
    · rw [hn]; simpa using hne
    · obtain ⟨b, off, h1, -⟩ := h.range rfl hne
      rw [ha] at h1; cases h1
  · obtain ⟨l, hl, hu⟩ := List.mem_flatten.1 hu
    obtain ⟨x, -, rfl⟩ := List.mem_map.1 hl
    exact h1 x u hu
section
variable {P : Program} {ops : Array Oper} {Q : Exit → Act → World → Prop} {o : Oper} {rest : List Oper} {N : Nat} {a : Act} {L : List (Nat × Value)} {w : World}
theorem sq_some {C : Value → World → Prop} (F : Has N a L) {d : Nat} (hd : o.dst = some d) (hN : d < N) (hw : Region.wanted o (yielded ops a.tmps) = true) (hr : ∃ v w', (execOp a.eval o).run P w = .ok (.value v) w' ∧ C v w') (h : ∀ a2 v w2, Has N a2 ((d, v) :: L) → C v w2 → wpList P ops Q rest a2 w2) : wpList P ops Q (o :: rest) a w := by
  obtain ⟨v, w', h1, h2⟩ := hr
  exact sq_new F hd hN hw h1 fun a2 w2 F2 e => by subst e; exact h a2 v w2 F2 h2
theorem op_some {C : Value → World → Prop} {i d : Nat} {K : Act → World → Prop} (F : Has N a L) (hi : ops[i]? = some o) (hd : o.dst = some d) (hN : d < N) (hw : Region.wanted o (yielded ops a.tmps) = true) (hr : ∃ v w', (execOp a.eval o).run P w = .ok (.value v) w' ∧ C v w')
    (h : ∀ a2 v w2, Has N a2 ((d, v) :: L) → C v w2 → K a2 w2) : wpOp P ops Q i K a w := by
  obtain ⟨v, w', h1, h2⟩ := hr
  exact op_new F hi hd hN hw h1 fun a2 w2 F2 e => by subst e; exact h a2 v w2 F2 h2
end
theorem appends_run {P : Program} {o : Oper} {w : World} {a : Act} {s x : Operand} {t : TypeId} (ho : o.op = .call { callee := .builtin .append, args := #[s, x], argTypes := #[t, t] })
    (base : Nat) {e : TypeId} {size bytes : Nat} (ht : P.underlying t = some (.slice e)) (hi : (P.info? e).map (fun i => (i.size, i.bytes, i.zero.map (·.cells.size))) = some (size, bytes, some size)) (hsz : 0 < size)
    {v : Value} {n : Nat} {xs : List Value} (hs : a.eval s = v) (hown : w.ownsRow base e size v n xs)
    {sa : Option Addr} {m c : Nat} {news : List Value} (hx : a.eval x = .slice sa m c) (hsrc : SrcAt w size sa m news)
    (hn : n + m ≤ 1000000) (hbytes : (n + m) * bytes ≤ 140737488355328) (hbase : base ≤ w.heap.size) :
    ∃ v' w', (execOp a.eval o).run P w = .ok (.value v') w' ∧ w'.ownsRow base e size v' (n + m) (xs ++ news) ∧ w.grownBy w' v.ownBlock := by
  cases hq : P.info? e with
  | none => simp [hq] at hi
  | some i =>
    simp only [hq, Option.map_some, Option.some.injEq, Prod.mk.injEq, Option.map_eq_some_iff] at hi
    obtain ⟨hi1, hi2, z, hz, hz2⟩ := hi
    have key : ∃ v' w', (Builtin.append_ #[t, t] o.type #[v, .slice sa m c]).run P w = .ok v' w' ∧ w'.ownsRow base e size v' (n + m) (xs ++ news) ∧ w.grownBy w' v.ownBlock := by
      cases sa with
      | none =>
        have hm := hsrc.nil rfl
        subst hm
        have hnl := hsrc.len
        rw [Nat.zero_mul] at hnl
        obtain rfl := List.eq_nil_of_length_eq_zero hnl
        refine ⟨v, w, ?_, by simpa using hown, ⟨rfl, rfl, rfl, Nat.le_refl _, fun _ _ _ => rfl⟩⟩
        rcases hown.2 with ⟨rfl, rfl⟩ | ⟨g, cap, cur, rfl, hbg, hg, hnc, hcm, hcs, htake⟩
        · simp [Builtin.append_, run_underlying ht, sizeOf, typeInfo, hq, Builtin.lenOf, Builtin.firstCells, loadCells, loadCellsFrom]
        · simp [Builtin.append_, run_underlying ht, sizeOf, typeInfo, hq, Builtin.lenOf, Builtin.firstCells, loadCells, loadCellsFrom, hnc, storeCells]
      | some ad =>
        obtain ⟨v', w', hr, h2, h3, -⟩ := run_append_own (P := P) w base t o.type e i z size bytes ht hq hz hi1 hi2 hz2 hsz v n xs hown ad m c news hsrc.len (hsrc.cells ad rfl) hsrc.one (by simp only [maxLen]; omega) hbytes hbase
        exact ⟨v', w', hr, h2, h3⟩
    obtain ⟨v', w', hr, h2, h3⟩ := key
    refine ⟨v', w', ?_, h2, h3⟩
    unfold execOp
    simp only [ho, resolve, invoke, builtin, Sem.run_bind, Sem.run_pure, Result.andThen_ok, List.map_toArray, List.map_cons, List.map_nil, hs, hx, hr]
theorem R_buildSlice0 {P : Program} {ρ : Operand → Value} {o : Oper} {w : World} {t e : TypeId} {size : Nat} (ho : o.op = .buildSlice t 0 #[]) (hu : P.underlying t = some (.slice e)) (hs : (P.info? e).map (·.size) = some size) :
    (execOp ρ o).run P w = .ok (.value (.slice (some ⟨w.heap.size, 0, none⟩) 0 0)) (w.alloc (.cells #[] e)) := by
  unfold execOp
  cases hq : P.info? e with
  | none => simp [hq] at hs
  | some i =>
    simp [ho, Instr.buildSlice, run_underlying hu, sizeOf, typeInfo, hq, newRow, newObj, go_sem, Instr.fill]
    rfl
theorem owns_empty {w : World} {base b size : Nat} {e : TypeId} (h : w.heap[b]? = some (.cells #[] e (0, 0))) (hb : base ≤ b) : w.ownsRow base e size (.slice (some ⟨b, 0, none⟩) 0 0) 0 [] :=
  ⟨by simp, .inr ⟨b, 0, #[], rfl, hb, h, Nat.le_refl _, Nat.zero_le _, by simp, by simp⟩⟩
/-- An element of a slice of one's own is there, and may be written. -/
theorem owns_at {w : World} {base n c size : Nat} {e : TypeId} {a : Option Addr} {xs : List Value} (h : w.ownsRow base e size (.slice a n c) n xs) {xb xo : Nat} (xa : ∀ m c, Value.slice a m c = .slice (some ⟨xb, xo, none⟩) m c) {j p : Nat} (hj : j < xs.length) (hp : p = xo + j) :
    (∃ u, w.cell? ⟨xb, p, none⟩ = some u) ∧ w.frozen? ⟨xb, p, none⟩ = false ∧ ∀ u w2, w2 = w.setCell ⟨xb, p, none⟩ u → w2.ownsRow base e size (.slice a n c) n (xs.set j u) ∧ w.grownBy w2 (Value.ownBlock (.slice a n c)) := by
  obtain ⟨hl, ⟨hv, hn⟩ | ⟨g, cap, cur, hv, hb, hg, h1, h2, h3, h4⟩⟩ := h
  · subst hn
    rw [Nat.zero_mul] at hl
    omega
  · have hv2 := (xa n c).symm.trans hv
    simp only [Value.slice.injEq, Option.some.injEq, Addr.mk.injEq, and_true, true_and] at hv2
    obtain ⟨⟨rfl, rfl⟩, rfl⟩ := hv2
    rw [Nat.zero_add] at hp
    subst hp
    have hlt := blk_lt hg
    have hjc : p < cur.size := by
      have := congrArg List.length h4
      rw [List.length_take] at this
      have h5 : cur.toList.length = cur.size := by simp
      omega
    have ha : a = some ⟨xb, 0, none⟩ := by have := xa 0 0; cases this; rfl
    subst ha
    refine ⟨⟨cur[p], by rw [cells_of_block hg]; simp [hjc]⟩, free_of_block hg _, fun u w2 e2 => ⟨⟨by simpa using hl, .inr ⟨xb, c, cur.setIfInBounds p u, rfl, hb, put_cell e2 hg rfl, h1, h2, by simpa using h3, ?_⟩⟩, ?_⟩⟩
    · rw [← h4, Array.toList_setIfInBounds, List.take_set]
    · subst e2
      exact ⟨rfl, rfl, rfl, by rw [size_setCell]; exact Nat.le_refl _, fun k hk hne => Below.heap_setCell _ _ _ _ (fun e => hne (by rw [e]; rfl))⟩
/-- The elements of a slice of one's own, where they lie. -/
theorem slAt_of_owns {α : Type} {w : World} {base n c sz : Nat} {e : TypeId} {a : Option Addr} {xs : List α} {row : α → List Value} (h : w.ownsRow base e sz (.slice a n c) n ((xs.map row).flatten)) (hn : n = xs.length) (hr : ∀ x, (row x).length = sz) (X : List Nat) (hX : ∀ b ∈ X, b < base) (d : α) : SlAt X w a sz xs.length (fun i => row (xs.getD i d)) := fun i hi => by
  subst hn
  rcases h.2 with ⟨hv, hn⟩ | ⟨g, cap, cur, hv, hb, hg, h1, h2, h3, h4⟩
  · omega
  · have ha : a = some ⟨g, 0, none⟩ := by cases hv; rfl
    refine ⟨g, 0, fun m c => by rw [ha], fun W E j v hv => ?_⟩
    have hjs : j < sz := by
      have := (List.getElem?_eq_some_iff.1 hv).1
      rwa [hr] at this
    have hf := flat_get hr xs i j (row (xs.getD i d)) (by simp [hi]) hjs
    have hil : i * sz + j < xs.length * sz :=
      calc i * sz + j < i * sz + sz := by omega
        _ = (i + 1) * sz := by rw [Nat.add_mul]; omega
        _ ≤ xs.length * sz := Nat.mul_le_mul_right _ hi
    rw [E.cell (a := ⟨g, 0 + i * sz + j, none⟩) (blk_lt hg) (fun hm => by have := hX g hm; omega), cells_of_block hg, Nat.zero_add, ← Array.getElem?_toList]
    have := congrArg (fun l => l[i * sz + j]?) h4
    simp only [List.getElem?_take] at this
    rw [if_pos hil] at this
    rw [this, hf, hv]
end Go.Proofs.Ytholfdgebdlgjaa
