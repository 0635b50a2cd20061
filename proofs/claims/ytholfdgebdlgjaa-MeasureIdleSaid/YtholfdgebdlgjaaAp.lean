/- Appends in regions that draw their order; stores into the middle of a block. No conditions. -/
import Derived.Test.YtholfdgebdlgjaaLts
import Derived.Test.YtholfdgebdlgjaaNxt
namespace Go.Proofs.Ytholfdgebdlgjaa
open Go.RowKit
set_option linter.unusedVariables false
set_option linter.unusedSimpArgs false
theorem own_ne_type {w : World} {base size n k : Nat} {e T : TypeId} {v : Value} {xs : List Value} {cs : Array Value} {fz : Nat × Nat} (ho : w.ownsRow base e size v n xs) (h : w.heap[k]? = some (.cells cs T fz)) (hT : T ≠ e) : some k ≠ v.ownBlock := by
  intro hk
  rcases ho.2 with ⟨hv, -⟩ | ⟨g, cap, cur, hv, -, hg, -⟩
  · rw [hv] at hk; cases hk
  · rw [hv] at hk
    have hkg : k = g := by cases hk; rfl
    subst hkg
    rw [hg] at h
    cases h
    exact hT rfl
theorem lots_lt {w0 w : World} {b k : Nat} {nv : Value} (h : LotsOk w0 w b k nv) : b < w.heap.size := by
  obtain ⟨-, -, -, d, st, h, -⟩ := h
  exact blk_lt h
theorem keep_type {w w' : World} {base n size b : Nat} {e T : TypeId} {v : Value} {xs : List Value} {cs : Array Value} {fz : Nat × Nat} (ho : w.ownsRow base e size v n xs) (hg : w.grownBy w' v.ownBlock) (q : w.heap[b]? = some (.cells cs T fz)) (hT : T ≠ e) : w'.heap[b]? = some (.cells cs T fz) :=
  (hg.block b (blk_lt q) (own_ne_type ho q hT)).trans q
theorem owns_other {w w' : World} {base n size base2 n2 size2 : Nat} {e e2 : TypeId} {v v2 : Value} {xs xs2 : List Value} (h2 : w.ownsRow base2 e2 size2 v2 n2 xs2) (ho : w.ownsRow base e size v n xs) (hg : w.grownBy w' v.ownBlock) (hT : e2 ≠ e) : w'.ownsRow base2 e2 size2 v2 n2 xs2 := by
  refine ⟨h2.1, ?_⟩
  rcases h2.2 with h | ⟨g, cap, cur, h1, hb, h3, h4⟩
  · exact .inl h
  · exact .inr ⟨g, cap, cur, h1, hb, keep_type ho hg h3 hT, h4⟩
theorem ext_appendX {X : List Nat} {w0 w w' : World} {base : Nat} {e : TypeId} {size : Nat} {v : Value} {n : Nat} {xs : List Value} (E : Ext X w0 w) (h : w.ownsRow base e size v n xs) (hg : w.grownBy w' v.ownBlock) (hb : w0.heap.size ≤ base) : Ext X w0 w' :=
  ⟨hg.os.trans E.os, hg.tape.trans E.tape, hg.output.trans E.output, Nat.le_trans E.size hg.size, fun k hk hx => (hg.block k (Nat.lt_of_lt_of_le hk E.size) (fun e => by have := h.lt k e.symm; omega)).trans (E.block k hk hx)⟩
theorem lots_append {w0 w w' : World} {b k : Nat} {nv : Value} {base : Nat} {e : TypeId} {size : Nat} {v : Value} {n : Nat} {xs : List Value} (HL : LotsOk w0 w b k nv) (h : w.ownsRow base e size v n xs) (hg : w.grownBy w' v.ownBlock) (hb : w0.heap.size ≤ base) (hT : 98 ≠ e) : LotsOk w0 w' b k nv := by
  obtain ⟨h1, h2, h3, d, st, h4, h5⟩ := HL
  exact ⟨h1, h2, ext_appendX h3 h hg hb, d, st, keep_type h hg h4 hT, h5⟩
theorem own_lt {w : World} {base n size k : Nat} {e : TypeId} {v : Value} {xs : List Value} (ho : w.ownsRow base e size v n xs) (hk : some k = v.ownBlock) : k < w.heap.size := by
  rcases ho.2 with ⟨hv, -⟩ | ⟨g, cap, cur, hv, -, hg, -⟩
  · rw [hv] at hk; cases hk
  · rw [hv] at hk
    cases hk
    exact blk_lt hg
theorem own_ne_new {w : World} {base n size k : Nat} {e : TypeId} {v : Value} {xs : List Value} (ho : w.ownsRow base e size v n xs) (hk : k = w.heap.size) : some k ≠ v.ownBlock := fun h => by
  have := own_lt ho h
  omega
theorem owns_keepX {w w' : World} {base : Nat} {e : TypeId} {size : Nat} {v : Value} {n : Nat} {xs : List Value} (h : w.ownsRow base e size v n xs) (k : ∀ (g : Nat) (o : Obj), some g = v.ownBlock → w.heap[g]? = some o → w'.heap[g]? = some o) : w'.ownsRow base e size v n xs := by
  refine ⟨h.1, ?_⟩
  rcases h.2 with h | ⟨g, cap, cur, h1, h2, h3, h4⟩
  · exact .inl h
  · exact .inr ⟨g, cap, cur, h1, h2, k g _ (by rw [h1]; rfl) h3, h4⟩
theorem owns_cellsX {w w2 : World} {c o : Nat} {l : List Value} {base : Nat} {e : TypeId} {size : Nat} {v : Value} {n : Nat} {xs : List Value} (hw : w2 = w.setCells c o l) (h : w.ownsRow base e size v n xs) (hb : some c ≠ v.ownBlock) : w2.ownsRow base e size v n xs :=
  owns_keepX h fun g x hg ho => keep_cells hw ho (fun e => hb (by rw [← e]; exact hg))
theorem owns_cellX {w w2 : World} {c o : Nat} {u : Value} {base : Nat} {e : TypeId} {size : Nat} {v : Value} {n : Nat} {xs : List Value} (hw : w2 = w.setCell ⟨c, o, none⟩ u) (h : w.ownsRow base e size v n xs) (hb : some c ≠ v.ownBlock) : w2.ownsRow base e size v n xs :=
  owns_keepX h fun g x hg ho => keep_cell hw ho (fun e => hb (by rw [← e]; exact hg))
theorem put_mid2 {w w2 : World} {b o : Nat} {T : TypeId} {cs cs' : Array Value} {x y : Value} (e : w2 = w.setCells b o [x, y]) (h : w.heap[b]? = some (.cells cs T (0, 0))) (hc : (cs.setIfInBounds o x).setIfInBounds (o + 1) y = cs') : w2.heap[b]? = some (.cells cs' T (0, 0)) := by
  subst hc
  have h1 := put_cell (w2 := w.setCell ⟨b, o, none⟩ x) rfl h rfl
  have h2 := put_cell (w2 := (w.setCell ⟨b, o, none⟩ x).setCell ⟨b, o + 1, none⟩ y) rfl h1 rfl
  rw [e]
  exact h2
theorem there_mid {w : World} {b o n : Nat} {cs : Array Value} {T : TypeId} (H : w.heap[b]? = some (.cells cs T (0, 0))) (h : o + n ≤ cs.size) : w.there b o n := fun j hj => by
  rw [cells_of_block H, free_of_block H]
  have : o + j < cs.size := by omega
  simp [this]
section
variable {P : Program} {ρ : Operand → Value} {o : Oper} {w : World}
theorem R_storeMid {x y : Operand} {t : TypeId} {b off : Nat} {cs : Array Value} (ho : o.op = .store t x y) (hx : ρ x = .pointer (some ⟨b, off, none⟩)) (hy : ρ y = .agg cs) (hi : (P.info? t).map (·.size) = some cs.size) (h1 : cs.all (·.oneCell') = true) {old : Array Value} {T : TypeId} (H : w.heap[b]? = some (.cells old T (0, 0))) (hs : off + cs.size ≤ old.size) :
    (execOp ρ o).run P w = .ok .skip (w.setCells b off cs.toList) := by
  unfold execOp
  simp only [ho, hx, hy, Instr.storeAt, Instr.sureAddr, Sem.run_bind, Sem.run_pure, Result.andThen_ok, run_storeVar_mid w b off t cs (there_mid H hs) hi h1]
end
section
variable {P : Program} {ops : Array Oper} {Q : Exit → Act → World → Prop} {md : Region.Mode} {S : World → Prop} {last : Nat}
theorem append_own_run {o : Oper} {l : List Value} {ds : List Deferred} {w : World} {s x : Operand} {t : TypeId}
    (ho : o.op = .call { callee := .builtin .append, args := #[s, x], argTypes := #[t, t] })
    (base : Nat) {e : TypeId} {size bytes : Nat} (ht : P.underlying t = some (.slice e)) (hi : (P.info? e).map (fun i => (i.size, i.bytes, i.zero.map (·.cells.size))) = some (size, bytes, some size)) (hsz : 0 < size)
    {v : Value} {n : Nat} {xs : List Value} (hs : (Act.mk l.toArray ds).eval s = v) (hown : w.ownsRow base e size v n xs)
    {g c : Nat} {T : TypeId} {fz : Nat × Nat} {news : List Value} (hx : (Act.mk l.toArray ds).eval x = .slice (some ⟨g, 0, none⟩) 1 c) (hg : w.heap[g]? = some (.cells news.toArray T fz)) (hl : news.length = size) (h1 : ∀ u ∈ news, u.oneCell' = true)
    (hn : n ≤ 1000000) (hbytes : (n + 1) * bytes ≤ 140737488355328) (hbase : base ≤ w.heap.size) :
    ∃ v' w', (execOp (Act.eval ⟨l.toArray, ds⟩) o).run P w = .ok (.value v') w' ∧ w'.ownsRow base e size v' (n + 1) (xs ++ news) ∧ w.grownBy w' v.ownBlock := by
  cases hq : P.info? e with
  | none => simp [hq] at hi
  | some i =>
    simp only [hq, Option.map_some, Option.some.injEq, Prod.mk.injEq, Option.map_eq_some_iff] at hi
    obtain ⟨hi1, hi2, z, hz, hz2⟩ := hi
    obtain ⟨v', w', hr, h2, h3, -⟩ := run_append_own (P := P) w base t o.type e i z size bytes ht hq hz hi1 hi2 hz2 hsz v n xs hown ⟨g, 0, none⟩ 1 c news (by omega) (fun j u hu => by
      rw [Addr.add_lit, Nat.zero_add, cells_of_block hg]; simpa using hu) h1 (by simp only [maxLen]; omega) hbytes hbase
    refine ⟨v', w', ?_, h2, h3⟩
    unfold execOp
    simp only [ho, resolve, invoke, builtin, Sem.run_bind, Sem.run_pure, Result.andThen_ok, List.map_toArray, List.map_cons, List.map_nil, hs, hx, hr]
theorem anyU_append {i d : Nat} {o : Oper} {fuel : Nat} {listed : Array Bool} {l : List Value} {ds : List Deferred} {w : World} (hio : ops[i]? = some o) (hr : Region.ready md ops listed = [i])
    (hd : o.dst = some d) (hw : Region.wanted o (yielded ops l.toArray) = true) {s x : Operand} {t : TypeId}
    (ho : o.op = .call { callee := .builtin .append, args := #[s, x], argTypes := #[t, t] })
    (base : Nat) {e : TypeId} {size bytes : Nat} (ht : P.underlying t = some (.slice e)) (hi : (P.info? e).map (fun i => (i.size, i.bytes, i.zero.map (·.cells.size))) = some (size, bytes, some size)) (hsz : 0 < size)
    {v : Value} {n : Nat} {xs : List Value} (hs : (Act.mk l.toArray ds).eval s = v) (hown : w.ownsRow base e size v n xs)
    {g c : Nat} {T : TypeId} {fz : Nat × Nat} {news : List Value} (hx : (Act.mk l.toArray ds).eval x = .slice (some ⟨g, 0, none⟩) 1 c) (hg : w.heap[g]? = some (.cells news.toArray T fz)) (hl : news.length = size) (h1 : ∀ u ∈ news, u.oneCell' = true)
    (hn : n ≤ 1000000) (hbytes : (n + 1) * bytes ≤ 140737488355328) (hbase : base ≤ w.heap.size)
    (h : ∀ v' w', w'.ownsRow base e size v' (n + 1) (xs ++ news) → w.grownBy w' v.ownBlock → ∃ l', l.set d v' = l' ∧ S w' ∧ wpAnyU P md ops Q S last fuel (listed.setIfInBounds i true) ⟨l'.toArray, ds⟩ w') : wpAnyU P md ops Q S last (fuel + 1) listed ⟨l.toArray, ds⟩ w := by
  obtain ⟨v', w', hrun, h2, h3⟩ := append_own_run (l := l) (ds := ds) ho base ht hi hsz hs hown hx hg hl h1 hn hbytes hbase
  obtain ⟨l', hl', h4, h5⟩ := h v' w' h2 h3
  exact anyU_new hio hr hd hw hrun hl' fun W2 hW2 => by subst hW2; exact ⟨fun _ => h4, h5⟩
theorem opU_append {i d : Nat} {o : Oper} {l : List Value} {ds : List Deferred} {w : World} {K : Act → World → Prop} (hio : ops[i]? = some o)
    (hd : o.dst = some d) (hw : Region.wanted o (yielded ops l.toArray) = true) {s x : Operand} {t : TypeId}
    (ho : o.op = .call { callee := .builtin .append, args := #[s, x], argTypes := #[t, t] })
    (base : Nat) {e : TypeId} {size bytes : Nat} (ht : P.underlying t = some (.slice e)) (hi : (P.info? e).map (fun i => (i.size, i.bytes, i.zero.map (·.cells.size))) = some (size, bytes, some size)) (hsz : 0 < size)
    {v : Value} {n : Nat} {xs : List Value} (hs : (Act.mk l.toArray ds).eval s = v) (hown : w.ownsRow base e size v n xs)
    {g c : Nat} {T : TypeId} {fz : Nat × Nat} {news : List Value} (hx : (Act.mk l.toArray ds).eval x = .slice (some ⟨g, 0, none⟩) 1 c) (hg : w.heap[g]? = some (.cells news.toArray T fz)) (hl : news.length = size) (h1 : ∀ u ∈ news, u.oneCell' = true)
    (hn : n ≤ 1000000) (hbytes : (n + 1) * bytes ≤ 140737488355328) (hbase : base ≤ w.heap.size)
    (h : ∀ v' w', w'.ownsRow base e size v' (n + 1) (xs ++ news) → w.grownBy w' v.ownBlock → ∃ l', l.set d v' = l' ∧ K ⟨l'.toArray, ds⟩ w') : wpOp P ops Q i K ⟨l.toArray, ds⟩ w := by
  obtain ⟨v', w', hrun, h2, h3⟩ := append_own_run (l := l) (ds := ds) ho base ht hi hsz hs hown hx hg hl h1 hn hbytes hbase
  obtain ⟨l', hl', h5⟩ := h v' w' h2 h3
  exact opU_new hio hd hw hrun hl' fun W2 hW2 => by subst hW2; exact h5
end
end Go.Proofs.Ytholfdgebdlgjaa
