/- Slices that are being built: how an append steps, and what is kept. No conditions. -/
import Derived.Test.YtholfdgebdlgjaaOpn
import Derived.Laws.AppendOwn
namespace Go.Proofs.Ytholfdgebdlgjaa
open Go.RowKit
set_option linter.unusedVariables false
set_option linter.unusedSimpArgs false
theorem owns_keep {w w' : World} {base : Nat} {e : TypeId} {size : Nat} {v : Value} {n : Nat} {xs : List Value} (h : w.ownsRow base e size v n xs) (k : ∀ (g : Nat) (o : Obj), base ≤ g → w.heap[g]? = some o → w'.heap[g]? = some o) : w'.ownsRow base e size v n xs := by
  refine ⟨h.1, ?_⟩
  rcases h.2 with h | ⟨g, cap, cur, h1, h2, h3, h4⟩
  · exact .inl h
  · exact .inr ⟨g, cap, cur, h1, h2, k g _ h2 h3, h4⟩
theorem owns_ext {X : List Nat} {w w' : World} {base : Nat} {e : TypeId} {size : Nat} {v : Value} {n : Nat} {xs : List Value} (h : w.ownsRow base e size v n xs) (E : Ext X w w') (hx : ∀ b ∈ X, b < base) : w'.ownsRow base e size v n xs :=
  owns_keep h fun g o hg ho => E.keep ho fun hm => by have := hx g hm; omega
theorem owns_cells {w w2 : World} {c o : Nat} {l : List Value} {base : Nat} {e : TypeId} {size : Nat} {v : Value} {n : Nat} {xs : List Value} (hw : w2 = w.setCells c o l) (h : w.ownsRow base e size v n xs) (hb : c < base) : w2.ownsRow base e size v n xs :=
  owns_keep h fun g x hg ho => keep_cells hw ho (by omega)
theorem owns_cell {w w2 : World} {c o : Nat} {u : Value} {base : Nat} {e : TypeId} {size : Nat} {v : Value} {n : Nat} {xs : List Value} (hw : w2 = w.setCell ⟨c, o, none⟩ u) (h : w.ownsRow base e size v n xs) (hb : c < base) : w2.ownsRow base e size v n xs :=
  owns_keep h fun g x hg ho => keep_cell hw ho (by omega)
theorem owns_alloc {w w2 : World} {ob : Obj} {base : Nat} {e : TypeId} {size : Nat} {v : Value} {n : Nat} {xs : List Value} (hw : w2 = w.alloc ob) (h : w.ownsRow base e size v n xs) : w2.ownsRow base e size v n xs :=
  owns_keep h fun g x hg ho => keep_alloc hw ho
theorem owns_same {w w2 : World} {base : Nat} {e : TypeId} {size : Nat} {v : Value} {n : Nat} {xs : List Value} (hw : w2.heap = w.heap) (h : w.ownsRow base e size v n xs) : w2.ownsRow base e size v n xs :=
  owns_keep h fun g x hg ho => keep_same hw ho
/-- What an append of a slice of one's own leaves as it was. -/
theorem ext_append {w0 w w' : World} {base : Nat} {e : TypeId} {size : Nat} {v : Value} {n : Nat} {xs : List Value} (E : Ext [] w0 w) (h : w.ownsRow base e size v n xs) (hg : w.grownBy w' v.ownBlock) (hb : w0.heap.size ≤ base) : Ext [] w0 w' :=
  Ext.of_below (E.below.grown hg E.size fun k hk => by have := h.lt k hk; omega)
theorem keep_append {w w' : World} {base : Nat} {e : TypeId} {size : Nat} {v : Value} {n : Nat} {xs : List Value} {b : Nat} {o : Obj} (h : w.ownsRow base e size v n xs) (hg : w.grownBy w' v.ownBlock) (q : w.heap[b]? = some o) (hb : b < base) : w'.heap[b]? = some o := by
  rw [hg.block b (blk_lt q) fun hk => by have := h.lt b hk.symm; omega, q]
theorem keep_own {w w' : World} {g b n c : Nat} {o : Obj} (hg : w.grownBy w' (Value.ownBlock (.slice (some ⟨g, 0, none⟩) n c))) (q : w.heap[b]? = some o) (hb : b ≠ g) : w'.heap[b]? = some o := by
  rw [hg.block b (blk_lt q) fun hk => hb (by cases hk; rfl), q]
theorem owns_of_block {w : World} {base b n size : Nat} {cs : List Value} {e : TypeId} (h : w.heap[b]? = some (.cells cs.toArray e (0, 0))) (hb : base ≤ b) (hl : cs.length = n * size) (hn : n ≤ 1000000) : w.ownsRow base e size (.slice (some ⟨b, 0, none⟩) n n) n cs :=
  ⟨hl, .inr ⟨b, n, _, rfl, hb, h, Nat.le_refl _, by simp only [maxLen]; omega, by simpa using hl, by rw [← hl]; simp⟩⟩
theorem owns_cap {w : World} {base n size m c : Nat} {a : Option Addr} {cs : List Value} {e : TypeId} (h : w.ownsRow base e size (.slice a m c) n cs) : n ≤ c := by
  rcases h.2 with ⟨hv, hn⟩ | ⟨g, cap, cur, hv, h1, h2, h3, -⟩
  · omega
  · cases hv; exact h3
theorem size_append {w w' : World} {v : Value} (hg : w.grownBy w' v.ownBlock) : w.heap.size ≤ w'.heap.size := hg.size
/-- A slice of one's own reads as its rows. -/
theorem rows_of_owns {α : Type} {w : World} {base : Nat} {e : TypeId} {sz : Nat} {v : Value} {xs : List α} {row : α → List Value} (h : w.ownsRow base e sz v xs.length ((xs.map row).flatten)) (hr : ∀ x, (row x).length = sz) : IsRows w v sz (xs.map row) := by
  have flat : ∀ (ys : List α) (i j : Nat) (x : List Value), (ys.map row)[i]? = some x → j < sz → (ys.map row).flatten[i * sz + j]? = x[j]? := by
    intro ys
    induction ys with
    | nil => intro i j x hi; simp at hi
    | cons y ys ih =>
      intro i j x hi hj
      simp only [List.map_cons, List.flatten_cons]
      cases i with
      | zero =>
        simp at hi; subst hi
        rw [List.getElem?_append_left (by rw [hr]; omega)]; simp
      | succ i =>
        rw [List.getElem?_append_right (by rw [hr, Nat.add_mul]; omega), hr, show (i + 1) * sz + j - sz = i * sz + j by rw [Nat.add_mul]; omega]
        exact ih i j x (by simpa using hi) hj
  rcases h.2 with ⟨hv, hn⟩ | ⟨g, cap, cur, hv, hb, hg, h1, h2, h3, h4⟩
  · obtain rfl : xs = [] := List.length_eq_zero_iff.1 hn
    exact ⟨none, 0, by simpa using hv, by simp, fun h => absurd rfl h⟩
  · refine ⟨some ⟨g, 0, none⟩, cap, by simpa using hv, fun x hx => ?_, fun _ => ⟨g, 0, rfl, blk_lt hg, fun i j x hi hj => ?_⟩⟩
    · obtain ⟨y, -, rfl⟩ := List.mem_map.1 hx; exact hr y
    · have hf := flat xs i j x hi hj
      rw [cells_of_block hg, ← hf, ← h4, Nat.zero_add, List.getElem?_take, if_pos, Array.getElem?_toList]
      have hil : i < xs.length := by have := (List.getElem?_eq_some_iff.1 hi).1; simpa using this
      calc i * sz + j < i * sz + sz := by omega
        _ = (i + 1) * sz := by rw [Nat.add_mul]; omega
        _ ≤ xs.length * sz := Nat.mul_le_mul_right _ hil
theorem owns_slice {w : World} {base : Nat} {e : TypeId} {sz : Nat} {v : Value} {n : Nat} {xs : List Value} (h : w.ownsRow base e sz v n xs) : ∃ a cap, v = .slice a n cap := by
  rcases h.2 with ⟨hv, hn⟩ | ⟨g, cap, cur, hv, -⟩
  · subst hn; exact ⟨none, 0, hv⟩
  · exact ⟨_, _, hv⟩
section
variable {P : Program} {ops : Array Oper} {Q : Exit → Act → World → Prop} {o : Oper} {rest : List Oper} {w : World}
/-- An append of one element, a row of cells that lie in a block. -/
theorem seq_append {l : List Value} {ds : List Deferred} {d : Tmp} {s x : Operand} {t : TypeId} (hd : o.dst = some d) (hw : Region.wanted o (yielded ops l.toArray) = true)
    (ho : o.op = .call { callee := .builtin .append, args := #[s, x], argTypes := #[t, t] })
    (base : Nat) {e : TypeId} {size bytes : Nat} (ht : P.underlying t = some (.slice e)) (hi : (P.info? e).map (fun i => (i.size, i.bytes, i.zero.map (·.cells.size))) = some (size, bytes, some size)) (hsz : 0 < size)
    {v : Value} {n : Nat} {xs : List Value} (hs : (Act.mk l.toArray ds).eval s = v) (hown : w.ownsRow base e size v n xs)
    {g c : Nat} {T : TypeId} {fz : Nat × Nat} {news : List Value} (hx : (Act.mk l.toArray ds).eval x = .slice (some ⟨g, 0, none⟩) 1 c) (hg : w.heap[g]? = some (.cells news.toArray T fz)) (hl : news.length = size) (h1 : ∀ u ∈ news, u.oneCell' = true)
    (hn : n ≤ 1000000) (hbytes : (n + 1) * bytes ≤ 140737488355328) (hbase : base ≤ w.heap.size)
    (h : ∀ v' w', w'.ownsRow base e size v' (n + 1) (xs ++ news) → w.grownBy w' v.ownBlock → ∃ l', l.set d v' = l' ∧ wpList P ops Q rest ⟨l'.toArray, ds⟩ w') : wpList P ops Q (o :: rest) ⟨l.toArray, ds⟩ w := by
  cases hq : P.info? e with
  | none => simp [hq] at hi
  | some i =>
    simp only [hq, Option.map_some, Option.some.injEq, Prod.mk.injEq, Option.map_eq_some_iff] at hi
    obtain ⟨hi1, hi2, z, hz, hz2⟩ := hi
    obtain ⟨v', w', hr, h2, h3, -⟩ := run_append_own (P := P) w base t o.type e i z size bytes ht hq hz hi1 hi2 hz2 hsz v n xs hown ⟨g, 0, none⟩ 1 c news (by omega) (fun j u hu => by
      rw [Addr.add_lit, Nat.zero_add, cells_of_block hg]; simpa using hu) h1 (by simp only [maxLen]; omega) hbytes hbase
    have hrun : (execOp (Act.eval ⟨l.toArray, ds⟩) o).run P w = .ok (.value v') w' := by
      unfold execOp
      simp only [ho, resolve, invoke, builtin, Sem.run_bind, Sem.run_pure, Result.andThen_ok, List.map_toArray, List.map_cons, List.map_nil, hs, hx, hr]
    obtain ⟨l', hl', h4⟩ := h v' w' h2 h3
    exact seq_val hd hw hrun hl' h4
end
end Go.Proofs.Ytholfdgebdlgjaa
