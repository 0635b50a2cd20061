/- Steps of walks with maps; frames of rounds; the recipes that the iterator comes to. No conditions. -/
import Derived.Test.YtdjeecgddbjbeaaDkm
namespace Go.Proofs.Ytdjeecgddbjbeaa
open Go.RowKit Go.Maps
set_option linter.unusedVariables false
set_option linter.unusedSimpArgs false
section
variable {P : Program} {ops : Array Oper} {Q : Exit → Act → World → Prop} {o : Oper} {rest : List Oper} {N : Nat} {D : List Deferred} {a : Act} {L : List (Nat × Value)} {w w' : World} {v : Value}
theorem sq_exv {C : Value → Prop} (F : Has N D a L) {d : Nat} (hd : o.dst = some d) (hN : d < N) (hw : Region.wanted o (yielded ops a.tmps) = true) (hr : ∃ v, (execOp a.eval o).run P w = .ok (.value v) w ∧ C v) (h : ∀ a2 v, Has N D a2 ((d, v) :: L) → C v → wpList P ops Q rest a2 w) : wpList P ops Q (o :: rest) a w := by
  obtain ⟨v, h1, h2⟩ := hr
  exact sq_val F hd hN hw h1 fun a2 F2 => h a2 v F2 h2
theorem sq_exw {C : World → Prop} (hd : o.dst = none) (hw : Region.wanted o (yielded ops a.tmps) = true) (hr : ∃ w', (execOp a.eval o).run P w = .ok .skip w' ∧ C w') (h : ∀ w2, C w2 → wpList P ops Q rest a w2) : wpList P ops Q (o :: rest) a w := by
  obtain ⟨w', h1, h2⟩ := hr
  exact sq_to hd hw h1 fun w2 e => h w2 (by rw [e]; exact h2)
theorem wpIn_act {G : Fence} {n : Nat} {c : Code} (F : Has N D a L) (h : ∀ fb, Has N D fb L → c.wpIn G n P Q fb w) : c.wpIn G n P Q a w := h a F
theorem Has.param (F : Has N D a L) {p : Nat} (hp : p < N) (v : Value) : Has N [] { tmps := (#[p].zip #[v]).foldl (fun t (p, v) => t.setIfInBounds p v) a.tmps, defers := [] } ((p, v) :: L) := by
  have h := F.put hp v
  have e : ({ tmps := (#[p].zip #[v]).foldl (fun t (p, v) => t.setIfInBounds p v) a.tmps, defers := [] } : Act) = { a.put (some p) v with defers := [] } := by simp [Act.put]
  rw [e]
  exact ⟨rfl, h.sz, h.get⟩
end
theorem keep_map {w w2 : World} {b c : Nat} {out : List (List Int)} {cs : Array Value} {T : TypeId} {fz : Nat × Nat} (h : MapT w b out) (hg : w.grownBy w2 (some b)) (q : w.heap[c]? = some (.cells cs T fz)) : w2.heap[c]? = some (.cells cs T fz) :=
  (hg.block c (blk_lt q) (fun e => h.ne q (fun _ _ h => by cases h) (by simpa using e.symm))).trans q
theorem owns_map {w w2 : World} {b base n size : Nat} {e : TypeId} {v : Value} {xs : List Value} {out : List (List Int)} (h : MapT w b out) (hg : w.grownBy w2 (some b)) (ho : w.ownsRow base e size v n xs) : w2.ownsRow base e size v n xs := by
  refine ho.kept hg ?_
  rcases ho.2 with ⟨rfl, _⟩ | ⟨g, cap, cur, rfl, _, hgb, _⟩
  · exact .inl rfl
  · exact .inr fun e => h.ne hgb (fun _ _ h => by cases h) (by simpa [Value.ownBlock] using e.symm)
theorem ext_mapX {X : List Nat} {a w w2 : World} {b : Nat} (h : Ext X a w) (hg : w.grownBy w2 (some b)) (hb : b < a.heap.size → b ∈ X) : Ext X a w2 :=
  ⟨hg.os.trans h.os, hg.tape.trans h.tape, hg.output.trans h.output, Nat.le_trans h.size hg.size, fun k hk hx => (hg.block k (Nat.lt_of_lt_of_le hk h.size) (fun e => by cases e; exact hx (hb hk))).trans (h.block k hk hx)⟩
theorem ext_grownX {X : List Nat} {a w w2 : World} {row : Option Nat} (h : Ext X a w) (hg : w.grownBy w2 row) (hb : ∀ b, row = some b → b < a.heap.size → b ∈ X) : Ext X a w2 :=
  ⟨hg.os.trans h.os, hg.tape.trans h.tape, hg.output.trans h.output, Nat.le_trans h.size hg.size, fun k hk hx => (hg.block k (Nat.lt_of_lt_of_le hk h.size) (fun e => by cases e; exact hx (hb _ rfl hk))).trans (h.block k hk hx)⟩
theorem keeps_ext {B : Nat} {X : List Nat} {W W' : World} (h : Ext X W W') (hX : ∀ b ∈ X, b < B ∨ ∃ cs T fz, W.heap[b]? = some (.cells cs T fz)) : KeepsFrom B W W' :=
  ⟨h.size, fun k o hk ho hc => h.keep ho fun hm => by
    rcases hX k hm with h1 | ⟨cs, T, fz, h1⟩
    · omega
    · rw [h1] at ho; cases ho; cases hc⟩
theorem keepR_ext {X Y : List Nat} {ob : Nat} {W W' : World} (h : Ext X W W') (hX : ∀ k cs T fz, W.heap[k]? = some (.cells cs T fz) → Safe Y ob k W → k ∉ X) (hr : rowOf ob W' = rowOf ob W ∨ ∀ r, rowOf ob W' = some r → W.heap.size ≤ r) : KeepR Y ob W W' :=
  ⟨h.size, fun k cs T fz hk hs => h.keep hk (hX k cs T fz hk hs), hr⟩
theorem keepR_ext0 {Y : List Nat} {ob : Nat} {W W' : World} (h : Ext [] W W') (hob : ob < W.heap.size) : KeepR Y ob W W' :=
  keepR_ext h (fun _ _ _ _ _ _ => by simp) (.inl (rowOf_ext (h.block ob hob (by simp))))
/-! Comparing recipes. -/
def tubE (f g : Nat → Int) : Bool := (List.range 4).all fun i => decide (f i = g i)
theorem tubE_iff {f g : Nat → Int} : tubE f g = true ↔ ∀ k, k < 4 → f k = g k := by
  simp [tubE, List.all_eq_true]
theorem eql_tub (f g : Nat → Int) (w : World) : (Op.equalIn 10000 83 (.agg (tubC f)) (.agg (tubC g))).run Try.prog w = .ok (tubE f g) w := by
  refine run_equalIn_array (n := 1) Try.underlying83 (by kernel_rfl) _ fun i hi => ?_
  refine ⟨.int .i64 (f i), .int .i64 (g i), ?_, ?_, run_equalIn_int w _ _ .i64 .i64 _ _ Try.underlying3⟩
  · rcases i with _ | _ | _ | _ | i
    · exact part_int rfl
    · exact part_int rfl
    · exact part_int rfl
    · exact part_int rfl
    · omega
  · rcases i with _ | _ | _ | _ | i
    · exact part_int rfl
    · exact part_int rfl
    · exact part_int rfl
    · exact part_int rfl
    · omega
section
variable {ρ : Operand → Value} {o : Oper} {w : World}
theorem R_neqTub {x y : Operand} {t' : TypeId} {f g : Nat → Int} (ho : o.op = .binOp .neq 83 x y t') (hx : ρ x = .agg (tubC f)) (hy : ρ y = .agg (tubC g)) :
    (execOp ρ o).run Try.prog w = .ok (.value (.bool (!tubE f g))) w := by
  have hg : Try.prog.eqGuardType Try.prog.depth 83 = false := by kernel_rfl
  unfold execOp
  simp only [ho, hx, hy, Sem.run_bind, run_eqGuard_agg w .neq 83 x y (tubC f) (tubC g) hg, Result.andThen_ok, run_neq_struct, eql_tub, Sem.run_pure]
theorem R_lookupS {x y : Operand} {b : Nat} {out : List (List Int)} {f : Nat → Int} (ho : o.op = .lookup 141 x y false) (hx : ρ x = .map (some b)) (hy : ρ y = .agg (tubC f)) (hf : TubS f) (h : MapT w b out) :
    ∃ v, (execOp ρ o).run Try.prog w = .ok (.value v) w ∧ ∃ c, v = .bool c ∧ ((∀ t ∈ out, ∃ k, k < 4 ∧ f k ≠ val t k) → c = false) := by
  obtain ⟨c, h1, h2⟩ := R_lookupT ho hx hy hf h
  exact ⟨_, h1, c, rfl, h2⟩
end
/-! The recipes that the iterator comes to. -/
instance (f : Nat → Int) : Decidable (TubS f) := inferInstanceAs (Decidable (∀ k, k < 4 → 0 ≤ f k ∧ f k ≤ 6))
theorem recL_all : ∀ nd, nd < 5 → (recL nd).Nodup ∧ ∀ q ∈ recL nd, q.length = nd ∧ TubS (val q) ∧ 0 < gcE (val q) ∧ 1 ≤ q.sum ∧ q.sum ≤ 6 ∧ ∀ n ∈ q, 0 ≤ n ∧ n ≤ 6 := by decide +kernel
theorem recL_len : ∀ nd, nd < 5 → (recL nd).length ≤ 500 := by decide +kernel
end Go.Proofs.Ytdjeecgddbjbeaa
