/- Maps whose keys are recipes. No conditions. -/
import Derived.Test.YtdjeecgddbjbeaaDrf
import Derived.Maps.Own
import Derived.Maps.Views
import Derived.Maps.Keyed
import Derived.WideKeyArr
import Derived.DeepKeys4
namespace Go.Proofs.Ytdjeecgddbjbeaa
open Go.RowKit Go.Maps Go.WideMaps Go.ChangeShapes
set_option linter.unusedVariables false
set_option linter.unusedSimpArgs false
theorem arrT : ArrKey Try.prog 83 3 4 := ⟨Try.underlying83, by kernel_rfl, by kernel_rfl, by kernel_rfl⟩
theorem laidT : laidOutB Try.prog = true := by kernel_rfl
theorem rowT : (83 : TypeId) < Try.prog.types.size := of_decide_eq_true (by kernel_rfl)
theorem keyAtT : Try.prog.keyTypeAt 2 83 = true := arrT.at 0
theorem lawT : KeyLaw Try.prog 83 := deep_law_laid (P := Try.prog) (m := 2) (k := 83) laidT (by omega) rowT keyAtT (by rw [Try.underlying83])
theorem keyedT : Keyed Try.prog 83 := Keyed.of_law lawT
def klT (f : Nat → Int) : Lit := .string (keyBytes [.int .i64 (f 0), .int .i64 (f 1), .int .i64 (f 2), .int .i64 (f 3)])
theorem keyOf_tub {f : Nat → Int} (hf : TubS f) : keyOf Try.prog 83 (.agg (tubC f)) = some (klT f) := by
  have hsz : ∃ m, Try.prog.types.size = m + 1 := by
    have h0 : 0 < Try.prog.types.size := Nat.lt_of_le_of_lt (Nat.zero_le _) rowT
    revert h0
    generalize Try.prog.types.size = n
    intro h0
    exact ⟨n - 1, by omega⟩
  have hkt := arrT.keyType hsz
  obtain ⟨m, hm⟩ := hsz
  have hw : ∀ k, k < 4 → (Lit.int .i64 (f k)).wf = true := fun k hk => by have := hf k hk; exact WalkArith.wf_i64 (by omega)
  have h0 := hw 0 (by omega)
  have h1 := hw 1 (by omega)
  have h2 := hw 2 (by omega)
  have h3 := hw 3 (by omega)
  unfold keyOf
  simp only [arrT.hu]
  rw [if_pos (by simp [hkt, Value.formed, arrT.hu, arrT.size, tubC]), hm]
  unfold Program.keyLits
  simp only [arrT.hu, Value.cells]
  rw [if_pos (by rw [arrT.size]; rfl), show List.range 4 = [0, 1, 2, 3] from rfl, List.mapM_cons, List.mapM_cons, List.mapM_cons, List.mapM_cons, List.mapM_nil]
  simp [arrT.one, Program.keyLits, Try.underlying3, h0, h1, h2, h3, tubC, klT]
theorem klT_ne {f g : Nat → Int} (hf : TubS f) (hg : TubS g) {k : Nat} (hk : k < 4) (h : f k ≠ g k) : klT f ≠ klT g := by
  intro e
  have h1 := keyedT.inj (keyOf_tub hf) (by rw [e]; exact keyOf_tub hg)
  have h2 : tubC f = tubC g := by simpa using h1
  have := congrArg (fun a : Array Value => a[k]?) h2
  have t1 := tub_ix (f := f) (i := (k : Int)) (k := k) rfl hk
  have t2 := tub_ix (f := g) (i := (k : Int)) (k := k) rfl hk
  rw [Int.toNat_natCast] at t1 t2
  simp only [t1, t2] at this
  exact h (by simpa using this)
theorem plainElem_bool_inv {H : Type} {P : Program} {e : TypeId} (he : P.underlying e = some .bool) {v : Value} {z : DataW H × List MemPlace} (h : plainElem P e v = some z) : ∃ b, v = .bool b ∧ z = (.lit (.bool b), []) := by
  unfold plainElem at h
  cases v <;> simp [he] at h
  rename_i b
  exact ⟨b, rfl, by first | exact h.symm | (rw [← h])⟩
/-- A map in which some recipes are. -/
def MapT (w : World) (b : Nat) (out : List (List Int)) : Prop := ∃ D : DataW Unit, w.ownsMap Try.prog 83 (plainElem Try.prog 4) b out.length D ∧ ∀ f, TubS f → (∀ t ∈ out, ∃ k, k < 4 ∧ f k ≠ val t k) → D.atKey (klT f) (.lit (.bool false)) = .lit (.bool false)
theorem MapT.kept {w w' : World} {b : Nat} {out : List (List Int)} {row : Option Nat} (h : MapT w b out) (hg : w.grownBy w' row) (hr : some b ≠ row) : MapT w' b out := by
  obtain ⟨D, h1, h2⟩ := h
  exact ⟨D, h1.kept hg hr, h2⟩
theorem MapT.obj {w : World} {b : Nat} {out : List (List Int)} (h : MapT w b out) : ∃ es clock, w.heap[b]? = some (.map es clock) := by
  obtain ⟨D, ⟨es, clock, hb, -⟩, -⟩ := h
  exact ⟨es, clock, hb⟩
theorem MapT.ne {w : World} {b c : Nat} {out : List (List Int)} (h : MapT w b out) {o : Obj} (H : w.heap[c]? = some o) (ho : ∀ es k, o ≠ .map es k) : b ≠ c := by
  intro e
  obtain ⟨es, k, hb⟩ := h.obj
  subst e
  rw [H] at hb
  exact ho es k (by simpa using hb)
theorem map_alloc {w w2 : World} {o : Obj} {b : Nat} {out : List (List Int)} (e : w2 = w.alloc o) (h : MapT w b out) : MapT w2 b out := by rw [e]; exact h.kept (World.grownBy_alloc w o none) (by simp)
theorem map_cells {w w2 : World} {b c off : Nat} {l : List Value} {out : List (List Int)} {cs : Array Value} {T : TypeId} {fz : Nat × Nat} (e : w2 = w.setCells c off l) (h : MapT w b out) (H : w.heap[c]? = some (.cells cs T fz)) : MapT w2 b out := by
  have hbc := h.ne H (fun _ _ h => by cases h)
  obtain ⟨D, ⟨es, clock, hb, h3, h4, h5⟩, h2⟩ := h
  exact ⟨D, ⟨es, clock, keep_cells e hb hbc, h3, h4, h5⟩, h2⟩
theorem map_cell {w w2 : World} {b c off : Nat} {v : Value} {out : List (List Int)} {cs : Array Value} {T : TypeId} {fz : Nat × Nat} (e : w2 = w.setCell ⟨c, off, none⟩ v) (h : MapT w b out) (H : w.heap[c]? = some (.cells cs T fz)) : MapT w2 b out := by
  have hbc := h.ne H (fun _ _ h => by cases h)
  obtain ⟨D, ⟨es, clock, hb, h3, h4, h5⟩, h2⟩ := h
  exact ⟨D, ⟨es, clock, keep_cell e hb hbc, h3, h4, h5⟩, h2⟩
theorem map_ext {w w2 : World} {b : Nat} {out : List (List Int)} (h : MapT w b out) (e : Ext [] w w2) : MapT w2 b out := h.kept (grown_of_ext e) (by simp)
theorem map_same {w w2 : World} {b : Nat} {out : List (List Int)} (e : w2.heap = w.heap) (h : MapT w b out) : MapT w2 b out := by
  obtain ⟨D, ⟨es, clock, hb, h3, h4, h5⟩, h2⟩ := h
  exact ⟨D, ⟨es, clock, by rw [e]; exact hb, h3, h4, h5⟩, h2⟩
theorem map_own {w w2 : World} {b base n size : Nat} {e : TypeId} {v : Value} {xs : List Value} {out : List (List Int)} (h : MapT w b out) (ho : w.ownsRow base e size v n xs) (hg : w.grownBy w2 v.ownBlock) : MapT w2 b out := by
  refine h.kept hg ?_
  rcases ho.2 with ⟨rfl, _⟩ | ⟨g, cap, cur, rfl, _, hgb, _⟩
  · simp [Value.ownBlock]
  · intro e
    exact h.ne hgb (fun _ _ h => by cases h) (by simpa [Value.ownBlock] using e)
theorem map_put {w w2 : World} {b D : Nat} {out : List (List Int)} {d : Option (List Deferred)} {o' : Obj} (e : w2 = w.putObj D o') (hD : w.heap[D]? = some (.deferred d)) (h : MapT w b out) : MapT w2 b out := by
  rw [e]
  exact h.kept (grownBy_putObj' w D o') (fun e => h.ne hD (fun _ _ h => by cases h) (by simpa using e))
theorem map_made (w : World) : MapT (w.alloc (.map #[] 0)) w.heap.size [] := ⟨.map [], World.ownsMap_made w _ _ _, fun f _ _ => rfl⟩
section
variable {ρ : Operand → Value} {o : Oper} {w : World}
theorem R_makeMap {P : Program} {t : TypeId} (ho : o.op = .makeMap t none) : (execOp ρ o).run P w = .ok (.value (.map (some w.heap.size))) (w.alloc (.map #[] 0)) := by
  unfold execOp
  simp [ho, run_makeMap, Result.andThen, go_sem]
theorem R_lookupT {x y : Operand} {b : Nat} {out : List (List Int)} {f : Nat → Int} (ho : o.op = .lookup 141 x y false) (hx : ρ x = .map (some b)) (hy : ρ y = .agg (tubC f)) (hf : TubS f) (h : MapT w b out) :
    ∃ c, (execOp ρ o).run Try.prog w = .ok (.value (.bool c)) w ∧ ((∀ t ∈ out, ∃ k, k < 4 ∧ f k ≠ val t k) → c = false) := by
  obtain ⟨D, h1, h2⟩ := h
  obtain ⟨v, ps, hr, hv⟩ := h1.lookup keyedT Try.underlying141 (z := .bool false) (zd := .lit (.bool false)) (zp := []) (by kernel_rfl) (plainElem_bool Try.underlying4 false) (keyOf_tub hf)
  obtain ⟨c, rfl, hc⟩ := plainElem_bool_inv Try.underlying4 hv
  refine ⟨c, ?_, fun hn => ?_⟩
  · unfold execOp
    simp [ho, hx, hy, hr, Result.andThen, go_sem]
  · have h3 := h2 f hf hn
    simp only [Prod.mk.injEq] at hc
    rw [h3] at hc
    simpa using hc.1.symm
theorem R_mapPutT {x y z : Operand} {b : Nat} {out : List (List Int)} {t : List Int} (ho : o.op = .mapUpdate 141 x y z) (hx : ρ x = .map (some b)) (hy : ρ y = .agg (tubC (val t))) (hz : ρ z = .bool true) (hf : TubS (val t)) (hl : out.length < 1000) (h : MapT w b out) :
    ∃ w', (execOp ρ o).run Try.prog w = .ok .skip w' ∧ MapT w' b (out ++ [t]) ∧ w.grownBy w' (some b) := by
  obtain ⟨D, h1, h2⟩ := h
  obtain ⟨w', hr, h3, h4⟩ := h1.update keyedT Try.underlying141 (by simp only [maxLen]; omega) (keyOf_tub hf) (plainElem_bool Try.underlying4 true)
  refine ⟨w', ?_, ⟨_, by rw [List.length_append]; exact h3, fun f hff hn => ?_⟩, h4⟩
  · unfold execOp
    simp [ho, hx, hy, hz, hr, Result.andThen, go_sem]
  · obtain ⟨k, hk, hne⟩ := hn t (by simp)
    rw [atKey_put_other (klT_ne hff hf hk hne)]
    exact h2 f hff fun u hu => hn u (by simp [hu])
end
end Go.Proofs.Ytdjeecgddbjbeaa
