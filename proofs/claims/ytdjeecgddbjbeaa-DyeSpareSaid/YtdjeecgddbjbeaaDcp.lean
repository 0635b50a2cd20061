/- The builtin copy of numbers, into an array of three. No conditions. -/
import Derived.Test.YtdjeecgddbjbeaaDch
import Derived.Laws.IdiomCopy
import Derived.Laws.Slices
import Derived.WideShapes
namespace Go.Proofs.Ytdjeecgddbjbeaa
open Go.RowKit
set_option linter.unusedVariables false
set_option linter.unusedSimpArgs false
section
variable {P : Program} {ρ : Operand → Value} {o : Oper} {w : World}
theorem R_copy {x y : Operand} {dT sT elem : TypeId} {b off dLen dCap sLen sCap : Nat} {a : Addr} (cs : List Value) (ho : o.op = .call { callee := .builtin .copy, args := #[x, y], argTypes := #[dT, sT] }) (hx : ρ x = .slice (some ⟨b, off, none⟩) dLen dCap) (hy : ρ y = .slice (some a) sLen sCap)
    (hu : P.underlying dT = some (.slice elem)) (hs : (P.info? elem).map (·.size) = some 1) (hn : cs.length = Nat.min sLen dLen)
    (hsrc : ∀ j v, cs[j]? = some v → w.cell? (a.add j) = some v) (hc : ∀ j, j < cs.length → (w.cell? ⟨b, off + j, none⟩).isSome = true) (hf : ∀ j, j < cs.length → w.frozen? ⟨b, off + j, none⟩ = false) (h1 : ∀ v ∈ cs, v.oneCell' = true) :
    (execOp ρ o).run P w = .ok (.value (.int .i64 cs.length)) (w.setCells b off cs) := by
  unfold execOp
  simp [ho, hx, hy, resolve, invoke, builtin, run_copy_cells w dT sT o.type elem b off dLen dCap a sLen sCap cs hu hs hn hsrc hc hf h1, goInt, go_sem]
theorem R_sliceAll {x : Operand} {t : TypeId} {b n : Nat} (ho : o.op = .slice t x none none none) (hx : ρ x = .pointer (some ⟨b, 0, none⟩)) (hu : P.underlying t = some (.array (P.arrayLen t) (P.elem t))) (hs : (P.info? (P.elem t)).map (·.size) = some 1) (hn : P.arrayLen t = n) :
    (execOp ρ o).run P w = .ok (.value (.slice (some ⟨b, 0, none⟩) n n)) w := by
  have h0 : (sizeOf (P.elem t)).run P w = .ok 1 w := by
    generalize P.elem t = e at hs
    cases hq : P.info? e with
    | none => simp [hq] at hs
    | some j =>
      have hj : j.size = 1 := by simpa [hq] using hs
      simp [sizeOf, typeInfo, hq, hj]
  have hr := run_sliceAt_array_all (P := P) w t ⟨b, 0, none⟩ hu
  rw [h0, hn] at hr
  simp only [Result.andThen_ok, slicedAt, Nat.zero_mul, Nat.sub_zero] at hr
  have ha : (if n = 0 then (⟨b, 0, none⟩ : Addr) else Addr.add ⟨b, 0, none⟩ 0) = ⟨b, 0, none⟩ := by split <;> rfl
  rw [ha] at hr
  clear hu hs hn h0 ha
  unfold execOp
  simp only [ho, hx, Option.map_none, Sem.run_bind, hr, Result.andThen_ok, Sem.run_pure]
end
/-- The tones of a dye, in an array of three. -/
def tonesC (l : List Int) : Array Value := #[.int .i64 (l.getD 0 0), .int .i64 (l.getD 1 0), .int .i64 (l.getD 2 0)]
theorem put_tones {w w2 : World} {b : Nat} {l : List Int} {T : TypeId} (e : w2 = w.setCells b 0 (l.map (Value.int .i64))) (H : w.heap[b]? = some (.cells #[.int .i64 0, .int .i64 0, .int .i64 0] T (0, 0))) (hl : l.length ≤ 3) : w2.heap[b]? = some (.cells (tonesC l) T (0, 0)) := by
  match l, hl with
  | [], _ => rw [e]; exact H
  | [x], _ => exact put_cell (w2 := w2) (by rw [e]; rfl) H rfl
  | [x, y], _ => exact put_mid2 (w2 := w2) (by rw [e]; rfl) H rfl
  | [x, y, z], _ => exact put_row (cs := tonesC [x, y, z]) (by rw [e]; rfl) H rfl
  | x :: y :: z :: u :: l, h => simp at h
def eqT (l m : List Int) : Bool := (List.range 3).all fun i => decide (l.getD i 0 = m.getD i 0)
theorem eqT_iff {l m : List Int} (hl : l.length = m.length) (h3 : l.length ≤ 3) : eqT l m = true ↔ l = m := by
  simp only [eqT, List.all_eq_true, List.mem_range, decide_eq_true_eq]
  constructor
  · intro h
    refine List.ext_getElem hl fun j a b => ?_
    simpa [a, b] using h j (by omega)
  · rintro rfl; exact fun _ _ => rfl
section
variable {ρ : Operand → Value} {o : Oper} {w : World}
theorem eql_tones (l m : List Int) : (Op.equalIn 10000 146 (.agg (tonesC l)) (.agg (tonesC m))).run Try.prog w = .ok (eqT l m) w := by
  refine run_equalIn_array (n := 1) Try.underlying146 (by kernel_rfl) _ fun i hi => ?_
  refine ⟨.int .i64 (l.getD i 0), .int .i64 (m.getD i 0), ?_, ?_, ?_⟩
  · rcases i with _ | _ | _ | i
    · exact part_int rfl
    · exact part_int rfl
    · exact part_int rfl
    · omega
  · rcases i with _ | _ | _ | i
    · exact part_int rfl
    · exact part_int rfl
    · exact part_int rfl
    · omega
  · exact run_equalIn_int w _ _ .i64 .i64 _ _ Try.underlying3
theorem R_eqlT {x y : Operand} {t' : TypeId} {l m : List Int} (ho : o.op = .binOp .eql 146 x y t') (hx : ρ x = .agg (tonesC l)) (hy : ρ y = .agg (tonesC m)) :
    (execOp ρ o).run Try.prog w = .ok (.value (.bool (eqT l m))) w := by
  have hg : Try.prog.eqGuardType Try.prog.depth 146 = false := by kernel_rfl
  unfold execOp
  simp only [ho, hx, hy, Sem.run_bind, run_eqGuard_agg w .eql 146 x y (tonesC l) (tonesC m) hg, Result.andThen_ok, run_eql_struct, eql_tones, Sem.run_pure]
end
theorem copy_src {w : World} {n c sb so : Nat} {l : List Int} (h : IsRows w (.slice (some ⟨sb, so, none⟩) n c) 1 (l.map intRow)) : ∀ (j : Nat) (v : Value), (l.map (Value.int .i64))[j]? = some v → w.cell? ((⟨sb, so, none⟩ : Addr).add j) = some v := by
  intro j v hv
  rw [List.getElem?_map, Option.map_eq_some_iff] at hv
  obtain ⟨k, hk, rfl⟩ := hv
  have hne : l.map intRow ≠ [] := by
    intro e
    have hl : l = [] := by simpa using e
    rw [hl] at hk; simp at hk
  obtain ⟨b, off, hb, -, hr⟩ := h.range rfl hne
  cases hb
  have := hr j (intRow k) (by rw [List.getElem?_map, hk]; rfl) 0 (.int .i64 k) rfl
  rw [Nat.mul_one, Nat.add_zero] at this
  rw [Go.WideShapes.add_plain]
  exact this
theorem copy_dst {w : World} {b : Nat} {x y z : Value} {T : TypeId} (H : w.heap[b]? = some (.cells #[x, y, z] T (0, 0))) {n : Nat} (hn : n ≤ 3) : (∀ j, j < n → (w.cell? ⟨b, 0 + j, none⟩).isSome = true) ∧ ∀ j, j < n → w.frozen? ⟨b, 0 + j, none⟩ = false := by
  refine ⟨fun j hj => ?_, fun j hj => free_of_block H _⟩
  rw [cells_of_block H]
  rcases j with _ | _ | _ | j
  · rfl
  · rfl
  · rfl
  · omega
theorem ints_one (l : List Int) : ∀ v ∈ l.map (Value.int .i64), v.oneCell' = true := by
  intro v hv
  obtain ⟨k, -, rfl⟩ := List.mem_map.1 hv
  rfl
end Go.Proofs.Ytdjeecgddbjbeaa
