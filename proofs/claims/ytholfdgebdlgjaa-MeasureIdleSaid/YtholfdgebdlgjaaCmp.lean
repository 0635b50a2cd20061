/- Comparisons whose outcome is known; structs compared. No conditions. -/
import Derived.Test.YtholfdgebdlgjaaFw
import Derived.Test.YtholfdgebdlgjaaUnt
import Derived.Laws.StructEq
namespace Go.Proofs.Ytholfdgebdlgjaa
open Go.RowKit
set_option linter.unusedVariables false
set_option linter.unusedSimpArgs false
section
variable {P : Program} {ρ : Operand → Value} {o : Oper} {w : World}
theorem R_lssB {x y : Operand} {t t' : TypeId} {k : IntKind} {n m : Int} {b : Bool} (ho : o.op = .binOp .lss t x y t') (hx : ρ x = .int k n) (hy : ρ y = .int k m) (hb : decide (n < m) = b) : (execOp ρ o).run P w = .ok (.value (.bool b)) w := hb ▸ R_lss ho hx hy
theorem R_leqB {x y : Operand} {t t' : TypeId} {k : IntKind} {n m : Int} {b : Bool} (ho : o.op = .binOp .leq t x y t') (hx : ρ x = .int k n) (hy : ρ y = .int k m) (hb : decide (n ≤ m) = b) : (execOp ρ o).run P w = .ok (.value (.bool b)) w := hb ▸ R_leq ho hx hy
theorem R_gtrB {x y : Operand} {t t' : TypeId} {k : IntKind} {n m : Int} {b : Bool} (ho : o.op = .binOp .gtr t x y t') (hx : ρ x = .int k n) (hy : ρ y = .int k m) (hb : decide (m < n) = b) : (execOp ρ o).run P w = .ok (.value (.bool b)) w := hb ▸ R_gtr ho hx hy
theorem R_geqB {x y : Operand} {t t' : TypeId} {k : IntKind} {n m : Int} {b : Bool} (ho : o.op = .binOp .geq t x y t') (hx : ρ x = .int k n) (hy : ρ y = .int k m) (hb : decide (m ≤ n) = b) : (execOp ρ o).run P w = .ok (.value (.bool b)) w := hb ▸ R_geq ho hx hy
theorem R_eqlB {x y : Operand} {t t' : TypeId} {k : IntKind} {n m : Int} {b : Bool} (ho : o.op = .binOp .eql t x y t') (hx : ρ x = .int k n) (hy : ρ y = .int k m) (hb : decide (n = m) = b) : (execOp ρ o).run P w = .ok (.value (.bool b)) w := by
  rw [R_eql ho hx hy, ← hb]
  congr 3
theorem R_neqB {x y : Operand} {t t' : TypeId} {k : IntKind} {n m : Int} {b : Bool} (ho : o.op = .binOp .neq t x y t') (hx : ρ x = .int k n) (hy : ρ y = .int k m) (hb : decide (n = m) = !b) : (execOp ρ o).run P w = .ok (.value (.bool b)) w := by
  rw [R_neq ho hx hy]
  have : (n != m) = b := by
    rw [show (n != m) = !decide (n = m) from rfl, hb, Bool.not_not]
  rw [this]
end
theorem eqFields_cons {P : Program} {w : World} {d : Nat} {xs ys : Array Value} {f : Go.Field} {fs : List Go.Field} {x y : Value} {r : Bool} (hn : (f.name != "_") = true) (hx : (part f.type xs f.offset).run P w = .ok x w) (hy : (part f.type ys f.offset).run P w = .ok y w) (he : (Op.equalIn d f.type x y).run P w = .ok r w) {q : Bool} (ht : (Op.eqFields d xs ys fs).run P w = .ok q w) :
    (Op.eqFields d xs ys (f :: fs)).run P w = .ok (r && q) w := by
  simp only [Op.eqFields]
  rw [if_pos (by simpa using hn)]
  simp only [Sem.run_bind, hx, hy, he, Result.andThen_ok]
  cases r
  · simp
  · simpa using ht
theorem part_int {w : World} {xs : Array Value} {o : Nat} {v : Value} (h : xs[o]? = some v) : (part 3 xs o).run Try.prog w = .ok v w := by
  simp only [part, isAgg, Sem.run_bind, run_underlying Try.underlying3, Result.andThen_ok, Sem.run_pure]
  simp [h]
theorem eqFields_int {w : World} {d : Nat} {xs ys : Array Value} {f : Go.Field} {fs : List Go.Field} {o : Nat} {a b : Int} (hf : (f.name != "_", f.type, f.offset) = (true, 3, o)) (hx : xs[o]? = some (.int .i64 a)) (hy : ys[o]? = some (.int .i64 b)) {q : Bool} (ht : (Op.eqFields (d + 1) xs ys fs).run Try.prog w = .ok q w) :
    (Op.eqFields (d + 1) xs ys (f :: fs)).run Try.prog w = .ok ((a == b) && q) w := by
  simp only [Prod.mk.injEq] at hf
  obtain ⟨h1, h2, h3⟩ := hf
  exact eqFields_cons h1 (by rw [h2, h3]; exact part_int hx) (by rw [h2, h3]; exact part_int hy) (by rw [h2]; exact run_equalIn_int w _ _ .i64 .i64 _ _ Try.underlying3) ht
section
variable {ρ : Operand → Value} {o : Oper} {w : World}
theorem equal_bt (d : Nat) (a b c e : Int) : (Op.equalIn (d + 2) 23 (.agg #[.int .i64 a, .int .i64 b]) (.agg #[.int .i64 c, .int .i64 e])).run Try.prog w = .ok (decide (a = c ∧ b = e)) w := by
  rw [run_equalIn_agg (P := Try.prog) w (d + 1) 23 _ _ (by kernel_rfl) (by kernel_rfl)]
  have hf : (Try.prog.fieldsOf 23).toList.map (fun f => (f.name != "_", f.type, f.offset)) = [(true, 3, 0), (true, 3, 1)] := by kernel_rfl
  generalize (Try.prog.fieldsOf 23).toList = fs at hf
  obtain ⟨f, fs0, rfl, e0, hf0⟩ := List.map_eq_cons_iff.1 hf
  obtain ⟨g, fs1, rfl, e1, hf1⟩ := List.map_eq_cons_iff.1 hf0
  obtain rfl := List.map_eq_nil_iff.1 hf1
  refine (eqFields_int e0 (a := a) (b := c) rfl rfl (eqFields_int e1 (a := b) (b := e) rfl rfl (q := true) (by simp [Op.eqFields]))).trans ?_
  exact congrArg (fun b => Result.ok b w) (by rw [Bool.eq_iff_iff]; simp)
theorem equal_rd (d : Nat) (a b c e a' b' c' e' : Int) : (Op.equalIn (d + 2) 66 (.agg #[.int .i64 a, .int .i64 b, .int .i64 c, .int .i64 e]) (.agg #[.int .i64 a', .int .i64 b', .int .i64 c', .int .i64 e'])).run Try.prog w = .ok (decide ((a, b, c, e) = (a', b', c', e'))) w := by
  rw [run_equalIn_agg (P := Try.prog) w (d + 1) 66 _ _ (by kernel_rfl) (by kernel_rfl)]
  have hf : (Try.prog.fieldsOf 66).toList.map (fun f => (f.name != "_", f.type, f.offset)) = [(true, 3, 0), (true, 3, 1), (true, 3, 2), (true, 3, 3)] := by kernel_rfl
  generalize (Try.prog.fieldsOf 66).toList = fs at hf
  obtain ⟨f, fs0, rfl, e0, hf0⟩ := List.map_eq_cons_iff.1 hf
  obtain ⟨g, fs1, rfl, e1, hf1⟩ := List.map_eq_cons_iff.1 hf0
  obtain ⟨h, fs2, rfl, e2, hf2⟩ := List.map_eq_cons_iff.1 hf1
  obtain ⟨i, fs3, rfl, e3, hf3⟩ := List.map_eq_cons_iff.1 hf2
  obtain rfl := List.map_eq_nil_iff.1 hf3
  refine (eqFields_int e0 (a := a) (b := a') rfl rfl (eqFields_int e1 (a := b) (b := b') rfl rfl (eqFields_int e2 (a := c) (b := c') rfl rfl (eqFields_int e3 (a := e) (b := e') rfl rfl (q := true) (by simp [Op.eqFields]))))).trans ?_
  exact congrArg (fun b => Result.ok b w) (by rw [Bool.eq_iff_iff]; simp)
theorem equal_lk (d : Nat) (a b c e l h a' b' c' e' l' h' : Int) : (Op.equalIn (d + 3) 75 (.agg #[.int .i64 a, .int .i64 b, .int .i64 c, .int .i64 e, .int .i64 l, .int .i64 h]) (.agg #[.int .i64 a', .int .i64 b', .int .i64 c', .int .i64 e', .int .i64 l', .int .i64 h'])).run Try.prog w = .ok (decide ((a, b, c, e, l, h) = (a', b', c', e', l', h'))) w := by
  rw [run_equalIn_agg (P := Try.prog) w (d + 2) 75 _ _ (by kernel_rfl) (by kernel_rfl)]
  have hf : (Try.prog.fieldsOf 75).toList.map (fun f => (f.name != "_", f.type, f.offset)) = [(true, 3, 0), (true, 3, 1), (true, 3, 2), (true, 3, 3), (true, 23, 4)] := by kernel_rfl
  have hz : (sizeOf 23).run Try.prog w = .ok 2 w := by
    have h : (Try.prog.info? 23).map (·.size) = some 2 := by kernel_rfl
    cases hq : Try.prog.info? 23 with
    | none => simp [hq] at h
    | some j =>
      have hs : j.size = 2 := by simpa [hq] using h
      simp [sizeOf, typeInfo, hq, hs]
  have hp : ∀ x1 x2 x3 x4 x5 x6 : Int, (part 23 #[.int .i64 x1, .int .i64 x2, .int .i64 x3, .int .i64 x4, .int .i64 x5, .int .i64 x6] 4).run Try.prog w = .ok (.agg #[.int .i64 x5, .int .i64 x6]) w := fun x1 x2 x3 x4 x5 x6 => by
    simp only [part, isAgg, Sem.run_bind, run_underlying Try.underlying23, Result.andThen_ok, Sem.run_pure, if_true, hz]
    rfl
  generalize (Try.prog.fieldsOf 75).toList = fs at hf
  obtain ⟨f, fs0, rfl, e0, hf0⟩ := List.map_eq_cons_iff.1 hf
  obtain ⟨g, fs1, rfl, e1, hf1⟩ := List.map_eq_cons_iff.1 hf0
  obtain ⟨i, fs2, rfl, e2, hf2⟩ := List.map_eq_cons_iff.1 hf1
  obtain ⟨j, fs3, rfl, e3, hf3⟩ := List.map_eq_cons_iff.1 hf2
  obtain ⟨k, fs4, rfl, e4, hf4⟩ := List.map_eq_cons_iff.1 hf3
  obtain rfl := List.map_eq_nil_iff.1 hf4
  simp only [Prod.mk.injEq] at e4
  obtain ⟨k1, k2, k3⟩ := e4
  have hl : (Op.eqFields (d + 2) #[.int .i64 a, .int .i64 b, .int .i64 c, .int .i64 e, .int .i64 l, .int .i64 h] #[.int .i64 a', .int .i64 b', .int .i64 c', .int .i64 e', .int .i64 l', .int .i64 h'] [k]).run Try.prog w = .ok (decide (l = l' ∧ h = h') && true) w :=
    eqFields_cons k1 (by rw [k2, k3]; exact hp _ _ _ _ _ _) (by rw [k2, k3]; exact hp _ _ _ _ _ _) (by rw [k2]; exact equal_bt d l h l' h') (by simp [Op.eqFields])
  refine (eqFields_int e0 (a := a) (b := a') rfl rfl (eqFields_int e1 (a := b) (b := b') rfl rfl (eqFields_int e2 (a := c) (b := c') rfl rfl (eqFields_int e3 (a := e) (b := e') rfl rfl hl)))).trans ?_
  exact congrArg (fun b => Result.ok b w) (by rw [Bool.eq_iff_iff]; simp)
theorem R_neqBt {x y : Operand} {t' : TypeId} {a b c d : Int} {r : Bool} (ho : o.op = .binOp .neq 23 x y t') (hx : ρ x = .agg #[.int .i64 a, .int .i64 b]) (hy : ρ y = .agg #[.int .i64 c, .int .i64 d]) (hr : decide (a = c ∧ b = d) = !r) :
    (execOp ρ o).run Try.prog w = .ok (.value (.bool r)) w := by
  unfold execOp
  simp only [ho, hx, hy, Sem.run_bind, run_eqGuard_agg w .neq 23 x y _ _ Try.eqGuardType23, Result.andThen_ok, run_neq_struct, equal_bt 9998, hr, Sem.run_pure, Bool.not_not]
theorem R_eqlBt {x y : Operand} {t' : TypeId} {a b c d : Int} {r : Bool} (ho : o.op = .binOp .eql 23 x y t') (hx : ρ x = .agg #[.int .i64 a, .int .i64 b]) (hy : ρ y = .agg #[.int .i64 c, .int .i64 d]) (hr : decide (a = c ∧ b = d) = r) :
    (execOp ρ o).run Try.prog w = .ok (.value (.bool r)) w := by
  unfold execOp
  simp only [ho, hx, hy, Sem.run_bind, run_eqGuard_agg w .eql 23 x y _ _ Try.eqGuardType23, Result.andThen_ok, run_eql_struct, equal_bt 9998, hr, Sem.run_pure]
theorem R_neqRd {x y : Operand} {t' : TypeId} {a b c e a' b' c' e' : Int} {r : Bool} (ho : o.op = .binOp .neq 66 x y t') (hx : ρ x = .agg #[.int .i64 a, .int .i64 b, .int .i64 c, .int .i64 e]) (hy : ρ y = .agg #[.int .i64 a', .int .i64 b', .int .i64 c', .int .i64 e']) (hr : decide ((a, b, c, e) = (a', b', c', e')) = !r) :
    (execOp ρ o).run Try.prog w = .ok (.value (.bool r)) w := by
  unfold execOp
  simp only [ho, hx, hy, Sem.run_bind, run_eqGuard_agg w .neq 66 x y _ _ Try.eqGuardType66, Result.andThen_ok, run_neq_struct, equal_rd 9998, hr, Sem.run_pure, Bool.not_not]
theorem R_eqlRd {x y : Operand} {t' : TypeId} {a b c e a' b' c' e' : Int} {r : Bool} (ho : o.op = .binOp .eql 66 x y t') (hx : ρ x = .agg #[.int .i64 a, .int .i64 b, .int .i64 c, .int .i64 e]) (hy : ρ y = .agg #[.int .i64 a', .int .i64 b', .int .i64 c', .int .i64 e']) (hr : decide ((a, b, c, e) = (a', b', c', e')) = r) :
    (execOp ρ o).run Try.prog w = .ok (.value (.bool r)) w := by
  unfold execOp
  simp only [ho, hx, hy, Sem.run_bind, run_eqGuard_agg w .eql 66 x y _ _ Try.eqGuardType66, Result.andThen_ok, run_eql_struct, equal_rd 9998, hr, Sem.run_pure]
theorem R_neqLk {x y : Operand} {t' : TypeId} {a b c e l h a' b' c' e' l' h' : Int} {r : Bool} (ho : o.op = .binOp .neq 75 x y t') (hx : ρ x = .agg #[.int .i64 a, .int .i64 b, .int .i64 c, .int .i64 e, .int .i64 l, .int .i64 h]) (hy : ρ y = .agg #[.int .i64 a', .int .i64 b', .int .i64 c', .int .i64 e', .int .i64 l', .int .i64 h']) (hr : decide ((a, b, c, e, l, h) = (a', b', c', e', l', h')) = !r) :
    (execOp ρ o).run Try.prog w = .ok (.value (.bool r)) w := by
  unfold execOp
  simp only [ho, hx, hy, Sem.run_bind, run_eqGuard_agg w .neq 75 x y _ _ Try.eqGuardType75, Result.andThen_ok, run_neq_struct, equal_lk 9997, hr, Sem.run_pure, Bool.not_not]
end
section
variable {P : Program} {md : Region.Mode} {ops : Array Oper} {Q : Exit → Act → World → Prop} {T : World → Prop} {last : Nat}
/-- A plain operation is taken first, whatever waits for it. -/
theorem anyU_firstP {i : Nat} {oi : Oper} {v : Value} (hi : ops[i]? = some oi) (hil : i ≠ last) (hsel : ∀ (j : Nat) (o : Oper) cs b, ops[j]? = some o → o.op ≠ .select cs b)
    (hQ : ∀ c a w, Q (.panic c) (a.put oi.dst v) w → Q (.panic c) a w) :
    ∀ (fuel : Nat) (listed : Array Bool) (a : Act) (w : World),
      (∀ j oj, ops[j]? = some oj → j ≠ i → listed.getD j true = false → (∀ e ∈ oj.after, Region.binds md e = true → e.on ≠ i) → oi.apart ops oj = true) →
      i ∈ Region.ready md ops listed → YieldsIf P ops (fun _ => True) oi v a → (listed.getD last true = false → T w) →
      wpAnyU P md ops Q T last fuel (listed.setIfInBounds i true) (a.put oi.dst v) w → wpAnyU P md ops Q T last (fuel + 1) listed a w := by
  intro fuel
  induction fuel with
  | zero =>
    intro listed a w _ hr hy hT H
    refine ⟨fun h => (by rw [h] at hr; cases hr), fun j hj => ?_⟩
    by_cases hji : j = i
    · subst hji; exact hy.wpOp hi trivial ⟨fun h => hT (by rwa [getD_set_ne true hil] at h), H⟩
    · have := ready_mono hj hji
      rw [H.1] at this
      cases this
  | succ fuel ih =>
    intro listed a w hfree hr hy hT H
    refine ⟨fun h => (by rw [h] at hr; cases hr), fun j hj => ?_⟩
    by_cases hji : j = i
    · subst hji; exact hy.wpOp hi trivial ⟨fun h => hT (by rwa [getD_set_ne true hil] at h), H⟩
    · have h1 := H.2 j (ready_mono hj hji)
      obtain ⟨hjun, oj, hoj, hall⟩ := mem_ready.1 hj
      have hnot : ∀ e ∈ oj.after, Region.binds md e = true → e.on ≠ i := fun e he hb heq => by
        have h1 := hall e he hb
        have h0 := (mem_ready.1 hr).1
        rw [heq] at h1
        rcases Nat.lt_or_ge i listed.size with h' | h'
        · simp [h'] at h0 h1; rw [h0] at h1; cases h1
        · simp [Array.getElem?_eq_none h'] at h1
      have h2 := wpOp_putIf hoj (hfree j oj hoj hji hjun hnot) (fun cs b => hsel i oi cs b hi) (fun cs b => hsel j oj cs b hoj) hQ hy h1
      have hfree' : ∀ k ok, ops[k]? = some ok → k ≠ i → (listed.setIfInBounds j true).getD k true = false →
          (∀ e ∈ ok.after, Region.binds md e = true → e.on ≠ i) → oi.apart ops ok = true := fun k ok hk hki hun hno => by
        refine hfree k ok hk hki ?_ hno
        by_cases hjk : j = k
        · subst hjk; exact hjun
        · rw [getD_set_ne true hjk] at hun; exact hun
      have key : (listed.setIfInBounds j true).getD last true = false → ((listed.setIfInBounds i true).setIfInBounds j true).getD last true = false := fun hh => by
        rw [Array.setIfInBounds_comm _ _ (Ne.symm hji), getD_set_ne true hil]; exact hh
      refine wpOp_mono (fun a' w' h3 => ⟨fun hh => h3.2.1 (key hh), ih (listed.setIfInBounds j true) a' w' hfree' (ready_mono hr (Ne.symm hji)) h3.1 (fun hh => h3.2.1 (key hh)) ?_⟩) h2
      rw [Array.setIfInBounds_comm _ _ hji]
      exact h3.2.2
theorem anyU_takeP {i d : Nat} {oi : Oper} {v : Value} {fuel : Nat} {listed : Array Bool} {l l' : List Value} {ds : List Deferred} {w : World} (hi : ops[i]? = some oi) (hil : i ≠ last)
    (hs : Region.noSelect ops = true) (hf : Region.free md ops listed i = true) (hr : (Region.ready md ops listed).contains i = true)
    (hQ : ∀ c a w, Q (.panic c) (a.put oi.dst v) w → Q (.panic c) a w) (hd : oi.dst = some d) (hw : Region.wanted oi (yielded ops l.toArray) = true) (hrun : ∀ w, (execOp (Act.eval ⟨l.toArray, ds⟩) oi).run P w = .ok (.value v) w) (hT : T w) (hl : l.set d v = l')
    (h : wpAnyU P md ops Q T last fuel (listed.setIfInBounds i true) ⟨l'.toArray, ds⟩ w) : wpAnyU P md ops Q T last (fuel + 1) listed ⟨l.toArray, ds⟩ w := by
  refine anyU_firstP hi hil (Region.noSelect_spec hs) hQ fuel listed _ w (Region.free_spec hi hf) (by simpa using hr) (.inl ⟨hw, fun w _ => hrun w⟩) (fun _ => hT) (by rw [put_lit _ hd, hl]; exact h)
/-- A store ahead of the last one. -/
theorem anyU_to {i : Nat} {o : Oper} {fuel : Nat} {listed : Array Bool} {l : List Value} {ds : List Deferred} {w w' : World} (hi : ops[i]? = some o) (hr : Region.ready md ops listed = [i])
    (hd : o.dst = none) (hw : Region.wanted o (yielded ops l.toArray) = true) (hrun : (execOp (Act.eval ⟨l.toArray, ds⟩) o).run P w = .ok .skip w')
    (h : ∀ W2, W2 = w' → ((listed.setIfInBounds i true).getD last true = false → T W2) ∧ wpAnyU P md ops Q T last fuel (listed.setIfInBounds i true) ⟨l.toArray, ds⟩ W2) : wpAnyU P md ops Q T last (fuel + 1) listed ⟨l.toArray, ds⟩ w := by
  refine anyU_op hi hr hw ?_
  unfold Oper.wp
  simp only [hrun, Oper.upon, hd, Act.put]
  exact h _ rfl
theorem opU_to {i : Nat} {o : Oper} {l : List Value} {ds : List Deferred} {w w' : World} {K : Act → World → Prop} (hi : ops[i]? = some o)
    (hd : o.dst = none) (hw : Region.wanted o (yielded ops l.toArray) = true) (hrun : (execOp (Act.eval ⟨l.toArray, ds⟩) o).run P w = .ok .skip w')
    (h : ∀ W2, W2 = w' → K ⟨l.toArray, ds⟩ W2) : wpOp P ops Q i K ⟨l.toArray, ds⟩ w := by
  unfold wpOp
  simp only [hi, hw, if_true, Oper.wp, hrun, Oper.upon, hd, Act.put]
  exact .inl (h _ rfl)
end
end Go.Proofs.Ytholfdgebdlgjaa
