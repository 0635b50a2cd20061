/- A region that draws its order, and writes at its end: what is known of the world holds until its last store. No conditions. -/
import Derived.Test.YtholfdgebdlgjaaSy
namespace Go.Proofs.Ytholfdgebdlgjaa
open Go.RowKit
set_option linter.unusedVariables false
section
variable {P : Program} {md : Region.Mode} {ops : Array Oper} {Q : Exit → Act → World → Prop} {T : World → Prop} {last : Nat}
/-- Whatever order is picked from here on; T holds behind each operation until number 'last' has come. -/
def wpAnyU (P : Program) (md : Region.Mode) (ops : Array Oper) (Q : Exit → Act → World → Prop) (T : World → Prop) (last : Nat) : Nat → Array Bool → Act → World → Prop
  | 0, listed, a, w => Region.ready md ops listed = [] ∧ Q .normal a w
  | fuel + 1, listed, a, w =>
    (Region.ready md ops listed = [] → Q .normal a w) ∧
    ∀ i ∈ Region.ready md ops listed, wpOp P ops Q i (fun a' w' => ((listed.setIfInBounds i true).getD last true = false → T w') ∧ wpAnyU P md ops Q T last fuel (listed.setIfInBounds i true) a' w') a w
theorem anyU_any : ∀ (fuel : Nat) (listed : Array Bool) (a : Act) (w : World), wpAnyU P md ops Q T last fuel listed a w → wpAny P md ops Q fuel listed a w
  | 0, _, _, _, h => h
  | fuel + 1, _, _, _, h => ⟨h.1, fun i hi => wpOp_mono (fun a' w' h' => anyU_any fuel _ a' w' h'.2) (h.2 i hi)⟩
theorem yields_op {i : Nat} {o : Oper} {v : Value} {a : Act} (hi : ops[i]? = some o) (hy : YieldsIf P ops T o v a) {K : Act → World → Prop} {w : World} (hT : T w) (h : K (a.put o.dst v) w) : wpOp P ops Q i K a w := hy.wpOp hi hT h
theorem anyU_first {i : Nat} {oi ol : Oper} {v : Value} (hi : ops[i]? = some oi) (hil : i ≠ last) (hol : ops[last]? = some ol) (hwait : ∃ e ∈ ol.after, Region.binds md e = true ∧ e.on = i) (hsel : ∀ (j : Nat) (o : Oper) cs b, ops[j]? = some o → o.op ≠ .select cs b)
    (hQ : ∀ c a w, Q (.panic c) (a.put oi.dst v) w → Q (.panic c) a w) :
    ∀ (fuel : Nat) (listed : Array Bool) (a : Act) (w : World),
      (∀ j oj, ops[j]? = some oj → j ≠ i → listed.getD j true = false → (∀ e ∈ oj.after, Region.binds md e = true → e.on ≠ i) → oi.apart ops oj = true) →
      i ∈ Region.ready md ops listed → YieldsIf P ops T oi v a → listed.getD last true = false → T w →
      wpAnyU P md ops Q T last fuel (listed.setIfInBounds i true) (a.put oi.dst v) w → wpAnyU P md ops Q T last (fuel + 1) listed a w := by
  intro fuel
  induction fuel with
  | zero =>
    intro listed a w _ hr hy hl hT H
    refine ⟨fun h => (by rw [h] at hr; cases hr), fun j hj => ?_⟩
    by_cases hji : j = i
    · subst hji; exact hy.wpOp hi hT ⟨fun _ => hT, H⟩
    · have := ready_mono hj hji
      rw [H.1] at this
      cases this
  | succ fuel ih =>
    intro listed a w hfree hr hy hl hT H
    refine ⟨fun h => (by rw [h] at hr; cases hr), fun j hj => ?_⟩
    by_cases hji : j = i
    · subst hji; exact hy.wpOp hi hT ⟨fun _ => hT, H⟩
    · have h1 := H.2 j (ready_mono hj hji)
      obtain ⟨hjun, oj, hoj, hall⟩ := mem_ready.1 hj
      have hnot : ∀ e ∈ oj.after, Region.binds md e = true → e.on ≠ i := fun e he hb heq => by
        have h1 := hall e he hb
        have h0 := (mem_ready.1 hr).1
        rw [heq] at h1
        rcases Nat.lt_or_ge i listed.size with h' | h'
        · simp [h'] at h0 h1; rw [h0] at h1; cases h1
        · simp [Array.getElem?_eq_none h'] at h1
      have hjl : j ≠ last := fun e => by
        subst e
        rw [hoj] at hol; cases hol
        obtain ⟨e, he, hb, heq⟩ := hwait
        exact hnot e he hb heq
      have h2 := wpOp_putIf hoj (hfree j oj hoj hji hjun hnot) (fun cs b => hsel i oi cs b hi) (fun cs b => hsel j oj cs b hoj) hQ hy h1
      have hfree' : ∀ k ok, ops[k]? = some ok → k ≠ i → (listed.setIfInBounds j true).getD k true = false →
          (∀ e ∈ ok.after, Region.binds md e = true → e.on ≠ i) → oi.apart ops ok = true := fun k ok hk hki hun hno => by
        refine hfree k ok hk hki ?_ hno
        by_cases hjk : j = k
        · subst hjk; exact hjun
        · rw [getD_set_ne true hjk] at hun; exact hun
      have hl2 : (listed.setIfInBounds j true).getD last true = false := by rw [getD_set_ne true hjl]; exact hl
      have hl3 : ((listed.setIfInBounds i true).setIfInBounds j true).getD last true = false := by rw [getD_set_ne true hjl, getD_set_ne true hil]; exact hl
      refine wpOp_mono (fun a' w' h3 => ⟨fun _ => h3.2.1 hl3, ih (listed.setIfInBounds j true) a' w' hfree' (ready_mono hr (Ne.symm hji)) h3.1 hl2 (h3.2.1 hl3) ?_⟩) h2
      rw [Array.setIfInBounds_comm _ _ hji]
      exact h3.2.2
/-- An operation that the last store waits for is taken first. -/
theorem anyU_take {i d : Nat} {oi ol : Oper} {v : Value} {fuel : Nat} {listed : Array Bool} {l l' : List Value} {ds : List Deferred} {w : World} (hi : ops[i]? = some oi) (hol : ops[last]? = some ol) (hil : i ≠ last)
    (hwait : (ol.after.any fun e => Region.binds md e && e.on == i) = true) (hs : Region.noSelect ops = true) (hf : Region.free md ops listed i = true) (hr : (Region.ready md ops listed).contains i = true) (hll : listed.getD last true = false)
    (hQ : ∀ c a w, Q (.panic c) (a.put oi.dst v) w → Q (.panic c) a w) (hd : oi.dst = some d) (hw : Region.wanted oi (yielded ops l.toArray) = true) (hrun : ∀ w, T w → (execOp (Act.eval ⟨l.toArray, ds⟩) oi).run P w = .ok (.value v) w) (hT : T w) (hl : l.set d v = l')
    (h : wpAnyU P md ops Q T last fuel (listed.setIfInBounds i true) ⟨l'.toArray, ds⟩ w) : wpAnyU P md ops Q T last (fuel + 1) listed ⟨l.toArray, ds⟩ w := by
  refine anyU_first hi hil hol ?_ (Region.noSelect_spec hs) hQ fuel listed _ w (Region.free_spec hi hf) (by simpa using hr) (.inl ⟨hw, hrun⟩) hll hT (by rw [put_lit _ hd, hl]; exact h)
  obtain ⟨e, he, hb⟩ := Array.any_eq_true'.1 hwait
  simp only [Bool.and_eq_true, beq_iff_eq] at hb
  exact ⟨e, he, hb.1, hb.2⟩
theorem anyU_op {i : Nat} {o : Oper} {fuel : Nat} {listed : Array Bool} {a : Act} {w : World} (hi : ops[i]? = some o) (hr : Region.ready md ops listed = [i])
    (hw : Region.wanted o (yielded ops a.tmps) = true) (h : o.wp P a w (fun a' w' => ((listed.setIfInBounds i true).getD last true = false → T w') ∧ wpAnyU P md ops Q T last fuel (listed.setIfInBounds i true) a' w') Q) : wpAnyU P md ops Q T last (fuel + 1) listed a w := by
  refine ⟨fun h0 => (by rw [hr] at h0; cases h0), fun j hj => ?_⟩
  rw [hr] at hj
  obtain rfl : j = i := by simpa using hj
  unfold wpOp
  simp only [hi, hw, if_true]
  exact .inl h
theorem anyU_new {i d : Nat} {o : Oper} {v : Value} {fuel : Nat} {listed : Array Bool} {l l' : List Value} {ds : List Deferred} {w w' : World} (hi : ops[i]? = some o) (hr : Region.ready md ops listed = [i])
    (hd : o.dst = some d) (hw : Region.wanted o (yielded ops l.toArray) = true) (hrun : (execOp (Act.eval ⟨l.toArray, ds⟩) o).run P w = .ok (.value v) w') (hl : l.set d v = l')
    (h : ∀ W2, W2 = w' → ((listed.setIfInBounds i true).getD last true = false → T W2) ∧ wpAnyU P md ops Q T last fuel (listed.setIfInBounds i true) ⟨l'.toArray, ds⟩ W2) : wpAnyU P md ops Q T last (fuel + 1) listed ⟨l.toArray, ds⟩ w := by
  refine anyU_op hi hr hw ?_
  unfold Oper.wp
  simp only [hrun, Oper.upon]
  rw [put_lit _ hd, hl]
  exact h _ rfl
theorem anyU_call {i d : Nat} {o : Oper} {f : FuncId} {args : Array Value} {R : Ending → World → Prop} {fuel : Nat} {listed : Array Bool} {l : List Value} {ds : List Deferred} {w : World} (hi : ops[i]? = some o) (hr : Region.ready md ops listed = [i])
    (hd : o.dst = some d) (hw : Region.wanted o (yielded ops l.toArray) = true) (hrun : (execOp (Act.eval ⟨l.toArray, ds⟩) o).run P w = .ok (.enter f args) w) (hc : Calls P f args w R)
    (h : ∀ e w', R e w' → ∃ v l', e = .returned v ∧ l.set d v = l' ∧ T w' ∧ wpAnyU P md ops Q T last fuel (listed.setIfInBounds i true) ⟨l'.toArray, ds⟩ w') : wpAnyU P md ops Q T last (fuel + 1) listed ⟨l.toArray, ds⟩ w := by
  refine anyU_op hi hr hw ?_
  unfold Oper.wp
  simp only [hrun, Oper.upon]
  refine hc.mono fun e w' hR => ?_
  obtain ⟨v, l', rfl, hl, h3, h4⟩ := h e w' hR
  show _ ∧ _
  rw [put_lit _ hd, hl]
  exact ⟨fun _ => h3, h4⟩
/-- The last store. -/
theorem anyU_last {o : Oper} {fuel : Nat} {listed : Array Bool} {l : List Value} {ds : List Deferred} {w w' : World} (hi : ops[last]? = some o) (hr : Region.ready md ops listed = [last])
    (hd : o.dst = none) (hw : Region.wanted o (yielded ops l.toArray) = true) (hrun : (execOp (Act.eval ⟨l.toArray, ds⟩) o).run P w = .ok .skip w') (hlast : (listed.setIfInBounds last true).getD last true = true)
    (h : ∀ W2, W2 = w' → wpAnyU P md ops Q T last fuel (listed.setIfInBounds last true) ⟨l.toArray, ds⟩ W2) : wpAnyU P md ops Q T last (fuel + 1) listed ⟨l.toArray, ds⟩ w := by
  refine anyU_op hi hr hw ?_
  unfold Oper.wp
  simp only [hrun, Oper.upon, hd, Act.put]
  exact ⟨fun h0 => (by rw [hlast] at h0; cases h0), h _ rfl⟩
/-- Behind the last store: a plain slot. -/
theorem anyU_after {i d : Nat} {o : Oper} {v : Value} {fuel : Nat} {listed : Array Bool} {l l' : List Value} {ds : List Deferred} {w : World} (hi : ops[i]? = some o) (hr : Region.ready md ops listed = [i])
    (hd : o.dst = some d) (hw : Region.wanted o (yielded ops l.toArray) = true) (hrun : (execOp (Act.eval ⟨l.toArray, ds⟩) o).run P w = .ok (.value v) w) (hl : l.set d v = l') (hlast : (listed.setIfInBounds i true).getD last true = true)
    (h : wpAnyU P md ops Q T last fuel (listed.setIfInBounds i true) ⟨l'.toArray, ds⟩ w) : wpAnyU P md ops Q T last (fuel + 1) listed ⟨l.toArray, ds⟩ w :=
  anyU_new hi hr hd hw hrun hl fun W2 e => by subst e; exact ⟨fun h0 => (by rw [hlast] at h0; cases h0), h⟩
/-- Two operations may come up: whichever does. -/
theorem anyU_pair {i j : Nat} {fuel : Nat} {listed : Array Bool} {a : Act} {w : World} (hr : Region.ready md ops listed = [i, j])
    (h1 : wpOp P ops Q i (fun a' w' => ((listed.setIfInBounds i true).getD last true = false → T w') ∧ wpAnyU P md ops Q T last fuel (listed.setIfInBounds i true) a' w') a w)
    (h2 : wpOp P ops Q j (fun a' w' => ((listed.setIfInBounds j true).getD last true = false → T w') ∧ wpAnyU P md ops Q T last fuel (listed.setIfInBounds j true) a' w') a w) : wpAnyU P md ops Q T last (fuel + 1) listed a w := by
  refine ⟨fun h0 => (by rw [hr] at h0; cases h0), fun k hk => ?_⟩
  rw [hr] at hk
  simp only [List.mem_cons, List.not_mem_nil, or_false] at hk
  rcases hk with rfl | rfl
  · exact h1
  · exact h2
theorem opU_new {i d : Nat} {o : Oper} {v : Value} {l l' : List Value} {ds : List Deferred} {w w' : World} {K : Act → World → Prop} (hi : ops[i]? = some o)
    (hd : o.dst = some d) (hw : Region.wanted o (yielded ops l.toArray) = true) (hrun : (execOp (Act.eval ⟨l.toArray, ds⟩) o).run P w = .ok (.value v) w') (hl : l.set d v = l')
    (h : ∀ W2, W2 = w' → K ⟨l'.toArray, ds⟩ W2) : wpOp P ops Q i K ⟨l.toArray, ds⟩ w := by
  unfold wpOp
  simp only [hi, hw, if_true, Oper.wp, hrun, Oper.upon]
  rw [put_lit _ hd, hl]
  exact .inl (h _ rfl)
theorem opU_call {i d : Nat} {o : Oper} {f : FuncId} {args : Array Value} {R : Ending → World → Prop} {l : List Value} {ds : List Deferred} {w : World} {K : Act → World → Prop} (hi : ops[i]? = some o)
    (hd : o.dst = some d) (hw : Region.wanted o (yielded ops l.toArray) = true) (hrun : (execOp (Act.eval ⟨l.toArray, ds⟩) o).run P w = .ok (.enter f args) w) (hc : Calls P f args w R)
    (h : ∀ e w', R e w' → ∃ v l', e = .returned v ∧ l.set d v = l' ∧ K ⟨l'.toArray, ds⟩ w') : wpOp P ops Q i K ⟨l.toArray, ds⟩ w := by
  unfold wpOp
  simp only [hi, hw, if_true, Oper.wp, hrun, Oper.upon]
  refine .inl (hc.mono fun e w' hR => ?_)
  obtain ⟨v, l', rfl, hl, h4⟩ := h e w' hR
  show K _ _
  rw [put_lit _ hd, hl]
  exact h4
/-- One operation alone may come up, and it reads. -/
theorem anyU_one {i d : Nat} {o : Oper} {v : Value} {fuel : Nat} {listed : Array Bool} {l l' : List Value} {ds : List Deferred} {w : World} (hi : ops[i]? = some o) (hr : Region.ready md ops listed = [i])
    (hd : o.dst = some d) (hw : Region.wanted o (yielded ops l.toArray) = true) (hrun : ∀ w, T w → (execOp (Act.eval ⟨l.toArray, ds⟩) o).run P w = .ok (.value v) w) (hT : T w) (hl : l.set d v = l')
    (h : wpAnyU P md ops Q T last fuel (listed.setIfInBounds i true) ⟨l'.toArray, ds⟩ w) : wpAnyU P md ops Q T last (fuel + 1) listed ⟨l.toArray, ds⟩ w :=
  anyU_new hi hr hd hw (hrun w hT) hl fun W2 e => by subst e; exact ⟨fun _ => hT, h⟩
theorem anyU_done {listed : Array Bool} {a : Act} {w : World} (hr : Region.ready md ops listed = []) (h : Q .normal a w) : ∀ fuel, wpAnyU P md ops Q T last fuel listed a w
  | 0 => ⟨hr, h⟩
  | _ + 1 => ⟨fun _ => h, by rw [hr]; simp⟩
theorem region_until {l : List Oper} {L : List Value} {ds : List Deferred} {id : Nat} {w : World} (T : World → Prop) (last : Nat) (hm : P.follows .mixedOrders = true)
    (h : ∀ W : World, W.heap = w.heap → Ext [] w W → wpAnyU P .any l.toArray Q T last l.toArray.size (Array.replicate l.toArray.size false) ⟨L.toArray, ds⟩ W) : (Code.region id l.toArray true).wp P Q ⟨L.toArray, ds⟩ w :=
  wp_region_any hm (anyU_any _ _ _ _ (h _ rfl ⟨rfl, rfl, rfl, Nat.le_refl _, fun _ _ _ => rfl⟩))
end
end Go.Proofs.Ytholfdgebdlgjaa
