/- Frames that are known by their slots, the steps of a walk over them, slices of one's own, and small functions of the kit. No conditions. -/
import Derived.Test.YtholfdgebdlgjaaAp
import Derived.Test.YtholfdgebdlgjaaCmp
/-! Frames that are known by their slots, and the steps of a walk over them. No conditions. -/
namespace Go.Proofs.Ytholfdgebdlgjaa
open Go.RowKit
set_option linter.unusedVariables false
set_option linter.unusedSimpArgs false
/-- What is known of a frame of N slots; nothing is deferred. -/
structure Has (N : Nat) (a : Act) (L : List (Nat × Value)) : Prop where
  ds : a.defers = []
  sz : a.tmps.size = N
  get : ∀ k v, L.lookup k = some v → a.tmps.getD k undef = v
theorem Has.at {N : Nat} {a : Act} {L : List (Nat × Value)} (F : Has N a L) {k : Nat} {v : Value} (e : L.lookup k = some v) : a.eval (.tmp k) = v := F.get k v e
theorem Has.put {N : Nat} {a : Act} {L : List (Nat × Value)} (F : Has N a L) {d : Nat} (hd : d < N) (v : Value) : Has N (a.put (some d) v) ((d, v) :: L) := by
  refine ⟨F.ds, by simp [Act.put, F.sz], fun k u e => ?_⟩
  simp only [List.lookup] at e
  by_cases h : k = d
  · subst h
    simp only [beq_self_eq_true, Option.some.injEq] at e
    subst e
    have hs := F.sz
    simp [Act.put, hs, hd]
  · rw [show (k == d) = false by simpa using h] at e
    have := F.get k u e
    simpa [Act.put, Array.getElem?_setIfInBounds_ne (Ne.symm h)] using this
/-- The slots of one list are among those of another one. -/
def Among (L : List (Nat × Value)) : List (Nat × Value) → Prop
  | [] => True
  | p :: R => L.lookup p.1 = some p.2 ∧ Among L R
theorem Among.n {L : List (Nat × Value)} : Among L [] := trivial
theorem Among.c {L R : List (Nat × Value)} (k : Nat) {v : Value} (h : L.lookup k = some v) (r : Among L R) : Among L ((k, v) :: R) := ⟨h, r⟩
theorem Among.get {L : List (Nat × Value)} : ∀ {R : List (Nat × Value)}, Among L R → ∀ k v, R.lookup k = some v → L.lookup k = some v
  | [], _, k, v, e => by simp [List.lookup] at e
  | p :: R, h, k, v, e => by
    simp only [List.lookup] at e
    split at e
    · rename_i hk
      obtain rfl : k = p.1 := by simpa using hk
      cases e
      exact h.1
    · exact h.2.get k v e
theorem Has.sub {N : Nat} {a : Act} {L R : List (Nat × Value)} (F : Has N a L) (h : Among L R) : Has N a R := ⟨F.ds, F.sz, fun k v e => F.get k v (h.get k v e)⟩
theorem Has.cast {N : Nat} {a : Act} {L R : List (Nat × Value)} (F : Has N a L) (h : L = R) : Has N a R := h ▸ F
def argL : Nat → List Value → List (Nat × Value)
  | _, [] => []
  | i, v :: vs => (i, v) :: argL (i + 1) vs
theorem argL_get : ∀ (vs : List Value) (i k : Nat) (v : Value), (argL i vs).lookup k = some v → ∃ j, k = i + j ∧ vs[j]? = some v
  | [], i, k, v, e => by simp [argL, List.lookup] at e
  | u :: vs, i, k, v, e => by
    simp only [argL, List.lookup] at e
    split at e
    · rename_i hk
      cases e
      exact ⟨0, by simpa using hk, by simp⟩
    · obtain ⟨j, h1, h2⟩ := argL_get vs (i + 1) k v e
      exact ⟨j + 1, by omega, by simpa using h2⟩
theorem calls_has {P : Program} {f : FuncId} {fn : Func} {c : Code} {args : List Value} {w : World} {R : Ending → World → Prop} (N : Nat) (hf : P.funcs[f]? = some fn) (hb : fn.body = some c) (hN : fn.ntmps = N) (hle : args.length ≤ N)
    (h : ∀ a, Has N a (argL 0 args) → c.wp P (bodyPost P fn R) a w) : Calls P f args.toArray w R := by
  refine calls_of_wp hf hb (h _ ⟨rfl, by simp; omega, fun k v e => ?_⟩)
  obtain ⟨j, h1, h2⟩ := argL_get _ _ _ _ e
  obtain rfl : k = j := by omega
  have hj := (List.getElem?_eq_some_iff.1 h2).1
  simp only [Array.getD_eq_getD_getElem?]
  rw [Array.getElem?_append_left (by simpa using hj)]
  simp [h2]
section
variable {P : Program} {ρ : Operand → Value} {o : Oper} {w : World}
theorem R_call {f : FuncId} {args : Array Operand} {ts : Array TypeId} {vs : Array Value} (ho : o.op = .call { callee := .value (.func f), args := args, argTypes := ts }) (hf : ρ (.func f) = .func (.func f) #[] #[]) (hc : ∀ args w, (callFunc f args).run P w = .ok (.enter f args) w) (ha : args.map ρ = vs) : (execOp ρ o).run P w = .ok (.enter f vs) w := by
  subst ha
  unfold execOp
  simp [ho, resolve, hf, invoke, hc, go_sem]
theorem maps0 : (#[] : Array Operand).map ρ = #[] := by simp
theorem maps1 {x : Operand} {v : Value} (h : ρ x = v) : #[x].map ρ = #[v] := by simp [h]
theorem mapsS {x : Operand} {l : List Operand} {v : Value} {vs : List Value} (h : ρ x = v) (k : l.toArray.map ρ = vs.toArray) : (x :: l).toArray.map ρ = (v :: vs).toArray := by
  have : l.map ρ = vs := by simpa using k
  simp [h, this]
end
section
variable {P : Program} {ops : Array Oper} {Q : Exit → Act → World → Prop} {o : Oper} {rest : List Oper} {N : Nat} {a : Act} {L : List (Nat × Value)} {w w' : World} {v : Value}
theorem wantT (F : Has N a L) {j s : Nat} {b : Bool} (hg : o.guard = some (j, b)) (hj : (ops[j]?).bind (·.dst) = some s) (hs : s < N) (hl : L.lookup s = some (.bool b)) : Region.wanted o (yielded ops a.tmps) = true := by
  have h1 := F.get _ _ hl
  have h2 : a.tmps[s]? = some (.bool b) := by
    have hsz := F.sz
    rw [Array.getElem?_eq_getElem (by omega)]
    rw [Array.getD_eq_getD_getElem?, Array.getElem?_eq_getElem (by omega)] at h1
    simpa using h1
  unfold Region.wanted yielded
  simp [hg, hj, h2]
theorem wantF (F : Has N a L) {j s : Nat} {b c : Bool} (hg : o.guard = some (j, b)) (hj : (ops[j]?).bind (·.dst) = some s) (hs : s < N) (hl : L.lookup s = some (.bool c)) (hbc : (c == b) = false) : Region.wanted o (yielded ops a.tmps) = false := by
  have h1 := F.get _ _ hl
  have h2 : a.tmps[s]? = some (.bool c) := by
    have hsz := F.sz
    rw [Array.getElem?_eq_getElem (by omega)]
    rw [Array.getD_eq_getD_getElem?, Array.getElem?_eq_getElem (by omega)] at h1
    simpa using h1
  unfold Region.wanted yielded
  simp [hg, hj, h2, hbc]
/-- An operation that does not come up by its guard leaves undef: so does one whose guard hangs on it. -/
theorem wantU (F : Has N a L) {j s : Nat} {b : Bool} (hg : o.guard = some (j, b)) (hj : (ops[j]?).bind (·.dst) = some s) (hs : s < N) (hl : L.lookup s = some undef) : Region.wanted o (yielded ops a.tmps) = false := by
  have h1 := F.get _ _ hl
  have h2 : a.tmps[s]? = some undef := by
    have hsz := F.sz
    rw [Array.getElem?_eq_getElem (by omega)]
    rw [Array.getD_eq_getD_getElem?, Array.getElem?_eq_getElem (by omega)] at h1
    simpa using h1
  unfold Region.wanted yielded
  simp [hg, hj, h2, undef]
theorem sq_new (F : Has N a L) {d : Nat} (hd : o.dst = some d) (hN : d < N) (hw : Region.wanted o (yielded ops a.tmps) = true) (hr : (execOp a.eval o).run P w = .ok (.value v) w') (h : ∀ a2 w2, Has N a2 ((d, v) :: L) → w2 = w' → wpList P ops Q rest a2 w2) : wpList P ops Q (o :: rest) a w := by
  unfold wpList
  simp only [hw, if_true, Oper.wp, hr, Oper.upon, hd]
  exact .inl (h _ _ (F.put hN v) rfl)
theorem sq_val (F : Has N a L) {d : Nat} (hd : o.dst = some d) (hN : d < N) (hw : Region.wanted o (yielded ops a.tmps) = true) (hr : (execOp a.eval o).run P w = .ok (.value v) w) (h : ∀ a2, Has N a2 ((d, v) :: L) → wpList P ops Q rest a2 w) : wpList P ops Q (o :: rest) a w :=
  sq_new F hd hN hw hr fun a2 w2 F2 e => by subst e; exact h a2 F2
theorem sq_no (F : Has N a L) {d : Nat} (hd : o.dst = some d) (hN : d < N) (hw : Region.wanted o (yielded ops a.tmps) = false) (h : ∀ a2, Has N a2 ((d, undef) :: L) → wpList P ops Q rest a2 w) : wpList P ops Q (o :: rest) a w := by
  unfold wpList
  simp only [hw, Bool.false_eq_true, if_false, hd]
  exact h _ (F.put hN undef)
theorem sq_to (hd : o.dst = none) (hw : Region.wanted o (yielded ops a.tmps) = true) (hr : (execOp a.eval o).run P w = .ok .skip w') (h : ∀ w2, w2 = w' → wpList P ops Q rest a w2) : wpList P ops Q (o :: rest) a w := by
  unfold wpList
  simp only [hw, if_true, Oper.wp, hr, Oper.upon, hd, Act.put]
  exact .inl (h _ rfl)
theorem sq_call (F : Has N a L) {d : Nat} {f : FuncId} {args : Array Value} {R : Ending → World → Prop} (hd : o.dst = some d) (hN : d < N) (hw : Region.wanted o (yielded ops a.tmps) = true) (hr : (execOp a.eval o).run P w = .ok (.enter f args) w) (hc : Calls P f args w R)
    (h : ∀ e w', R e w' → ∃ v, e = .returned v ∧ ∀ a2, Has N a2 ((d, v) :: L) → wpList P ops Q rest a2 w') : wpList P ops Q (o :: rest) a w := by
  unfold wpList
  simp only [hw, if_true, Oper.wp, hr, Oper.upon]
  refine .inl (hc.mono fun e w' hR => ?_)
  obtain ⟨v, rfl, h1⟩ := h e w' hR
  show wpList _ _ _ _ _ _
  rw [hd]
  exact h1 _ (F.put hN v)
end
/-! Regions that draw their order. -/
/-- Whether what is known of the world still holds: until number 'stop' has come. -/
def held (stop : Option Nat) (listed : Array Bool) : Bool := match stop with
  | none => true
  | some l => !(listed.getD l true)
theorem held_ne {stop : Option Nat} {listed : Array Bool} {i : Nat} (h : stop ≠ some i) : held stop (listed.setIfInBounds i true) = held stop listed := by
  cases stop with
  | none => rfl
  | some l => simp only [held]; rw [getD_set_ne true (fun e => h (by rw [e]))]
section
variable {P : Program} {md : Region.Mode} {ops : Array Oper} {Q : Exit → Act → World → Prop} {T : World → Prop} {stop : Option Nat}
def wpAnyX (P : Program) (md : Region.Mode) (ops : Array Oper) (Q : Exit → Act → World → Prop) (T : World → Prop) (stop : Option Nat) : Nat → Array Bool → Act → World → Prop
  | 0, listed, a, w => Region.ready md ops listed = [] ∧ Q .normal a w
  | fuel + 1, listed, a, w =>
    (Region.ready md ops listed = [] → Q .normal a w) ∧
    ∀ i ∈ Region.ready md ops listed, wpOp P ops Q i (fun a' w' => (held stop (listed.setIfInBounds i true) = true → T w') ∧ wpAnyX P md ops Q T stop fuel (listed.setIfInBounds i true) a' w') a w
theorem anyX_any : ∀ (fuel : Nat) (listed : Array Bool) (a : Act) (w : World), wpAnyX P md ops Q T stop fuel listed a w → wpAny P md ops Q fuel listed a w
  | 0, _, _, _, h => h
  | fuel + 1, _, _, _, h => ⟨h.1, fun i hi => wpOp_mono (fun a' w' h' => anyX_any fuel _ a' w' h'.2) (h.2 i hi)⟩
/-- What an operation asks of the world: what is known, or nothing. -/
def needs (b : Bool) (T : World → Prop) (w : World) : Prop := b = true → T w
theorem anyX_first {b : Bool} {i : Nat} {oi : Oper} {v : Value} (hi : ops[i]? = some oi) (hil : stop ≠ some i) (hwait : b = true → ∀ l, stop = some l → ∃ ol, ops[l]? = some ol ∧ ∃ e ∈ ol.after, Region.binds md e = true ∧ e.on = i)
    (hsel : ∀ (j : Nat) (o : Oper) cs b, ops[j]? = some o → o.op ≠ .select cs b) (hQ : ∀ c a w, Q (.panic c) (a.put oi.dst v) w → Q (.panic c) a w) :
    ∀ (fuel : Nat) (listed : Array Bool) (a : Act) (w : World),
      (∀ j oj, ops[j]? = some oj → j ≠ i → listed.getD j true = false → (∀ e ∈ oj.after, Region.binds md e = true → e.on ≠ i) → oi.apart ops oj = true) →
      i ∈ Region.ready md ops listed → YieldsIf P ops (needs b T) oi v a → (held stop listed = true → T w) → (b = true → held stop listed = true) →
      wpAnyX P md ops Q T stop fuel (listed.setIfInBounds i true) (a.put oi.dst v) w → wpAnyX P md ops Q T stop (fuel + 1) listed a w := by
  intro fuel
  induction fuel with
  | zero =>
    intro listed a w _ hr hy hT hb H
    refine ⟨fun h => (by rw [h] at hr; cases hr), fun j hj => ?_⟩
    by_cases hji : j = i
    · subst hji
      exact hy.wpOp hi (fun h => hT (hb h)) ⟨fun h => hT (by rwa [held_ne hil] at h), H⟩
    · have := ready_mono hj hji
      rw [H.1] at this
      cases this
  | succ fuel ih =>
    intro listed a w hfree hr hy hT hb H
    refine ⟨fun h => (by rw [h] at hr; cases hr), fun j hj => ?_⟩
    by_cases hji : j = i
    · subst hji
      exact hy.wpOp hi (fun h => hT (hb h)) ⟨fun h => hT (by rwa [held_ne hil] at h), H⟩
    · have h1 := H.2 j (ready_mono hj hji)
      obtain ⟨hjun, oj, hoj, hall⟩ := mem_ready.1 hj
      have hnot : ∀ e ∈ oj.after, Region.binds md e = true → e.on ≠ i := fun e he hb heq => by
        have h1 := hall e he hb
        have h0 := (mem_ready.1 hr).1
        rw [heq] at h1
        rcases Nat.lt_or_ge i listed.size with h' | h'
        · simp [h'] at h0 h1; rw [h0] at h1; cases h1
        · simp [Array.getElem?_eq_none h'] at h1
      have h2 := wpOp_putIf hoj (hfree j oj hoj hji hjun hnot) (fun cs b => hsel i oi cs b hi) (fun cs b => hsel j oj cs b hoj) hQ hy h1
      have hfree' : ∀ k ok, ops[k]? = some ok → k ≠ i → (listed.setIfInBounds j true).getD k true = false →
          (∀ e ∈ ok.after, Region.binds md e = true → e.on ≠ i) → oi.apart ops ok = true := fun k ok hk hki hun hno => by
        refine hfree k ok hk hki ?_ hno
        by_cases hjk : j = k
        · subst hjk; exact hjun
        · rw [getD_set_ne true hjk] at hun; exact hun
      have key : held stop ((listed.setIfInBounds i true).setIfInBounds j true) = held stop (listed.setIfInBounds j true) := by
        rw [Array.setIfInBounds_comm _ _ (Ne.symm hji), held_ne hil]
      have hb' : b = true → held stop (listed.setIfInBounds j true) = true := fun hbt => by
        rw [held_ne (fun e => ?_)]
        · exact hb hbt
        · obtain ⟨ol, hol, ee, he, hbd, heq⟩ := hwait hbt j e
          rw [hoj] at hol
          cases hol
          exact hnot ee he hbd heq
      refine wpOp_mono (fun a' w' h3 => ⟨fun hh => h3.2.1 (by rw [key]; exact hh), ih (listed.setIfInBounds j true) a' w' hfree' (ready_mono hr (Ne.symm hji)) h3.1 (fun hh => h3.2.1 (by rw [key]; exact hh)) hb' ?_⟩) h2
      rw [Array.setIfInBounds_comm _ _ hji]
      exact h3.2.2
variable {N : Nat} {a : Act} {L : List (Nat × Value)} {w w' : World} {fuel : Nat} {listed : Array Bool}
/-- The side conditions of an operation that is taken first. -/
def takeOk (md : Region.Mode) (ops : Array Oper) (stop : Option Nat) (b : Bool) (listed : Array Bool) (i : Nat) : Bool :=
  Region.noSelect ops && Region.free md ops listed i && (Region.ready md ops listed).contains i && (stop != some i) &&
  (!b || ((match stop with | none => true | some l => ((ops[l]?).map fun ol => ol.after.any fun e => Region.binds md e && e.on == i).getD false) && held stop listed))
theorem ax_any {b : Bool} (F : Has N a L) {i d : Nat} {oi : Oper} {v : Value} (hi : ops[i]? = some oi) (hd : oi.dst = some d) (hN : d < N) (hk : takeOk md ops stop b listed i = true)
    (hQ : ∀ c a w, Q (.panic c) (a.put oi.dst v) w → Q (.panic c) a w) (hy : YieldsIf P ops (needs b T) oi v a) (hT : held stop listed = true → T w)
    (h : ∀ a2, Has N a2 ((d, v) :: L) → wpAnyX P md ops Q T stop fuel (listed.setIfInBounds i true) a2 w) : wpAnyX P md ops Q T stop (fuel + 1) listed a w := by
  simp only [takeOk, Bool.and_eq_true, Bool.or_eq_true, Bool.not_eq_true'] at hk
  obtain ⟨⟨⟨⟨k1, k2⟩, k3⟩, k4⟩, k5⟩ := hk
  refine anyX_first hi (by simpa using k4) (fun hb l hl => ?_) (Region.noSelect_spec k1) hQ fuel listed a w (Region.free_spec hi k2) (by simpa using k3) hy hT (fun hb => ?_) (by rw [hd]; exact h _ (F.put hN v))
  · rcases k5 with k5 | k5
    · rw [hb] at k5; cases k5
    · subst hl
      have k6 := k5.1
      cases ho : ops[l]? with
      | none => simp [ho] at k6
      | some ol =>
        simp only [ho, Option.map_some, Option.getD_some] at k6
        obtain ⟨e, he, hbd⟩ := Array.any_eq_true'.1 k6
        simp only [Bool.and_eq_true, beq_iff_eq] at hbd
        exact ⟨ol, rfl, e, he, hbd.1, hbd.2⟩
  · rcases k5 with k5 | k5
    · rw [hb] at k5; cases k5
    · exact k5.2
/-- A plain operation, whatever the world. -/
theorem ax_val (F : Has N a L) {i d : Nat} {oi : Oper} {v : Value} (hi : ops[i]? = some oi) (hd : oi.dst = some d) (hN : d < N) (hk : takeOk md ops stop false listed i = true)
    (hQ : ∀ c a w, Q (.panic c) (a.put oi.dst v) w → Q (.panic c) a w) (hw : Region.wanted oi (yielded ops a.tmps) = true) (hr : ∀ w, (execOp a.eval oi).run P w = .ok (.value v) w) (hT : held stop listed = true → T w)
    (h : ∀ a2, Has N a2 ((d, v) :: L) → wpAnyX P md ops Q T stop fuel (listed.setIfInBounds i true) a2 w) : wpAnyX P md ops Q T stop (fuel + 1) listed a w :=
  ax_any (b := false) F hi hd hN hk hQ (.inl ⟨hw, fun w _ => hr w⟩) hT h
/-- An operation that reads. -/
theorem ax_read (F : Has N a L) {i d : Nat} {oi : Oper} {v : Value} (hi : ops[i]? = some oi) (hd : oi.dst = some d) (hN : d < N) (hk : takeOk md ops stop true listed i = true)
    (hQ : ∀ c a w, Q (.panic c) (a.put oi.dst v) w → Q (.panic c) a w) (hw : Region.wanted oi (yielded ops a.tmps) = true) (hr : ∀ w, T w → (execOp a.eval oi).run P w = .ok (.value v) w) (hT : held stop listed = true → T w)
    (h : ∀ a2, Has N a2 ((d, v) :: L) → wpAnyX P md ops Q T stop fuel (listed.setIfInBounds i true) a2 w) : wpAnyX P md ops Q T stop (fuel + 1) listed a w :=
  ax_any (b := true) F hi hd hN hk hQ (.inl ⟨hw, fun w hw => hr w (hw rfl)⟩) hT h
theorem ax_no (F : Has N a L) {i d : Nat} {oi : Oper} (hi : ops[i]? = some oi) (hd : oi.dst = some d) (hN : d < N) (hk : takeOk md ops stop false listed i = true)
    (hQ : ∀ c a w, Q (.panic c) (a.put oi.dst undef) w → Q (.panic c) a w) (hw : Region.wanted oi (yielded ops a.tmps) = false) (hT : held stop listed = true → T w)
    (h : ∀ a2, Has N a2 ((d, undef) :: L) → wpAnyX P md ops Q T stop fuel (listed.setIfInBounds i true) a2 w) : wpAnyX P md ops Q T stop (fuel + 1) listed a w :=
  ax_any (b := false) F hi hd hN hk hQ (.inr ⟨hw, rfl⟩) hT h
/-- One operation alone may come up: what then is to be shown. -/
theorem ax_only {i : Nat} (hr : Region.ready md ops listed = [i]) (h : wpOp P ops Q i (fun a' w' => (held stop (listed.setIfInBounds i true) = true → T w') ∧ wpAnyX P md ops Q T stop fuel (listed.setIfInBounds i true) a' w') a w) : wpAnyX P md ops Q T stop (fuel + 1) listed a w := by
  refine ⟨fun h0 => (by rw [hr] at h0; cases h0), fun j hj => ?_⟩
  rw [hr] at hj
  obtain rfl : j = i := by simpa using hj
  exact h
theorem ax_pair {i j : Nat} (hr : Region.ready md ops listed = [i, j])
    (h1 : wpOp P ops Q i (fun a' w' => (held stop (listed.setIfInBounds i true) = true → T w') ∧ wpAnyX P md ops Q T stop fuel (listed.setIfInBounds i true) a' w') a w)
    (h2 : wpOp P ops Q j (fun a' w' => (held stop (listed.setIfInBounds j true) = true → T w') ∧ wpAnyX P md ops Q T stop fuel (listed.setIfInBounds j true) a' w') a w) : wpAnyX P md ops Q T stop (fuel + 1) listed a w := by
  refine ⟨fun h0 => (by rw [hr] at h0; cases h0), fun k hk => ?_⟩
  rw [hr] at hk
  simp only [List.mem_cons, List.not_mem_nil, or_false] at hk
  rcases hk with rfl | rfl
  · exact h1
  · exact h2
theorem ax_three {i j k : Nat} (hr : Region.ready md ops listed = [i, j, k])
    (h1 : wpOp P ops Q i (fun a' w' => (held stop (listed.setIfInBounds i true) = true → T w') ∧ wpAnyX P md ops Q T stop fuel (listed.setIfInBounds i true) a' w') a w)
    (h2 : wpOp P ops Q j (fun a' w' => (held stop (listed.setIfInBounds j true) = true → T w') ∧ wpAnyX P md ops Q T stop fuel (listed.setIfInBounds j true) a' w') a w)
    (h3 : wpOp P ops Q k (fun a' w' => (held stop (listed.setIfInBounds k true) = true → T w') ∧ wpAnyX P md ops Q T stop fuel (listed.setIfInBounds k true) a' w') a w) : wpAnyX P md ops Q T stop (fuel + 1) listed a w := by
  refine ⟨fun h0 => (by rw [hr] at h0; cases h0), fun n hn => ?_⟩
  rw [hr] at hn
  simp only [List.mem_cons, List.not_mem_nil, or_false] at hn
  rcases hn with rfl | rfl | rfl
  · exact h1
  · exact h2
  · exact h3
theorem op_new {i d : Nat} {o : Oper} {v : Value} {K : Act → World → Prop} (F : Has N a L) (hi : ops[i]? = some o) (hd : o.dst = some d) (hN : d < N) (hw : Region.wanted o (yielded ops a.tmps) = true) (hr : (execOp a.eval o).run P w = .ok (.value v) w')
    (h : ∀ a2 w2, Has N a2 ((d, v) :: L) → w2 = w' → K a2 w2) : wpOp P ops Q i K a w := by
  unfold wpOp
  simp only [hi, hw, if_true, Oper.wp, hr, Oper.upon, hd]
  exact .inl (h _ _ (F.put hN v) rfl)
theorem op_val {i d : Nat} {o : Oper} {v : Value} {K : Act → World → Prop} (F : Has N a L) (hi : ops[i]? = some o) (hd : o.dst = some d) (hN : d < N) (hw : Region.wanted o (yielded ops a.tmps) = true) (hr : (execOp a.eval o).run P w = .ok (.value v) w)
    (h : ∀ a2, Has N a2 ((d, v) :: L) → K a2 w) : wpOp P ops Q i K a w :=
  op_new F hi hd hN hw hr fun a2 w2 F2 e => by subst e; exact h a2 F2
theorem op_to {i : Nat} {o : Oper} {K : Act → World → Prop} (hi : ops[i]? = some o) (hd : o.dst = none) (hw : Region.wanted o (yielded ops a.tmps) = true) (hr : (execOp a.eval o).run P w = .ok .skip w')
    (h : ∀ w2, w2 = w' → K a w2) : wpOp P ops Q i K a w := by
  unfold wpOp
  simp only [hi, hw, if_true, Oper.wp, hr, Oper.upon, hd, Act.put]
  exact .inl (h _ rfl)
theorem op_call {i d : Nat} {o : Oper} {f : FuncId} {args : Array Value} {R : Ending → World → Prop} {K : Act → World → Prop} (F : Has N a L) (hi : ops[i]? = some o) (hd : o.dst = some d) (hN : d < N) (hw : Region.wanted o (yielded ops a.tmps) = true)
    (hr : (execOp a.eval o).run P w = .ok (.enter f args) w) (hc : Calls P f args w R) (h : ∀ e w', R e w' → ∃ v, e = .returned v ∧ ∀ a2, Has N a2 ((d, v) :: L) → K a2 w') : wpOp P ops Q i K a w := by
  unfold wpOp
  simp only [hi, hw, if_true, Oper.wp, hr, Oper.upon]
  refine .inl (hc.mono fun e w' hR => ?_)
  obtain ⟨v, rfl, h1⟩ := h e w' hR
  show K _ _
  rw [hd]
  exact h1 _ (F.put hN v)
theorem ax_done (hr : Region.ready md ops listed = []) (h : Q .normal a w) : ∀ fuel, wpAnyX P md ops Q T stop fuel listed a w
  | 0 => ⟨hr, h⟩
  | _ + 1 => ⟨fun _ => h, by rw [hr]; simp⟩
theorem region_x {l : List Oper} {id : Nat} {w : World} (T : World → Prop) (stop : Option Nat) (hm : P.follows .mixedOrders = true)
    (h : ∀ W : World, W.heap = w.heap → Ext [] w W → wpAnyX P .any l.toArray Q T stop l.toArray.size (Array.replicate l.toArray.size false) a W) : (Code.region id l.toArray true).wp P Q a w :=
  wp_region_any hm (anyX_any _ _ _ _ (h _ rfl ⟨rfl, rfl, rfl, Nat.le_refl _, fun _ _ _ => rfl⟩))
end
/-! Appends. -/
section
variable {P : Program} {o : Oper} {w : World} {a : Act}
theorem append_run {s x : Operand} {t : TypeId} (ho : o.op = .call { callee := .builtin .append, args := #[s, x], argTypes := #[t, t] })
    (base : Nat) {e : TypeId} {size bytes : Nat} (ht : P.underlying t = some (.slice e)) (hi : (P.info? e).map (fun i => (i.size, i.bytes, i.zero.map (·.cells.size))) = some (size, bytes, some size)) (hsz : 0 < size)
    {v : Value} {n : Nat} {xs : List Value} (hs : a.eval s = v) (hown : w.ownsRow base e size v n xs)
    {g c : Nat} {T : TypeId} {fz : Nat × Nat} {news : List Value} (hx : a.eval x = .slice (some ⟨g, 0, none⟩) 1 c) (hg : w.heap[g]? = some (.cells news.toArray T fz)) (hl : news.length = size) (h1 : ∀ u ∈ news, u.oneCell' = true)
    (hn : n ≤ 1000000) (hbytes : (n + 1) * bytes ≤ 140737488355328) (hbase : base ≤ w.heap.size) :
    ∃ v' w', (execOp a.eval o).run P w = .ok (.value v') w' ∧ w'.ownsRow base e size v' (n + 1) (xs ++ news) ∧ w.grownBy w' v.ownBlock := by
  cases hq : P.info? e with
  | none => simp [hq] at hi
  | some i =>
    simp only [hq, Option.map_some, Option.some.injEq, Prod.mk.injEq, Option.map_eq_some_iff] at hi
    obtain ⟨hi1, hi2, z, hz, hz2⟩ := hi
    obtain ⟨v', w', hr, h2, h3, -⟩ := run_append_own (P := P) w base t o.type e i z size bytes ht hq hz hi1 hi2 hz2 hsz v n xs hown ⟨g, 0, none⟩ 1 c news (by omega) (fun j u hu => by
      rw [Addr.add_lit, Nat.zero_add, cells_of_block hg]; simpa using hu) h1 (by simp only [maxLen]; omega) hbytes hbase
    refine ⟨v', w', ?_, h2, h3⟩
    unfold execOp
    simp only [ho, resolve, invoke, builtin, Sem.run_bind, Sem.run_pure, Result.andThen_ok, List.map_toArray, List.map_cons, List.map_nil, hs, hx, hr]
end
/-! Statements. -/
section
variable {P : Program} {Q : Exit → Act → World → Prop} {N : Nat} {a : Act} {L : List (Nat × Value)} {w : World}
theorem cd_T (F : Has N a L) {k : Nat} {x y : Code} (hc : L.lookup k = some (.bool true)) (h : x.wp P Q a w) : (Code.cond (.tmp k) x y).wp P Q a w := wp_cond_true (F.at hc) h
theorem cd_F (F : Has N a L) {k : Nat} {x y : Code} (hc : L.lookup k = some (.bool false)) (h : y.wp P Q a w) : (Code.cond (.tmp k) x y).wp P Q a w := wp_cond_false (F.at hc) h
theorem cd_if (F : Has N a L) {k : Nat} {x y : Code} {p : Prop} [Decidable p] (hc : L.lookup k = some (.bool (decide p))) (ht : p → x.wp P Q a w) (hf : ¬ p → y.wp P Q a w) : (Code.cond (.tmp k) x y).wp P Q a w := by
  by_cases h : p
  · exact wp_cond_true (by rw [F.at hc, decide_eq_true h]) (ht h)
  · exact wp_cond_false (by rw [F.at hc, decide_eq_false h]) (hf h)
theorem cd_b (F : Has N a L) {k : Nat} {x y : Code} {b : Bool} (hc : L.lookup k = some (.bool b)) (ht : b = true → x.wp P Q a w) (hf : b = false → y.wp P Q a w) : (Code.cond (.tmp k) x y).wp P Q a w := by
  cases b
  · exact wp_cond_false (F.at hc) (hf rfl)
  · exact wp_cond_true (F.at hc) (ht rfl)
/-- A loop that counts up to M. -/
theorem lp_nat {c : Code} (M : Nat) (I : Nat → Act → World → Prop) (h0 : I 0 a w) (round : ∀ i a w, i ≤ M → I i a w → c.wp P (Exit.then (fun a' w' => i < M ∧ I (i + 1) a' w') Q) a w) : (Code.loop c).wp P Q a w := by
  intro b k cs
  have key : ∀ n i a w, n = M - i → i ≤ M → I i a w → ∃ e a' w', Q e a' w' ∧ Arrives P (lone (b.at a (.code c :: .inLoop c :: k)) cs w) b k cs e a' w' := by
    intro n
    induction n with
    | zero =>
      intro i a w hn hi hI
      obtain ⟨e, a₁, w₁, hq, harr⟩ := round i a w hi hI b (.inLoop c :: k) cs
      cases e with
      | normal => exact absurd hq.1 (by omega)
      | exit id => exact ⟨_, a₁, w₁, hq, .pass (x := .inLoop c) rfl (fun _ _ => .inl (by simp)) harr⟩
      | goto l => exact ⟨_, a₁, w₁, hq, .pass (x := .inLoop c) rfl (fun _ _ => .inl (by simp)) harr⟩
      | ret => exact ⟨_, a₁, w₁, hq, .pass (x := .inLoop c) rfl (fun _ _ => .inl (by simp)) harr⟩
      | panic ch => exact ⟨_, a₁, w₁, hq, .pass (x := .inLoop c) rfl (fun _ _ => .inl (by simp)) harr⟩
      | outgrown => exact ⟨_, a₁, w₁, hq, .pass (x := .inLoop c) rfl (fun _ _ => .inl (by simp)) harr⟩
    | succ n ih =>
      intro i a w hn hi hI
      obtain ⟨e, a₁, w₁, hq, harr⟩ := round i a w hi hI b (.inLoop c :: k) cs
      cases e with
      | normal =>
        obtain ⟨hlt, hI₁⟩ := hq
        obtain ⟨e₂, a₂, w₂, hq₂, harr₂⟩ := ih (i + 1) a₁ w₁ (by omega) hlt hI₁
        exact ⟨e₂, a₂, w₂, hq₂, .of_steps (Steps.trans harr (.one step_inLoop)) harr₂⟩
      | exit id => exact ⟨_, a₁, w₁, hq, .pass (x := .inLoop c) rfl (fun _ _ => .inl (by simp)) harr⟩
      | goto l => exact ⟨_, a₁, w₁, hq, .pass (x := .inLoop c) rfl (fun _ _ => .inl (by simp)) harr⟩
      | ret => exact ⟨_, a₁, w₁, hq, .pass (x := .inLoop c) rfl (fun _ _ => .inl (by simp)) harr⟩
      | panic ch => exact ⟨_, a₁, w₁, hq, .pass (x := .inLoop c) rfl (fun _ _ => .inl (by simp)) harr⟩
      | outgrown => exact ⟨_, a₁, w₁, hq, .pass (x := .inLoop c) rfl (fun _ _ => .inl (by simp)) harr⟩
  obtain ⟨e, a', w', hq, harr⟩ := key _ 0 a w rfl (Nat.zero_le _) h0
  exact ⟨e, a', w', hq, .of_steps (.one step_loop) harr⟩
/-- The same: J says what holds at the head, of the slots that turn and of the world; the slots of L0 do not turn. -/
theorem lp_for {c : Code} {L0 : List (Nat × Value)} (F : Has N a L0) (M : Nat) (J : Nat → List (Nat × Value) → World → Prop) (h0 : ∃ Lv, J 0 Lv w ∧ Has N a (Lv ++ L0))
    (round : ∀ i Lv a w, i ≤ M → J i Lv w → Has N a (Lv ++ L0) → c.wp P (Exit.then (fun a' w' => i < M ∧ ∃ Lv', J (i + 1) Lv' w' ∧ Has N a' (Lv' ++ L0)) Q) a w) : (Code.loop c).wp P Q a w :=
  lp_nat M (fun i a w => ∃ Lv, J i Lv w ∧ Has N a (Lv ++ L0)) h0 fun i a w hi ⟨Lv, hJ, hF⟩ => round i Lv a w hi hJ hF
/-- A loop with a measure of its own. -/
theorem lp_mu {c : Code} {L0 : List (Nat × Value)} (F : Has N a L0) {α : Type} (J : α → List (Nat × Value) → World → Prop) (mu : α → Nat) (h0 : ∃ x Lv, J x Lv w ∧ Has N a (Lv ++ L0))
    (round : ∀ x Lv a w, J x Lv w → Has N a (Lv ++ L0) → c.wp P (Exit.then (fun a' w' => ∃ y Lv', mu y < mu x ∧ J y Lv' w' ∧ Has N a' (Lv' ++ L0)) Q) a w) : (Code.loop c).wp P Q a w := by
  obtain ⟨x, Lv, hJ, hF⟩ := h0
  refine lp_nat (mu x) (fun i a w => ∃ y Lv, mu y ≤ mu x - i ∧ J y Lv w ∧ Has N a (Lv ++ L0)) ⟨x, Lv, by omega, hJ, hF⟩ fun i a w hi ⟨y, Lv, hm, hJ, hF⟩ => ?_
  refine wp_mono (round y Lv a w hJ hF) fun e a' w' q => ?_
  cases e with
  | normal =>
    obtain ⟨z, Lv', hlt, hJ', hF'⟩ := q
    exact ⟨by omega, z, Lv', by omega, hJ', hF'⟩
  | exit id => exact q
  | goto l => exact q
  | ret => exact q
  | panic ch => exact q
  | outgrown => exact q
end
end Go.Proofs.Ytholfdgebdlgjaa
namespace Go.Proofs.Ytholfdgebdlgjaa
open Go.RowKit
set_option linter.unusedVariables false
set_option linter.unusedSimpArgs false
section
variable {P : Program} {ops : Array Oper} {o : Oper} {rest : List Oper} {N : Nat} {a : Act} {L : List (Nat × Value)} {w w' : World} {v : Value}
theorem st_val {K : Act → Prop} (F : Has N a L) {d : Nat} (hd : o.dst = some d) (hN : d < N) (hw : Region.wanted o (yielded ops a.tmps) = true) (hr : (execOp a.eval o).run P w = .ok (.value v) w) (h : ∀ a2, Has N a2 ((d, v) :: L) → wpStill P ops w K rest a2) : wpStill P ops w K (o :: rest) a := by
  unfold wpStill
  simp only [hw, if_true, Oper.still, hr, Oper.stillUpon_value, hd]
  exact h _ (F.put hN v)
theorem st_no {K : Act → Prop} (F : Has N a L) {d : Nat} (hd : o.dst = some d) (hN : d < N) (hw : Region.wanted o (yielded ops a.tmps) = false) (h : ∀ a2, Has N a2 ((d, undef) :: L) → wpStill P ops w K rest a2) : wpStill P ops w K (o :: rest) a := by
  unfold wpStill
  simp only [hw, Bool.false_eq_true, if_false, hd]
  exact h _ (F.put hN undef)
theorem st_call {K : Act → Prop} (F : Has N a L) {d : Nat} {f : FuncId} {args : Array Value} (hd : o.dst = some d) (hN : d < N) (hw : Region.wanted o (yielded ops a.tmps) = true) (hr : (execOp a.eval o).run P w = .ok (.enter f args) w) (hc : Calls P f args w fun e w' => e = .returned v ∧ w = w')
    (h : ∀ a2, Has N a2 ((d, v) :: L) → wpStill P ops w K rest a2) : wpStill P ops w K (o :: rest) a := by
  unfold wpStill
  simp only [hw, if_true, Oper.still, hr, Oper.stillUpon, hd]
  exact ⟨trivial, v, hc.mono fun e w' h => ⟨h.1, h.2.symm⟩, h _ (F.put hN v)⟩
end
theorem gone {T : World → Prop} {w : World} {b : Bool} (h : b = false) : b = true → T w := fun e => by rw [h] at e; cases e
section
variable {P : Program} {ρ : Operand → Value} {o : Oper} {w : World}
theorem pr0 : ([] : List (Nat × Operand)).map (fun p => (p.1, ρ p.2)) = [] := rfl
theorem prS {i : Nat} {x : Operand} {v : Value} {l : List (Nat × Operand)} {vs : List (Nat × Value)} (h : ρ x = v) (k : l.map (fun p => (p.1, ρ p.2)) = vs) : ((i, x) :: l).map (fun p => (p.1, ρ p.2)) = (i, v) :: vs := by simp [h, k]
theorem R_buildV {t : TypeId} {l : List (Nat × Operand)} {vs : List (Nat × Value)} {cells : Array Value} (ho : o.op = .build t l.toArray) (hp : l.map (fun p => (p.1, ρ p.2)) = vs) (h : P.built t vs = some cells) : (execOp ρ o).run P w = .ok (.value (.agg cells)) w :=
  R_build' ho (by
    have : (l.toArray.map fun (i, x) => (i, ρ x)).toList = vs := by rw [← hp]; simp
    rw [this]; exact h)
theorem R_buildSliceV {t e : TypeId} {n size : Nat} {l : List (Nat × Operand)} {vs : List (Nat × Value)} {z : Value} {cells : Array Value} (ho : o.op = .buildSlice t n l.toArray) (hp : l.map (fun p => (p.1, ρ p.2)) = vs) (hu : P.underlying t = some (.slice e)) (hs : (P.info? e).map (·.size) = some size) (hn : n * size ≤ 2 ^ 24) (hn0 : n * size ≠ 0) (hz : ∀ w, (zeroValue e).run P w = .ok z w)
    (hf : Instr.fill (fun i => some (i * size, size)) ((Array.range (n * size)).map (z.cells[· % z.cells.size]!)) vs = some cells) :
    (execOp ρ o).run P w = .ok (.value (.slice (some ⟨w.heap.size, 0, none⟩) n n)) (w.alloc (.cells cells e)) :=
  R_buildSlice ho hu hs hn hn0 hz (by
    have : (l.toArray.map fun (i, x) => (i, ρ x)).toList = vs := by rw [← hp]; simp
    rw [this]; exact hf)
theorem mapsN {l : List Operand} {vs : List Value} (h : l.map ρ = vs) : l.toArray.map ρ = vs.toArray := by subst h; simp
theorem mp0 : ([] : List Operand).map ρ = [] := rfl
theorem mpS {x : Operand} {v : Value} {l : List Operand} {vs : List Value} (h : ρ x = v) (k : l.map ρ = vs) : (x :: l).map ρ = v :: vs := by simp [h, k]
theorem R_callV {f : FuncId} {l : List Operand} {ts : Array TypeId} {vs : List Value} (ho : o.op = .call { callee := .value (.func f), args := l.toArray, argTypes := ts }) (hf : ρ (.func f) = .func (.func f) #[] #[]) (hc : ∀ args w, (callFunc f args).run P w = .ok (.enter f args) w) (ha : l.map ρ = vs) : (execOp ρ o).run P w = .ok (.enter f vs.toArray) w :=
  R_call ho hf hc (mapsN ha)
end
section
variable {P : Program} {fn : Func} {R : Ending → World → Prop} {N : Nat} {a : Act} {L : List (Nat × Value)} {w : World}
theorem rt_v (F : Has N a L) {v : Value} (hr : (results fn a.tmps).run P w = .ok v w) (h : R (.returned v) w) : bodyPost P fn R .ret a w := bodyPost_ret hr F.ds h
theorem rt_vn (F : Has N a L) {v : Value} (hr : (results fn a.tmps).run P w = .ok v w) (h : R (.returned v) w) : bodyPost P fn R .normal a w := bodyPost_end hr F.ds h
theorem rs_0 (hr : fn.results = #[]) : (results fn a.tmps).run P w = .ok (.tuple #[]) w := results_none hr _ _ _
theorem rs_1 (F : Has N a L) {t : Nat} {v : Value} (hr : fn.results = #[.tmp t]) (hv : L.lookup t = some v) : (results fn a.tmps).run P w = .ok v w := by
  rw [results_tmp hr, F.get _ _ hv]
theorem rs_2 (F : Has N a L) {t s : Nat} {v u : Value} (hr : fn.results = #[.tmp t, .tmp s]) (hv : L.lookup t = some v) (hu : L.lookup s = some u) : (results fn a.tmps).run P w = .ok (.tuple #[v, u]) w := by
  rw [results_tmp2 hr, F.get _ _ hv, F.get _ _ hu]
theorem rs_3 (F : Has N a L) {t s r : Nat} {v u x : Value} (hr : fn.results = #[.tmp t, .tmp s, .tmp r]) (hv : L.lookup t = some v) (hu : L.lookup s = some u) (hx : L.lookup r = some x) : (results fn a.tmps).run P w = .ok (.tuple #[v, u, x]) w := by
  have h1 := F.get _ _ hv
  have h2 := F.get _ _ hu
  have h3 := F.get _ _ hx
  simp only [Array.getD_eq_getD_getElem?] at h1 h2 h3
  simp [results, hr, h1, h2, h3]
theorem rs_c (F : Has N a L) {t ty b : Nat} {cs : Array Value} {T : TypeId} {d : TypeDesc} {fz : Nat × Nat} (hr : fn.results = #[.cell t ty]) (ht : L.lookup t = some (.pointer (some ⟨b, 0, none⟩))) (hd : P.underlying ty = some d) (ha : d.isRow = true) (hi : (P.info? ty).map (·.size) = some cs.size) (H : w.heap[b]? = some (.cells cs T fz)) : (results fn a.tmps).run P w = .ok (.agg cs) w := by
  have hl := load_block (P := P) hd ha hi H
  have h1 := F.get _ _ ht
  simp only [Array.getD_eq_getD_getElem?] at h1
  simp [results, hr, h1, asAddr, hl, Result.andThen]
theorem rs_ct (F : Has N a L) {t ty b s : Nat} {cs : Array Value} {T : TypeId} {d : TypeDesc} {fz : Nat × Nat} {v : Value} (hr : fn.results = #[.cell t ty, .tmp s]) (ht : L.lookup t = some (.pointer (some ⟨b, 0, none⟩))) (hv : L.lookup s = some v) (hd : P.underlying ty = some d) (ha : d.isRow = true) (hi : (P.info? ty).map (·.size) = some cs.size) (H : w.heap[b]? = some (.cells cs T fz)) : (results fn a.tmps).run P w = .ok (.tuple #[.agg cs, v]) w := by
  have hl := load_block (P := P) hd ha hi H
  have h1 := F.get _ _ ht
  have h2 := F.get _ _ hv
  simp only [Array.getD_eq_getD_getElem?] at h1 h2
  simp [results, hr, h1, h2, asAddr, hl, Result.andThen]
end
section
variable {P : Program} {Q : Exit → Act → World → Prop} {N : Nat} {a : Act} {L : List (Nat × Value)} {w : World}
theorem cd_Tb (F : Has N a L) {k : Nat} {x y : Code} {b : Bool} (hc : L.lookup k = some (.bool b)) (hb : b = true) (h : x.wp P Q a w) : (Code.cond (.tmp k) x y).wp P Q a w := wp_cond_true (by rw [F.at hc, hb]) h
theorem cd_Fb (F : Has N a L) {k : Nat} {x y : Code} {b : Bool} (hc : L.lookup k = some (.bool b)) (hb : b = false) (h : y.wp P Q a w) : (Code.cond (.tmp k) x y).wp P Q a w := wp_cond_false (by rw [F.at hc, hb]) h
end
end Go.Proofs.Ytholfdgebdlgjaa
namespace Go.Proofs.Ytholfdgebdlgjaa
open Go.RowKit
set_option linter.unusedVariables false
set_option linter.unusedSimpArgs false
theorem ev_c (a : Act) (v : Value) : a.eval (.const v) = v := rfl
theorem Has.re {N : Nat} {a : Act} {L : List (Nat × Value)} (F : Has N a L) {k : Nat} {v v' : Value} (e : L.lookup k = some v) (h : v = v') : Has N a ((k, v') :: L) := ⟨F.ds, F.sz, fun j u hj => by
  simp only [List.lookup] at hj
  split at hj
  · rename_i hk
    obtain rfl : j = k := by simpa using hk
    cases hj
    rw [← h]; exact F.get _ _ e
  · exact F.get j u hj⟩
section
variable {P : Program} {ρ : Operand → Value} {o : Oper} {w : World}
theorem R_eqlD {x y : Operand} {t t' : TypeId} {k : IntKind} {n m : Int} (ho : o.op = .binOp .eql t x y t') (hx : ρ x = .int k n) (hy : ρ y = .int k m) : (execOp ρ o).run P w = .ok (.value (.bool (decide (n = m)))) w := R_eqlB ho hx hy rfl
theorem R_neqD {x y : Operand} {t t' : TypeId} {k : IntKind} {n m : Int} (ho : o.op = .binOp .neq t x y t') (hx : ρ x = .int k n) (hy : ρ y = .int k m) : (execOp ρ o).run P w = .ok (.value (.bool (decide (¬ (n = m))))) w := R_neqB ho hx hy (by simp)
theorem R_pickT {c x y : Operand} {v : Value} (ho : o.op = .pick c x y) (hc : ρ c = .bool true) (hx : ρ x = v) : (execOp ρ o).run P w = .ok (.value v) w := R_pick ho hc (by simpa using hx)
theorem R_pickF {c x y : Operand} {v : Value} (ho : o.op = .pick c x y) (hc : ρ c = .bool false) (hy : ρ y = v) : (execOp ρ o).run P w = .ok (.value v) w := R_pick ho hc (by simpa using hy)
theorem R_notD {x : Operand} {t : TypeId} {p : Prop} [Decidable p] (ho : o.op = .unOp .not t x) (hx : ρ x = .bool (decide p)) : (execOp ρ o).run P w = .ok (.value (.bool (decide (¬ p)))) w := by
  rw [R_not ho hx]
  simp
theorem R_quoP {x y : Operand} {t t' : TypeId} {n m : Int} (ho : o.op = .binOp .quo t x y t') (hx : ρ x = .int .i64 n) (hy : ρ y = .int .i64 m) (h0 : 0 ≤ n) (h1 : n ≤ 9223372036854775807) (hm : 0 < m) : (execOp ρ o).run P w = .ok (.value (.int .i64 (n / m))) w := by
  have hne : m ≠ 0 := by omega
  have hd : n.tdiv m = n / m := Int.tdiv_eq_ediv_of_nonneg h0
  have hw := wrap_id (n := n / m) (by have := Int.ediv_nonneg h0 (Int.le_of_lt hm); omega) (by have := Int.ediv_le_self m h0; omega)
  unfold execOp
  simp [ho, hx, hy, binOp, Op.intDiv, eqGuard, hne, hd, hw, go_sem]
theorem R_remP {x y : Operand} {t t' : TypeId} {n m : Int} (ho : o.op = .binOp .rem t x y t') (hx : ρ x = .int .i64 n) (hy : ρ y = .int .i64 m) (h0 : 0 ≤ n) (hm : 0 < m) : (execOp ρ o).run P w = .ok (.value (.int .i64 (n % m))) w := by
  rw [R_rem ho hx hy (by omega), Int.tmod_eq_emod_of_nonneg h0]
end
/-- Each element of a slice lies where the slice begins, and stays there. -/
def SlAt (X : List Nat) (w : World) (a : Option Addr) (sz n : Nat) (row : Nat → List Value) : Prop :=
  ∀ i, i < n → ∃ b off, (∀ m c, Value.slice a m c = .slice (some ⟨b, off, none⟩) m c) ∧ ∀ W, Ext X w W → W.rangeAt b (off + i * sz) (row i)
theorem slAt_of_rows {α : Type} {w : World} {a : Option Addr} {n c sz : Nat} {xs : List α} {row : α → List Value} (h : IsRows w (.slice a n c) sz (xs.map row)) (d : α) : SlAt [] w a sz xs.length (fun i => row (xs.getD i d)) := fun i hi => by
  obtain ⟨b, off, h1, h2⟩ := h.range rfl (by intro e; have := congrArg List.length e; simp at this; rw [this] at hi; simp at hi)
  obtain ⟨hlt, h2⟩ := h2
  refine ⟨b, off, fun m c => by rw [h1], fun W E j v hv => ?_⟩
  rw [E.cell (a := ⟨b, off + i * sz + j, none⟩) hlt (by simp)]
  exact h2 i (row (xs.getD i d)) (by simp [hi]) j v hv
end Go.Proofs.Ytholfdgebdlgjaa

namespace Go.Proofs.Ytholfdgebdlgjaa
open Go.RowKit
set_option linter.unusedVariables false
/-! The same steps, their side conditions found by themselves. -/
section
variable {P : Program} {ops : Array Oper} {Q : Exit → Act → World → Prop} {o : Oper} {rest : List Oper} {N : Nat} {a : Act} {L : List (Nat × Value)} {w w' : World} {v : Value}
theorem Has.vl (F : Has N a L) {d : Nat} (hr : (execOp a.eval o).run P w = .ok (.value v) w) (h : ∀ a2, Has N a2 ((d, v) :: L) → wpList P ops Q rest a2 w) (hd : o.dst = some d := by rfl) (hN : d < N := by decide) (hw : Region.wanted o (yielded ops a.tmps) = true := by rfl) : wpList P ops Q (o :: rest) a w :=
  sq_val F hd hN hw hr h
theorem Has.mv (F : Has N a L) {d k : Nat} (h : ∀ a2, Has N a2 ((d, v) :: L) → wpList P ops Q rest a2 w) (ho : o.op = .move (.tmp k) := by rfl) (hl : L.lookup k = some v := by rfl) (hd : o.dst = some d := by rfl) (hN : d < N := by decide) (hw : Region.wanted o (yielded ops a.tmps) = true := by rfl) : wpList P ops Q (o :: rest) a w :=
  sq_val F hd hN hw (R_move ho (F.at hl)) h
theorem Has.as (F : Has N a L) {d k : Nat} (h : ∀ a2, Has N a2 ((d, v) :: L) → wpList P ops Q rest a2 w) (ho : o.op = .assign (.tmp k) := by rfl) (hl : L.lookup k = some v := by rfl) (hd : o.dst = some d := by rfl) (hN : d < N := by decide) (hw : Region.wanted o (yielded ops a.tmps) = true := by rfl) : wpList P ops Q (o :: rest) a w :=
  sq_val F hd hN hw (R_assign ho (F.at hl)) h
theorem Has.sv {K : Act → Prop} (F : Has N a L) {d : Nat} (hr : (execOp a.eval o).run P w = .ok (.value v) w) (h : ∀ a2, Has N a2 ((d, v) :: L) → wpStill P ops w K rest a2) (hd : o.dst = some d := by rfl) (hN : d < N := by decide) (hw : Region.wanted o (yielded ops a.tmps) = true := by rfl) : wpStill P ops w K (o :: rest) a :=
  st_val F hd hN hw hr h
theorem Has.smv {K : Act → Prop} (F : Has N a L) {d k : Nat} (h : ∀ a2, Has N a2 ((d, v) :: L) → wpStill P ops w K rest a2) (ho : o.op = .move (.tmp k) := by rfl) (hl : L.lookup k = some v := by rfl) (hd : o.dst = some d := by rfl) (hN : d < N := by decide) (hw : Region.wanted o (yielded ops a.tmps) = true := by rfl) : wpStill P ops w K (o :: rest) a :=
  st_val F hd hN hw (R_move ho (F.at hl)) h
variable {md : Region.Mode} {T : World → Prop} {stop : Option Nat} {fuel : Nat} {listed : Array Bool}
theorem Has.x (F : Has N a L) {i d : Nat} {oi : Oper} (hi : ops[i]? = some oi) (hr : ∀ w, (execOp a.eval oi).run P w = .ok (.value v) w) (hT : held stop listed = true → T w) (h : ∀ a2, Has N a2 ((d, v) :: L) → wpAnyX P md ops Q T stop fuel (listed.setIfInBounds i true) a2 w)
    (hd : oi.dst = some d := by rfl) (hN : d < N := by decide) (hk : takeOk md ops stop false listed i = true := by kernel_rfl) (hQ : ∀ c a w, Q (.panic c) (a.put oi.dst v) w → Q (.panic c) a w := by exact fun _ _ _ h => h) (hw : Region.wanted oi (yielded ops a.tmps) = true := by rfl) : wpAnyX P md ops Q T stop (fuel + 1) listed a w :=
  ax_val F hi hd hN hk hQ hw hr hT h
theorem Has.xr (F : Has N a L) {i d : Nat} {oi : Oper} (hi : ops[i]? = some oi) (hr : ∀ w, T w → (execOp a.eval oi).run P w = .ok (.value v) w) (hT : held stop listed = true → T w) (h : ∀ a2, Has N a2 ((d, v) :: L) → wpAnyX P md ops Q T stop fuel (listed.setIfInBounds i true) a2 w)
    (hd : oi.dst = some d := by rfl) (hN : d < N := by decide) (hk : takeOk md ops stop true listed i = true := by kernel_rfl) (hQ : ∀ c a w, Q (.panic c) (a.put oi.dst v) w → Q (.panic c) a w := by exact fun _ _ _ h => h) (hw : Region.wanted oi (yielded ops a.tmps) = true := by rfl) : wpAnyX P md ops Q T stop (fuel + 1) listed a w :=
  ax_read F hi hd hN hk hQ hw hr hT h
end
end Go.Proofs.Ytholfdgebdlgjaa
/-! Slices of one's own: appends of many elements, stores into elements; empty literals. No conditions. -/
namespace Go.Proofs.Ytholfdgebdlgjaa
open Go.RowKit
set_option linter.unusedVariables false
set_option linter.unusedSimpArgs false
/-- A slice that is appended: its cells, one behind the other. -/
structure SrcAt (w : World) (sz : Nat) (sa : Option Addr) (m : Nat) (news : List Value) : Prop where
  len : news.length = m * sz
  nil : sa = none → m = 0
  cells : ∀ a0, sa = some a0 → ∀ (j : Nat) (v : Value), news[j]? = some v → w.cell? (a0.add j) = some v
  one : ∀ u ∈ news, u.oneCell' = true
theorem srcAt_of_rows {α : Type} {w : World} {a : Option Addr} {n c sz : Nat} {xs : List α} {row : α → List Value} (h : IsRows w (.slice a n c) sz (xs.map row)) (h0 : 0 < sz) (hr : ∀ x, (row x).length = sz) (h1 : ∀ x, ∀ u ∈ row x, u.oneCell' = true) : SrcAt w sz a n ((xs.map row).flatten) := by
  have hn : n = xs.length := by
    obtain ⟨a', c', hv, -⟩ := h
    cases hv
    simp
  refine ⟨by rw [flat_len hr, hn], fun ha => ?_, rows_flat h0 hr h, fun u hu => ?_⟩
  · by_cases hne : xs.map row = []
    · rw [hn]; simpa using hne
    · obtain ⟨b, off, h1, -⟩ := h.range rfl hne
      rw [ha] at h1; cases h1
  · obtain ⟨l, hl, hu⟩ := List.mem_flatten.1 hu
    obtain ⟨x, -, rfl⟩ := List.mem_map.1 hl
    exact h1 x u hu
section
variable {P : Program} {ops : Array Oper} {Q : Exit → Act → World → Prop} {o : Oper} {rest : List Oper} {N : Nat} {a : Act} {L : List (Nat × Value)} {w : World}
theorem sq_some {C : Value → World → Prop} (F : Has N a L) {d : Nat} (hd : o.dst = some d) (hN : d < N) (hw : Region.wanted o (yielded ops a.tmps) = true) (hr : ∃ v w', (execOp a.eval o).run P w = .ok (.value v) w' ∧ C v w') (h : ∀ a2 v w2, Has N a2 ((d, v) :: L) → C v w2 → wpList P ops Q rest a2 w2) : wpList P ops Q (o :: rest) a w := by
  obtain ⟨v, w', h1, h2⟩ := hr
  exact sq_new F hd hN hw h1 fun a2 w2 F2 e => by subst e; exact h a2 v w2 F2 h2
theorem op_some {C : Value → World → Prop} {i d : Nat} {K : Act → World → Prop} (F : Has N a L) (hi : ops[i]? = some o) (hd : o.dst = some d) (hN : d < N) (hw : Region.wanted o (yielded ops a.tmps) = true) (hr : ∃ v w', (execOp a.eval o).run P w = .ok (.value v) w' ∧ C v w')
    (h : ∀ a2 v w2, Has N a2 ((d, v) :: L) → C v w2 → K a2 w2) : wpOp P ops Q i K a w := by
  obtain ⟨v, w', h1, h2⟩ := hr
  exact op_new F hi hd hN hw h1 fun a2 w2 F2 e => by subst e; exact h a2 v w2 F2 h2
end
theorem appends_run {P : Program} {o : Oper} {w : World} {a : Act} {s x : Operand} {t : TypeId} (ho : o.op = .call { callee := .builtin .append, args := #[s, x], argTypes := #[t, t] })
    (base : Nat) {e : TypeId} {size bytes : Nat} (ht : P.underlying t = some (.slice e)) (hi : (P.info? e).map (fun i => (i.size, i.bytes, i.zero.map (·.cells.size))) = some (size, bytes, some size)) (hsz : 0 < size)
    {v : Value} {n : Nat} {xs : List Value} (hs : a.eval s = v) (hown : w.ownsRow base e size v n xs)
    {sa : Option Addr} {m c : Nat} {news : List Value} (hx : a.eval x = .slice sa m c) (hsrc : SrcAt w size sa m news)
    (hn : n + m ≤ 1000000) (hbytes : (n + m) * bytes ≤ 140737488355328) (hbase : base ≤ w.heap.size) :
    ∃ v' w', (execOp a.eval o).run P w = .ok (.value v') w' ∧ w'.ownsRow base e size v' (n + m) (xs ++ news) ∧ w.grownBy w' v.ownBlock := by
  cases hq : P.info? e with
  | none => simp [hq] at hi
  | some i =>
    simp only [hq, Option.map_some, Option.some.injEq, Prod.mk.injEq, Option.map_eq_some_iff] at hi
    obtain ⟨hi1, hi2, z, hz, hz2⟩ := hi
    have key : ∃ v' w', (Builtin.append_ #[t, t] o.type #[v, .slice sa m c]).run P w = .ok v' w' ∧ w'.ownsRow base e size v' (n + m) (xs ++ news) ∧ w.grownBy w' v.ownBlock := by
      cases sa with
      | none =>
        have hm := hsrc.nil rfl
        subst hm
        have hnl := hsrc.len
        rw [Nat.zero_mul] at hnl
        obtain rfl := List.eq_nil_of_length_eq_zero hnl
        refine ⟨v, w, ?_, by simpa using hown, ⟨rfl, rfl, rfl, Nat.le_refl _, fun _ _ _ => rfl⟩⟩
        rcases hown.2 with ⟨rfl, rfl⟩ | ⟨g, cap, cur, rfl, hbg, hg, hnc, hcm, hcs, htake⟩
        · simp [Builtin.append_, run_underlying ht, sizeOf, typeInfo, hq, Builtin.lenOf, Builtin.firstCells, loadCells, loadCellsFrom]
        · simp [Builtin.append_, run_underlying ht, sizeOf, typeInfo, hq, Builtin.lenOf, Builtin.firstCells, loadCells, loadCellsFrom, hnc, storeCells]
      | some ad =>
        obtain ⟨v', w', hr, h2, h3, -⟩ := run_append_own (P := P) w base t o.type e i z size bytes ht hq hz hi1 hi2 hz2 hsz v n xs hown ad m c news hsrc.len (hsrc.cells ad rfl) hsrc.one (by simp only [maxLen]; omega) hbytes hbase
        exact ⟨v', w', hr, h2, h3⟩
    obtain ⟨v', w', hr, h2, h3⟩ := key
    refine ⟨v', w', ?_, h2, h3⟩
    unfold execOp
    simp only [ho, resolve, invoke, builtin, Sem.run_bind, Sem.run_pure, Result.andThen_ok, List.map_toArray, List.map_cons, List.map_nil, hs, hx, hr]
theorem R_buildSlice0 {P : Program} {ρ : Operand → Value} {o : Oper} {w : World} {t e : TypeId} {size : Nat} (ho : o.op = .buildSlice t 0 #[]) (hu : P.underlying t = some (.slice e)) (hs : (P.info? e).map (·.size) = some size) :
    (execOp ρ o).run P w = .ok (.value (.slice (some ⟨w.heap.size, 0, none⟩) 0 0)) (w.alloc (.cells #[] e)) := by
  unfold execOp
  cases hq : P.info? e with
  | none => simp [hq] at hs
  | some i =>
    simp [ho, Instr.buildSlice, run_underlying hu, sizeOf, typeInfo, hq, newRow, newObj, go_sem, Instr.fill]
    rfl
theorem owns_empty {w : World} {base b size : Nat} {e : TypeId} (h : w.heap[b]? = some (.cells #[] e (0, 0))) (hb : base ≤ b) : w.ownsRow base e size (.slice (some ⟨b, 0, none⟩) 0 0) 0 [] :=
  ⟨by simp, .inr ⟨b, 0, #[], rfl, hb, h, Nat.le_refl _, Nat.zero_le _, by simp, by simp⟩⟩
/-- An element of a slice of one's own is there, and may be written. -/
theorem owns_at {w : World} {base n c size : Nat} {e : TypeId} {a : Option Addr} {xs : List Value} (h : w.ownsRow base e size (.slice a n c) n xs) {xb xo : Nat} (xa : ∀ m c, Value.slice a m c = .slice (some ⟨xb, xo, none⟩) m c) {j p : Nat} (hj : j < xs.length) (hp : p = xo + j) :
    (∃ u, w.cell? ⟨xb, p, none⟩ = some u) ∧ w.frozen? ⟨xb, p, none⟩ = false ∧ ∀ u w2, w2 = w.setCell ⟨xb, p, none⟩ u → w2.ownsRow base e size (.slice a n c) n (xs.set j u) ∧ w.grownBy w2 (Value.ownBlock (.slice a n c)) := by
  obtain ⟨hl, ⟨hv, hn⟩ | ⟨g, cap, cur, hv, hb, hg, h1, h2, h3, h4⟩⟩ := h
  · subst hn
    rw [Nat.zero_mul] at hl
    omega
  · have hv2 := (xa n c).symm.trans hv
    simp only [Value.slice.injEq, Option.some.injEq, Addr.mk.injEq, and_true, true_and] at hv2
    obtain ⟨⟨rfl, rfl⟩, rfl⟩ := hv2
    rw [Nat.zero_add] at hp
    subst hp
    have hlt := blk_lt hg
    have hjc : p < cur.size := by
      have := congrArg List.length h4
      rw [List.length_take] at this
      have h5 : cur.toList.length = cur.size := by simp
      omega
    have ha : a = some ⟨xb, 0, none⟩ := by have := xa 0 0; cases this; rfl
    subst ha
    refine ⟨⟨cur[p], by rw [cells_of_block hg]; simp [hjc]⟩, free_of_block hg _, fun u w2 e2 => ⟨⟨by simpa using hl, .inr ⟨xb, c, cur.setIfInBounds p u, rfl, hb, put_cell e2 hg rfl, h1, h2, by simpa using h3, ?_⟩⟩, ?_⟩⟩
    · rw [← h4, Array.toList_setIfInBounds, List.take_set]
    · subst e2
      exact ⟨rfl, rfl, rfl, by rw [size_setCell]; exact Nat.le_refl _, fun k hk hne => Below.heap_setCell _ _ _ _ (fun e => hne (by rw [e]; rfl))⟩
/-- The elements of a slice of one's own, where they lie. -/
theorem slAt_of_owns {α : Type} {w : World} {base n c sz : Nat} {e : TypeId} {a : Option Addr} {xs : List α} {row : α → List Value} (h : w.ownsRow base e sz (.slice a n c) n ((xs.map row).flatten)) (hn : n = xs.length) (hr : ∀ x, (row x).length = sz) (X : List Nat) (hX : ∀ b ∈ X, b < base) (d : α) : SlAt X w a sz xs.length (fun i => row (xs.getD i d)) := fun i hi => by
  subst hn
  rcases h.2 with ⟨hv, hn⟩ | ⟨g, cap, cur, hv, hb, hg, h1, h2, h3, h4⟩
  · omega
  · have ha : a = some ⟨g, 0, none⟩ := by cases hv; rfl
    refine ⟨g, 0, fun m c => by rw [ha], fun W E j v hv => ?_⟩
    have hjs : j < sz := by
      have := (List.getElem?_eq_some_iff.1 hv).1
      rwa [hr] at this
    have hf := flat_get hr xs i j (row (xs.getD i d)) (by simp [hi]) hjs
    have hil : i * sz + j < xs.length * sz :=
      calc i * sz + j < i * sz + sz := by omega
        _ = (i + 1) * sz := by rw [Nat.add_mul]; omega
        _ ≤ xs.length * sz := Nat.mul_le_mul_right _ hi
    rw [E.cell (a := ⟨g, 0 + i * sz + j, none⟩) (blk_lt hg) (fun hm => by have := hX g hm; omega), cells_of_block hg, Nat.zero_add, ← Array.getElem?_toList]
    have := congrArg (fun l => l[i * sz + j]?) h4
    simp only [List.getElem?_take] at this
    rw [if_pos hil] at this
    rw [this, hf, hv]
end Go.Proofs.Ytholfdgebdlgjaa

/-! The walks of small functions of the kit: Rare, At; of the laws: inside, negative. Conditions: lists of at most a million. -/
namespace Go.Proofs.Ytholfdgebdlgjaa
open Go.RowKit
set_option linter.unusedVariables false
set_option linter.unusedSimpArgs false
theorem inside_any (a b c d : Int) (w : World) :
    Calls Try.prog 115 #[.agg #[.int .i64 a, .int .i64 b], .agg #[.int .i64 c, .int .i64 d]] w fun e w' => e = .returned (.bool (decide (c ≤ a ∧ b ≤ d))) ∧ Ext [] w w' := by
  have E : Ext [] w w := Ext.refl _ _
  refine calls_has 17 Try.func115 rfl Try.ntmps115 (Nat.le_of_ble_eq_true rfl) ?_
  intro fa F
  refine wp_seq_k fun K1 hK1 => ?_
  refine wp_region_lit ?_
  refine sq_new F rfl (by decide) rfl (R_box rfl (F.at rfl)) ?_; clear F fa; intro fa w1 F hw
  obtain ⟨n2, hn⟩ : ∃ n, n = w.heap.size := ⟨_, rfl⟩
  rw [← hn] at F
  have s2 : w.heap.size ≤ n2 := Nat.le_of_eq hn.symm
  have l2_E : w.heap.size ≤ n2 := by rw [hn]; exact E.size
  replace E := ext_alloc E hw
  have q2 := new_row hw hn
  clear hw hn
  refine sq_new F rfl (by decide) rfl (R_box rfl (F.at rfl)) ?_; clear F fa; intro fa w2 F hw
  obtain ⟨n3, hn⟩ : ∃ n, n = w1.heap.size := ⟨_, rfl⟩
  rw [← hn] at F
  have s3 : w1.heap.size ≤ n3 := Nat.le_of_eq hn.symm
  have l3_E : w.heap.size ≤ n3 := by rw [hn]; exact E.size
  have m3_2 : n2 < n3 := by rw [hn]; exact blk_lt q2
  replace q2 := keep_alloc hw q2
  replace E := ext_alloc E hw
  have q3 := new_row hw hn
  clear hw hn
  refine F.vl (R_assign rfl (ev_c fa _)) ?_; clear F fa; intro fa F
  refine wpList_nil ?_
  refine hK1 _ _ ?_
  clear hK1
  refine wp_seq_k fun K2 hK2 => ?_
  refine wp_region_lit ?_
  refine F.vl (R_field rfl (F.at rfl) Try.underlying23 rfl (n := 0) (sz := 1) rfl (by kernel_rfl) (by decide)) ?_; clear F fa; intro fa F
  refine F.vl (R_load rfl (F.at rfl) Try.underlying3 rfl ((cells_of_block q2 0).trans (get0))) ?_; clear F fa; intro fa F
  refine F.vl (R_field rfl (F.at rfl) Try.underlying23 rfl (n := 0) (sz := 1) rfl (by kernel_rfl) (by decide)) ?_; clear F fa; intro fa F
  refine F.vl (R_load rfl (F.at rfl) Try.underlying3 rfl ((cells_of_block q3 0).trans (get0))) ?_; clear F fa; intro fa F
  refine F.vl (R_geq rfl (F.at rfl) (F.at rfl)) ?_; clear F fa; intro fa F
  refine F.mv ?_; clear F fa; intro fa F
  by_cases hg1 : (c ≤ a)
  · skip
    replace F := F.re (k := 10) rfl (congrArg Value.bool (decide_eq_true hg1))
    refine F.vl (R_field rfl (F.at rfl) Try.underlying23 rfl (n := 1) (sz := 1) rfl (by kernel_rfl) (by decide)) ?_ (hw := (wantT F rfl rfl (by decide) rfl)); clear F fa; intro fa F
    refine F.vl (R_load rfl (F.at rfl) Try.underlying3 rfl ((cells_of_block q2 1).trans (getS (get0)))) ?_ (hw := (wantT F rfl rfl (by decide) rfl)); clear F fa; intro fa F
    refine F.vl (R_field rfl (F.at rfl) Try.underlying23 rfl (n := 1) (sz := 1) rfl (by kernel_rfl) (by decide)) ?_ (hw := (wantT F rfl rfl (by decide) rfl)); clear F fa; intro fa F
    refine F.vl (R_load rfl (F.at rfl) Try.underlying3 rfl ((cells_of_block q3 1).trans (getS (get0)))) ?_ (hw := (wantT F rfl rfl (by decide) rfl)); clear F fa; intro fa F
    refine F.vl (R_leq rfl (F.at rfl) (F.at rfl)) ?_ (hw := (wantT F rfl rfl (by decide) rfl)); clear F fa; intro fa F
    refine F.vl (R_pickT rfl (F.at rfl) (F.at rfl)) ?_; clear F fa; intro fa F
    refine F.as ?_; clear F fa; intro fa F
    refine wpList_nil ?_
    refine hK2 _ _ ?_
    clear hK2
    refine wp_ret ?_
    (try simp only [Exit.inBlock, Exit.then])
    refine rt_v F (rs_1 F rfl rfl) ?_
    exact ⟨ret_bool (by simp [hg1]), E⟩
  · skip
    replace F := F.re (k := 10) rfl (congrArg Value.bool (decide_eq_false hg1))
    refine sq_no F rfl (by decide) (wantF F rfl rfl (by decide) rfl (by decide)) ?_; clear F fa; intro fa F
    refine sq_no F rfl (by decide) (wantF F rfl rfl (by decide) rfl (by decide)) ?_; clear F fa; intro fa F
    refine sq_no F rfl (by decide) (wantF F rfl rfl (by decide) rfl (by decide)) ?_; clear F fa; intro fa F
    refine sq_no F rfl (by decide) (wantF F rfl rfl (by decide) rfl (by decide)) ?_; clear F fa; intro fa F
    refine sq_no F rfl (by decide) (wantF F rfl rfl (by decide) rfl (by decide)) ?_; clear F fa; intro fa F
    refine F.vl (R_pickF rfl (F.at rfl) (ev_c fa _)) ?_; clear F fa; intro fa F
    refine F.as ?_; clear F fa; intro fa F
    refine wpList_nil ?_
    refine hK2 _ _ ?_
    clear hK2
    refine wp_ret ?_
    (try simp only [Exit.inBlock, Exit.then])
    refine rt_v F (rs_1 F rfl rfl) ?_
    exact ⟨ret_bool (by simp [hg1]), E⟩
theorem rare_any (w0 w : World) (b k : Nat) (nv : Value) (n : Int) (h : LotsOk w0 w b k nv) (hk : k ≤ 1000000) (h0 : 1 ≤ n) (hn : n ≤ 1000000) :
    Calls Try.prog 69 #[.pointer (some ⟨b, 0, none⟩), .int .i64 n] w fun e w' => ∃ r, e = .returned (.bool r) ∧ LotsOk w0 w' b (k + 1) nv ∧ Ext [b] w w' := by
  have E : Ext [b] w w := Ext.refl _ _
  refine calls_has 10 Try.func69 rfl Try.ntmps69 (Nat.le_of_ble_eq_true rfl) ?_
  intro fa F
  refine wp_seq_k fun K1 hK1 => ?_
  refine wp_region_lit ?_
  refine F.vl (R_assign rfl (ev_c fa _)) ?_; clear F fa; intro fa F
  refine wpList_nil ?_
  refine hK1 _ _ ?_
  clear hK1
  refine wp_seq_k fun K2 hK2 => ?_
  refine wp_region_lit ?_
  refine F.mv ?_; clear F fa; intro fa F
  refine F.mv ?_; clear F fa; intro fa F
  refine F.vl (R_sub rfl (F.at rfl) (ev_c fa _) (by omega) (by omega)) ?_; clear F fa; intro fa F
  refine sq_call F rfl (by decide) rfl (R_callV rfl rfl Try.call51 (mpS (F.at rfl) (mpS (F.at rfl) mp0))) (upto_any w0 _ b k nv (n - 1) h hk (by omega) (by omega)) fun e w1 hR => ?_
  obtain ⟨v, rfl, hv0, hv1, HL, e1⟩ := hR
  refine ⟨_, rfl, ?_⟩; clear F fa; intro fa F
  replace E := E.trans' e1 (fun i hi hl => by simp only [List.mem_cons, List.not_mem_nil, or_false] at hi ⊢; omega)
  refine F.vl (R_eqlD rfl (F.at rfl) (ev_c fa _)) ?_; clear F fa; intro fa F
  refine F.as ?_; clear F fa; intro fa F
  refine wpList_nil ?_
  refine hK2 _ _ ?_
  clear hK2
  refine wp_ret ?_
  (try simp only [Exit.inBlock, Exit.then])
  refine rt_v F (rs_1 F rfl rfl) ?_
  exact ⟨_, rfl, HL, E⟩
/-- Where a number first stands in a list; -1 if it does not. -/
def atI (xs : List Int) (n : Int) : Int := match xs.findIdx? (· == n) with | some i => i | none => -1
theorem atI_some {xs : List Int} {n : Int} {i : Nat} (hi : i < xs.length) (h : xs.getD i 0 = n) (hb : ∀ j, j < i → xs.getD j 0 ≠ n) : atI xs n = i := by
  have : xs.findIdx? (· == n) = some i := by
    rw [List.findIdx?_eq_some_iff_getElem]
    refine ⟨hi, ?_, fun j hj => ?_⟩
    · simpa [hi] using h
    · have := hb j hj
      simpa [show j < xs.length by omega] using this
  rw [atI, this]
theorem atI_none {xs : List Int} {n : Int} (hb : ∀ j, j < xs.length → xs.getD j 0 ≠ n) : atI xs n = -1 := by
  have : xs.findIdx? (· == n) = none := by
    rw [List.findIdx?_eq_none_iff]
    intro x hx
    obtain ⟨j, hj, rfl⟩ := List.getElem_of_mem hx
    have := hb j hj
    simpa [hj] using this
  rw [atI, this]
set_option maxRecDepth 10000 in
theorem at_any (xs : List Int) (n : Int) (a : Option Addr) (c : Nat) (w : World) (h : IsRows w (.slice a xs.length c) 1 (xs.map intRow)) (hl : xs.length ≤ 1000000) :
    Calls Try.prog 60 #[.slice a xs.length c, .int .i64 n] w fun e w' => e = .returned (.int .i64 (atI xs n)) ∧ Ext [] w w' := by
  have HS := Lib.hid (slAt_of_rows h 0)
  have E : Ext [] w w := Ext.refl _ _
  refine calls_has 19 Try.func60 rfl Try.ntmps60 (Nat.le_of_ble_eq_true rfl) ?_
  intro fa F
  refine wp_seq_k fun K1 hK1 => ?_
  refine wp_region_lit ?_
  refine F.vl (R_assign rfl (ev_c fa _)) ?_; clear F fa; intro fa F
  refine wpList_nil ?_
  refine hK1 _ _ ?_
  clear hK1
  refine wp_seq_k fun K2 hK2 => ?_
  refine wp_seq_k fun K3 hK3 => ?_
  refine wp_region_lit ?_
  refine F.vl (R_assign rfl (ev_c fa _)) ?_; clear F fa; intro fa F
  refine wpList_nil ?_
  refine hK3 _ _ ?_
  clear hK3
  refine wp_block ?_
  have F0 := F.sub (.c 0 rfl (.c 1 rfl .n))
  refine lp_for F0 (xs.length) (fun i Lv W => Lv = [(5, .int .i64 ((i : Nat) : Int))] ∧ Ext [] w W ∧ ∀ j, j < i → xs.getD j 0 ≠ n) ⟨_, ⟨rfl, Ext.refl _ _, fun j hj => absurd hj (by omega)⟩, F.sub (.c 5 rfl (.c 0 rfl (.c 1 rfl .n)))⟩ ?_
  clear F F0
  rintro i _ fa w1 hi1 ⟨rfl, EL1, hb⟩ F
  have E := E.nil EL1
  refine wp_seq_k fun K4 hK4 => ?_
  refine wp_seq_k fun K5 hK5 => ?_
  refine wp_region_lit ?_
  refine F.mv ?_; clear F fa; intro fa F
  refine F.mv ?_; clear F fa; intro fa F
  refine F.vl (R_len rfl rfl (F.at rfl) Try.underlying29) ?_; clear F fa; intro fa F
  refine F.vl (R_lss rfl (F.at rfl) (F.at rfl)) ?_; clear F fa; intro fa F
  refine wpList_nil ?_
  refine hK5 _ _ ?_
  clear hK5
  refine cd_if F rfl (fun hc9 => ?_) (fun hc9 => ?_)
  · skip
    refine wp_skip ?_
    refine hK4 _ _ ?_
    clear hK4
    refine wp_seq_k fun K6 hK6 => ?_
    refine wp_block ?_
    refine wp_seq_k fun K7 hK7 => ?_
    refine wp_region_lit ?_
    refine F.mv ?_; clear F fa; intro fa F
    refine F.mv ?_; clear F fa; intro fa F
    obtain ⟨xb8, xo8, xa8, xr8⟩ := HS.out i (by omega)
    refine F.vl (R_ixSlice (sz := 1) rfl ((F.at rfl).trans (xa8 _ _)) (F.at rfl) Try.underlying29 (by kernel_rfl) (by omega) (by omega)) ?_; clear F fa; intro fa F
    refine F.vl (R_load rfl (F.at rfl) Try.underlying3 rfl (xr8 _ E 0 _ rfl)) ?_; clear F fa; intro fa F
    refine F.mv ?_; clear F fa; intro fa F
    refine F.vl (R_eqlD rfl (F.at rfl) (F.at rfl)) ?_; clear F fa; intro fa F
    refine wpList_nil ?_
    refine hK7 _ _ ?_
    clear hK7
    refine cd_if F rfl (fun hc17 => ?_) (fun hc17 => ?_)
    · skip
      refine wp_seq_k fun K9 hK9 => ?_
      refine wp_region_lit ?_
      refine F.mv ?_; clear F fa; intro fa F
      refine F.as ?_; clear F fa; intro fa F
      refine wpList_nil ?_
      refine hK9 _ _ ?_
      clear hK9
      refine wp_ret ?_
      (try simp only [Exit.inBlock, Exit.then])
      refine rt_v F (rs_1 F rfl rfl) ?_
      exact ⟨ret_int (atI_some (by omega) hc17 hb).symm, E⟩
    · skip
      refine wp_skip ?_
      refine hK6 _ _ ?_
      clear hK6
      refine wp_region_lit ?_
      refine F.mv ?_; clear F fa; intro fa F
      refine F.vl (R_add rfl (F.at rfl) (ev_c fa _) (by omega) (by omega)) ?_; clear F fa; intro fa F
      refine F.as ?_; clear F fa; intro fa F
      refine wpList_nil ?_
      show _ ∧ _
      exact ⟨by omega, _, ⟨rfl, EL1, fun j hj => if e : j = i then e ▸ hc17 else hb j (by omega)⟩, F.sub (.c 5 rfl (.c 0 rfl (.c 1 rfl .n)))⟩
  · skip
    refine wp_exit ?_
    refine hK2 _ _ ?_
    clear hK2
    refine wp_seq_k fun K10 hK10 => ?_
    refine wp_region_lit ?_
    refine F.vl (R_assign rfl (ev_c fa _)) ?_; clear F fa; intro fa F
    refine wpList_nil ?_
    refine hK10 _ _ ?_
    clear hK10
    refine wp_ret ?_
    (try simp only [Exit.inBlock, Exit.then])
    refine rt_v F (rs_1 F rfl rfl) ?_
    exact ⟨ret_int (atI_none fun j hj => hb j (by omega)).symm, E⟩
theorem negative_any (a b : Int) (w : World) (h1 : -1000000 ≤ a) (h2 : a ≤ 1000000) (h3 : -1000000 ≤ b) (h4 : b ≤ 1000000) :
    Calls Try.prog 56 #[.agg #[.int .i64 a, .int .i64 b]] w fun e w' => e = .returned (.agg #[.int .i64 (-b), .int .i64 (-a)]) ∧ Ext [] w w' := by
  have E : Ext [] w w := Ext.refl _ _
  refine calls_has 10 Try.func56 rfl Try.ntmps56 (Nat.le_of_ble_eq_true rfl) ?_
  intro fa F
  refine wp_seq_k fun K1 hK1 => ?_
  refine wp_region_lit ?_
  refine sq_new F rfl (by decide) rfl (R_box rfl (F.at rfl)) ?_; clear F fa; intro fa w1 F hw
  obtain ⟨n1, hn⟩ : ∃ n, n = w.heap.size := ⟨_, rfl⟩
  rw [← hn] at F
  have s1 : w.heap.size ≤ n1 := Nat.le_of_eq hn.symm
  have l1_E : w.heap.size ≤ n1 := by rw [hn]; exact E.size
  replace E := ext_alloc E hw
  have q1 := new_row hw hn
  clear hw hn
  refine sq_new F rfl (by decide) rfl (R_alloc rfl Try.zeroValue23) ?_; clear F fa; intro fa w2 F hw
  obtain ⟨n2, hn⟩ : ∃ n, n = w1.heap.size := ⟨_, rfl⟩
  rw [← hn] at F
  have s2 : w1.heap.size ≤ n2 := Nat.le_of_eq hn.symm
  have l2_E : w.heap.size ≤ n2 := by rw [hn]; exact E.size
  have m2_1 : n1 < n2 := by rw [hn]; exact blk_lt q1
  replace q1 := keep_alloc hw q1
  replace E := ext_alloc E hw
  have q2 := new_row hw hn
  clear hw hn
  refine wpList_nil ?_
  refine hK1 _ _ ?_
  clear hK1
  refine wp_seq_k fun K2 hK2 => ?_
  refine wp_region_lit ?_
  refine F.vl (R_field rfl (F.at rfl) Try.underlying23 rfl (n := 1) (sz := 1) rfl (by kernel_rfl) (by decide)) ?_; clear F fa; intro fa F
  refine F.vl (R_load rfl (F.at rfl) Try.underlying3 rfl ((cells_of_block q1 1).trans (getS (get0)))) ?_; clear F fa; intro fa F
  refine F.vl (R_neg rfl (F.at rfl) (by omega) (by omega)) ?_; clear F fa; intro fa F
  refine F.vl (R_field rfl (F.at rfl) Try.underlying23 rfl (n := 0) (sz := 1) rfl (by kernel_rfl) (by decide)) ?_; clear F fa; intro fa F
  refine F.vl (R_load rfl (F.at rfl) Try.underlying3 rfl ((cells_of_block q1 0).trans (get0))) ?_; clear F fa; intro fa F
  refine F.vl (R_neg rfl (F.at rfl) (by omega) (by omega)) ?_; clear F fa; intro fa F
  refine F.vl (R_buildV rfl (prS (F.at rfl) (prS (F.at rfl) pr0)) (cells := #[.int .i64 (-b), .int .i64 (-a)]) (by kernel_rfl)) ?_; clear F fa; intro fa F
  refine sq_to rfl rfl (R_storeRow rfl (F.at rfl) (F.at rfl) (by kernel_rfl) (by first | (simp [Value.oneCell']; done) | (simp [Value.oneCell', grRow, rdRow, lkRow]; done)) q2 rfl) ?_; intro w3 hw
  replace q1 := keep_cells hw q1 (by omega)
  replace q2 := put_row hw q2 rfl
  replace E := ext_cells E hw (fun h => by first | exact absurd h (by omega) | simp)
  clear hw
  refine wpList_nil ?_
  refine hK2 _ _ ?_
  clear hK2
  refine wp_ret ?_
  (try simp only [Exit.inBlock, Exit.then])
  refine rt_v F (rs_c F rfl rfl Try.underlying23 rfl (by kernel_rfl) q2) ?_
  exact ⟨rfl, E⟩
end Go.Proofs.Ytholfdgebdlgjaa
