/- The walks of Less, Picks, lists and some; tapes with some of their readings. Conditions: short lists. -/
import Derived.Test.YtholfdgebdlgjaaVd
import Derived.Maps.AppendAt
namespace Go.Proofs.Ytholfdgebdlgjaa
open Go.RowKit
set_option linter.unusedVariables false
set_option linter.unusedSimpArgs false
section
variable {P : Program} {md : Region.Mode} {ops : Array Oper} {Q : Exit → Act → World → Prop} {T : World → Prop} {stop : Option Nat}
/-- All of S wait for i, themselves or through others of S. -/
def AllWait (md : Region.Mode) (ops : Array Oper) (S : List Nat) (i : Nat) : Prop := ∀ k ∈ S, ∃ ok, ops[k]? = some ok ∧ ∃ e ∈ ok.after, Region.binds md e = true ∧ (e.on = i ∨ e.on ∈ S)
theorem anyX_first2 {S : List Nat} {i : Nat} {oi : Oper} {v : Value} (hi : ops[i]? = some oi) (hil : stop ≠ some i) (hS : AllWait md ops S i) (hst : ∀ l, stop = some l → l ∈ S)
    (hsel : ∀ (j : Nat) (o : Oper) cs b, ops[j]? = some o → o.op ≠ .select cs b) (hQ : ∀ c a w, Q (.panic c) (a.put oi.dst v) w → Q (.panic c) a w) :
    ∀ (fuel : Nat) (listed : Array Bool) (a : Act) (w : World),
      (∀ j oj, ops[j]? = some oj → j ≠ i → listed.getD j true = false → (∀ e ∈ oj.after, Region.binds md e = true → e.on ≠ i) → oi.apart ops oj = true) →
      i ∈ Region.ready md ops listed → YieldsIf P ops (needs true T) oi v a → (held stop listed = true → T w) → held stop listed = true → (∀ k ∈ S, listed.getD k true = false) →
      wpAnyX P md ops Q T stop fuel (listed.setIfInBounds i true) (a.put oi.dst v) w → wpAnyX P md ops Q T stop (fuel + 1) listed a w := by
  intro fuel
  induction fuel with
  | zero =>
    intro listed a w _ hr hy hT hb hU H
    refine ⟨fun h => (by rw [h] at hr; cases hr), fun j hj => ?_⟩
    by_cases hji : j = i
    · subst hji
      exact hy.wpOp hi (fun h => hT hb) ⟨fun h => hT (by rwa [held_ne hil] at h), H⟩
    · have := ready_mono hj hji
      rw [H.1] at this
      cases this
  | succ fuel ih =>
    intro listed a w hfree hr hy hT hb hU H
    refine ⟨fun h => (by rw [h] at hr; cases hr), fun j hj => ?_⟩
    by_cases hji : j = i
    · subst hji
      exact hy.wpOp hi (fun h => hT hb) ⟨fun h => hT (by rwa [held_ne hil] at h), H⟩
    · have h1 := H.2 j (ready_mono hj hji)
      obtain ⟨hjun, oj, hoj, hall⟩ := mem_ready.1 hj
      have hun : ∀ n, listed.getD n true = false → ∀ e ∈ oj.after, Region.binds md e = true → e.on ≠ n := fun n h0 e he hb heq => by
        have h1 := hall e he hb
        rw [heq] at h1
        rcases Nat.lt_or_ge n listed.size with h' | h'
        · simp [h'] at h0 h1; rw [h0] at h1; cases h1
        · simp [Array.getElem?_eq_none h'] at h1
      have hnot := hun i (mem_ready.1 hr).1
      have hjS : j ∉ S := fun hjS => by
        obtain ⟨ok, hok, e, he, hbd, ho⟩ := hS j hjS
        rw [hoj] at hok
        cases hok
        rcases ho with ho | ho
        · exact hnot e he hbd ho
        · exact hun _ (hU _ ho) e he hbd rfl
      have h2 := wpOp_putIf hoj (hfree j oj hoj hji hjun hnot) (fun cs b => hsel i oi cs b hi) (fun cs b => hsel j oj cs b hoj) hQ hy h1
      have hfree' : ∀ k ok, ops[k]? = some ok → k ≠ i → (listed.setIfInBounds j true).getD k true = false →
          (∀ e ∈ ok.after, Region.binds md e = true → e.on ≠ i) → oi.apart ops ok = true := fun k ok hk hki hun hno => by
        refine hfree k ok hk hki ?_ hno
        by_cases hjk : j = k
        · subst hjk; exact hjun
        · rw [getD_set_ne true hjk] at hun; exact hun
      have key : held stop ((listed.setIfInBounds i true).setIfInBounds j true) = held stop (listed.setIfInBounds j true) := by
        rw [Array.setIfInBounds_comm _ _ (Ne.symm hji), held_ne hil]
      have hb' : held stop (listed.setIfInBounds j true) = true := by
        rw [held_ne (fun e => hjS (hst j e))]
        exact hb
      have hU' : ∀ k ∈ S, (listed.setIfInBounds j true).getD k true = false := fun k hk => by
        have hjk : j ≠ k := fun e => by subst e; exact hjS hk
        rw [getD_set_ne true hjk]
        exact hU k hk
      refine wpOp_mono (fun a' w' h3 => ⟨fun hh => h3.2.1 (by rw [key]; exact hh), ih (listed.setIfInBounds j true) a' w' hfree' (ready_mono hr (Ne.symm hji)) h3.1 (fun hh => h3.2.1 (by rw [key]; exact hh)) hb' hU' ?_⟩) h2
      rw [Array.setIfInBounds_comm _ _ hji]
      exact h3.2.2
variable {N : Nat} {a : Act} {L : List (Nat × Value)} {w : World} {fuel : Nat} {listed : Array Bool} {v : Value}
def takeOk2 (md : Region.Mode) (ops : Array Oper) (stop : Option Nat) (S : List Nat) (listed : Array Bool) (i : Nat) : Bool :=
  Region.noSelect ops && Region.free md ops listed i && (Region.ready md ops listed).contains i && (stop != some i) && held stop listed &&
  (match stop with | none => true | some l => S.contains l) &&
  S.all fun k => !(listed.getD k true) && ((ops[k]?).map fun ok => ok.after.any fun e => Region.binds md e && (e.on == i || S.contains e.on)).getD false
theorem Has.xr2 (F : Has N a L) {i d : Nat} {oi : Oper} (S : List Nat) (hi : ops[i]? = some oi) (hr : ∀ w, T w → (execOp a.eval oi).run P w = .ok (.value v) w) (hT : held stop listed = true → T w)
    (h : ∀ a2, Has N a2 ((d, v) :: L) → wpAnyX P md ops Q T stop fuel (listed.setIfInBounds i true) a2 w)
    (hd : oi.dst = some d := by rfl) (hN : d < N := by decide) (hk : takeOk2 md ops stop S listed i = true := by kernel_rfl) (hQ : ∀ c a w, Q (.panic c) (a.put oi.dst v) w → Q (.panic c) a w := by exact fun _ _ _ h => h) (hw : Region.wanted oi (yielded ops a.tmps) = true := by rfl) : wpAnyX P md ops Q T stop (fuel + 1) listed a w := by
  simp only [takeOk2, Bool.and_eq_true] at hk
  obtain ⟨⟨⟨⟨⟨⟨k1, k2⟩, k3⟩, k4⟩, k5⟩, k6⟩, k7⟩ := hk
  have k7 := List.all_eq_true.1 k7
  refine anyX_first2 (S := S) hi (by simpa using k4) (fun k hkS => ?_) (fun l hl => by subst hl; simpa using k6) (Region.noSelect_spec k1) hQ fuel listed a w (Region.free_spec hi k2) (by simpa using k3) (.inl ⟨hw, fun w hw => hr w (hw rfl)⟩) hT k5 (fun k hkS => ?_) (by rw [hd]; exact h _ (F.put hN v))
  · have q := k7 k hkS
    simp only [Bool.and_eq_true] at q
    have q2 := q.2
    cases ho : ops[k]? with
    | none => simp [ho] at q2
    | some ok =>
      simp only [ho, Option.map_some, Option.getD_some] at q2
      obtain ⟨e, he, hbd⟩ := Array.any_eq_true'.1 q2
      simp only [Bool.and_eq_true, Bool.or_eq_true, beq_iff_eq, List.contains_iff_mem] at hbd
      exact ⟨ok, rfl, e, he, hbd.1, hbd.2⟩
  · have q := k7 k hkS
    simp only [Bool.and_eq_true, Bool.not_eq_true'] at q
    exact q.1
end
/-- append, with the place of what comes out. -/
theorem append_runB {P : Program} {o : Oper} {w : World} {a : Act} {s x : Operand} {t : TypeId} (ho : o.op = .call { callee := .builtin .append, args := #[s, x], argTypes := #[t, t] })
    (base : Nat) {e : TypeId} {size bytes : Nat} (ht : P.underlying t = some (.slice e)) (hi : (P.info? e).map (fun i => (i.size, i.bytes, i.zero.map (·.cells.size))) = some (size, bytes, some size)) (hsz : 0 < size)
    {v : Value} {n : Nat} {xs : List Value} (hs : a.eval s = v) (hown : w.ownsRow base e size v n xs)
    {g c : Nat} {T : TypeId} {fz : Nat × Nat} {news : List Value} (hx : a.eval x = .slice (some ⟨g, 0, none⟩) 1 c) (hg : w.heap[g]? = some (.cells news.toArray T fz)) (hl : news.length = size) (h1 : ∀ u ∈ news, u.oneCell' = true)
    (hn : n ≤ 1000000) (hbytes : (n + 1) * bytes ≤ 140737488355328) (hbase : base ≤ w.heap.size) :
    ∃ v' w', (execOp a.eval o).run P w = .ok (.value v') w' ∧ w'.ownsRow base e size v' (n + 1) (xs ++ news) ∧ w.grownBy w' v.ownBlock ∧ (v'.ownBlock = v.ownBlock ∨ v'.ownBlock = some w.heap.size) := by
  cases hq : P.info? e with
  | none => simp [hq] at hi
  | some i =>
    simp only [hq, Option.map_some, Option.some.injEq, Prod.mk.injEq, Option.map_eq_some_iff] at hi
    obtain ⟨hi1, hi2, z, hz, hz2⟩ := hi
    obtain ⟨v', w', hr, h2, h3, -, h5⟩ := run_append_own_at (P := P) w base t o.type e i z size bytes ht hq hz hi1 hi2 hz2 hsz v n xs hown ⟨g, 0, none⟩ 1 c news (by omega) (fun j u hu => by
      rw [Addr.add_lit, Nat.zero_add, cells_of_block hg]; simpa using hu) h1 (by simp only [maxLen]; omega) hbytes hbase
    refine ⟨v', w', ?_, h2, h3, h5⟩
    unfold execOp
    simp only [ho, resolve, invoke, builtin, Sem.run_bind, Sem.run_pure, Result.andThen_ok, List.map_toArray, List.map_cons, List.map_nil, hs, hx, hr]
/-! Less. -/
def lessL : List Int → List Int → Bool
  | [], ys => decide (0 < ys.length)
  | _ :: _, [] => false
  | x :: xs, y :: ys => if x ≠ y then decide (x < y) else lessL xs ys
theorem lessL_drop (xs ys : List Int) {i : Nat} (hx : i < xs.length) (hy : i < ys.length) : lessL (xs.drop i) (ys.drop i) = if xs.getD i 0 ≠ ys.getD i 0 then decide (xs.getD i 0 < ys.getD i 0) else lessL (xs.drop (i + 1)) (ys.drop (i + 1)) := by
  rw [List.drop_eq_getElem_cons hx, List.drop_eq_getElem_cons hy, lessL]
  simp [hx, hy]
theorem lessL_end (xs ys : List Int) {i : Nat} (h : i = xs.length ∨ i = ys.length) (hx : i ≤ xs.length) (hy : i ≤ ys.length) : lessL (xs.drop i) (ys.drop i) = decide (xs.length < ys.length) := by
  rcases h with h | h
  · subst h
    rw [List.drop_length, lessL, List.length_drop]
    simp only [decide_eq_decide]
    omega
  · subst h
    rw [List.drop_length]
    cases hd : xs.drop ys.length with
    | nil =>
      have := congrArg List.length hd
      rw [List.length_drop] at this
      simp only [lessL, List.length_nil, decide_eq_decide, this] at *
      omega
    | cons a l =>
      have := congrArg List.length hd
      rw [List.length_drop, List.length_cons] at this
      rw [lessL]
      symm
      rw [decide_eq_false_iff_not]
      omega
/-- A value reads as a list of numbers. -/
def RowOf (w : World) (v : Value) (xs : List Int) : Prop := ∃ a c, v = .slice a xs.length c ∧ IsRows w (.slice a xs.length c) 1 (xs.map intRow)
set_option maxRecDepth 100000 in
theorem less_any (xs ys : List Int) (xa ya : Option Addr) (xc yc : Nat) (w : World) (hx : IsRows w (.slice xa xs.length xc) 1 (xs.map intRow)) (hy : IsRows w (.slice ya ys.length yc) 1 (ys.map intRow)) (lx : xs.length ≤ 1000000) (ly : ys.length ≤ 1000000) :
    Calls Try.prog 129 #[.slice xa xs.length xc, .slice ya ys.length yc] w fun e w' => e = .returned (.bool (lessL xs ys)) ∧ Ext [] w w' := by
  have E : Ext [] w w := Ext.refl _ _
  have HX := Lib.hid (slAt_of_rows hx 0)
  have HY := Lib.hid (slAt_of_rows hy 0)
  clear hx hy
  refine calls_has 41 Try.func129 rfl Try.ntmps129 (Nat.le_of_ble_eq_true rfl) ?_
  intro fa F
  refine wp_seq_k fun K1 hK1 => ?_
  refine wp_region_lit ?_
  refine F.vl (R_assign rfl (ev_c fa _)) ?_; clear F fa; intro fa F
  refine wpList_nil ?_
  refine hK1 _ _ ?_
  clear hK1
  refine wp_seq_k fun K2 hK2 => ?_
  refine wp_seq_k fun K3 hK3 => ?_
  refine wp_region_lit ?_
  refine F.vl (R_assign rfl (ev_c fa _)) ?_; clear F fa; intro fa F
  refine wpList_nil ?_
  refine hK3 _ _ ?_
  clear hK3
  refine wp_block ?_
  have F0 := F.sub (.c 0 rfl (.c 1 rfl .n))
  refine lp_for F0 (min xs.length ys.length) (fun i Lv W => Lv = [(5, .int .i64 ((i : Nat) : Int))] ∧ Ext [] w W ∧ lessL xs ys = lessL (xs.drop i) (ys.drop i)) ⟨_, ⟨rfl, Ext.refl _ _, (by rw [List.drop_zero, List.drop_zero])⟩, F.sub (.c 5 rfl (.c 0 rfl (.c 1 rfl .n)))⟩ ?_
  clear F F0
  rintro i _ fa w1 hi1 ⟨rfl, EL1, hl⟩ F
  have E := E.nil EL1
  refine wp_seq_k fun K4 hK4 => ?_
  refine wp_seq_k fun K5 hK5 => ?_
  refine wp_region_lit ?_
  refine F.mv ?_; clear F fa; intro fa F
  refine F.mv ?_; clear F fa; intro fa F
  refine F.vl (R_len rfl rfl (F.at rfl) Try.underlying29) ?_; clear F fa; intro fa F
  refine F.vl (R_lss rfl (F.at rfl) (F.at rfl)) ?_; clear F fa; intro fa F
  refine F.mv ?_; clear F fa; intro fa F
  by_cases hg1 : (((i : Nat) : Int) < ((xs.length : Nat) : Int))
  · skip
    replace F := F.re (k := 10) rfl (congrArg Value.bool (decide_eq_true hg1))
    refine F.mv ?_ (hw := (wantT F rfl rfl (by decide) rfl)); clear F fa; intro fa F
    refine F.mv ?_ (hw := (wantT F rfl rfl (by decide) rfl)); clear F fa; intro fa F
    refine F.vl (R_len rfl rfl (F.at rfl) Try.underlying29) ?_ (hw := (wantT F rfl rfl (by decide) rfl)); clear F fa; intro fa F
    refine F.vl (R_lss rfl (F.at rfl) (F.at rfl)) ?_ (hw := (wantT F rfl rfl (by decide) rfl)); clear F fa; intro fa F
    refine F.vl (R_pickT rfl (F.at rfl) (F.at rfl)) ?_; clear F fa; intro fa F
    refine wpList_nil ?_
    refine hK5 _ _ ?_
    clear hK5
    refine cd_if F rfl (fun hc15 => ?_) (fun hc15 => ?_)
    · skip
      refine wp_skip ?_
      refine hK4 _ _ ?_
      clear hK4
      refine wp_seq_k fun K6 hK6 => ?_
      refine wp_block ?_
      refine wp_seq_k fun K7 hK7 => ?_
      refine wp_region_st 8 follows (by kernel_rfl) fun w2 hh eh => ?_
      replace E := ext_same E eh
      replace EL1 := ext_same EL1 eh
      clear hh eh
      refine F.smv ?_; clear F fa; intro fa F
      refine F.smv ?_; clear F fa; intro fa F
      obtain ⟨xb8, xo8, xa8, xr8⟩ := HX.out i (by omega)
      refine F.sv (R_ixSlice (sz := 1) rfl ((F.at rfl).trans (xa8 _ _)) (F.at rfl) Try.underlying29 (by kernel_rfl) (by omega) (by omega)) ?_; clear F fa; intro fa F
      refine F.sv (R_load rfl (F.at rfl) Try.underlying3 rfl (xr8 _ E 0 _ rfl)) ?_; clear F fa; intro fa F
      refine F.smv ?_; clear F fa; intro fa F
      refine F.smv ?_; clear F fa; intro fa F
      obtain ⟨xb9, xo9, xa9, xr9⟩ := HY.out i (by omega)
      refine F.sv (R_ixSlice (sz := 1) rfl ((F.at rfl).trans (xa9 _ _)) (F.at rfl) Try.underlying29 (by kernel_rfl) (by omega) (by omega)) ?_; clear F fa; intro fa F
      refine F.sv (R_load rfl (F.at rfl) Try.underlying3 rfl (xr9 _ E 0 _ rfl)) ?_; clear F fa; intro fa F
      refine wpStill_nil ?_
      refine F.vl (R_neqD rfl (F.at rfl) (F.at rfl)) ?_; clear F fa; intro fa F
      refine wpList_nil ?_
      refine hK7 _ _ ?_
      clear hK7
      refine cd_if F rfl (fun hc26 => ?_) (fun hc26 => ?_)
      · skip
        refine wp_seq_k fun K10 hK10 => ?_
        refine wp_region_st 9 follows (by kernel_rfl) fun w3 hh eh => ?_
        replace E := ext_same E eh
        replace EL1 := ext_same EL1 eh
        clear hh eh
        refine F.smv ?_; clear F fa; intro fa F
        refine F.smv ?_; clear F fa; intro fa F
        obtain ⟨xb11, xo11, xa11, xr11⟩ := HX.out i (by omega)
        refine F.sv (R_ixSlice (sz := 1) rfl ((F.at rfl).trans (xa11 _ _)) (F.at rfl) Try.underlying29 (by kernel_rfl) (by omega) (by omega)) ?_; clear F fa; intro fa F
        refine F.sv (R_load rfl (F.at rfl) Try.underlying3 rfl (xr11 _ E 0 _ rfl)) ?_; clear F fa; intro fa F
        refine F.smv ?_; clear F fa; intro fa F
        refine F.smv ?_; clear F fa; intro fa F
        obtain ⟨xb12, xo12, xa12, xr12⟩ := HY.out i (by omega)
        refine F.sv (R_ixSlice (sz := 1) rfl ((F.at rfl).trans (xa12 _ _)) (F.at rfl) Try.underlying29 (by kernel_rfl) (by omega) (by omega)) ?_; clear F fa; intro fa F
        refine F.sv (R_load rfl (F.at rfl) Try.underlying3 rfl (xr12 _ E 0 _ rfl)) ?_; clear F fa; intro fa F
        refine F.sv (R_lss rfl (F.at rfl) (F.at rfl)) ?_; clear F fa; intro fa F
        refine wpStill_nil ?_
        refine F.as ?_; clear F fa; intro fa F
        refine wpList_nil ?_
        refine hK10 _ _ ?_
        clear hK10
        refine wp_ret ?_
        (try simp only [Exit.inBlock, Exit.then])
        refine rt_v F (rs_1 F rfl rfl) ?_
        exact ⟨by rw [hl, lessL_drop xs ys (by omega) (by omega), if_pos (by omega)], E⟩
      · skip
        refine wp_skip ?_
        refine hK6 _ _ ?_
        clear hK6
        refine wp_region_lit ?_
        refine F.mv ?_; clear F fa; intro fa F
        refine F.vl (R_add rfl (F.at rfl) (ev_c fa _) (by omega) (by omega)) ?_; clear F fa; intro fa F
        refine F.as ?_; clear F fa; intro fa F
        refine wpList_nil ?_
        show _ ∧ _
        exact ⟨by omega, _, ⟨rfl, EL1, (by rw [hl, lessL_drop xs ys (by omega) (by omega), if_neg (by omega)])⟩, F.sub (.c 5 rfl (.c 0 rfl (.c 1 rfl .n)))⟩
    · skip
      refine wp_exit ?_
      refine hK2 _ _ ?_
      clear hK2
      refine wp_seq_k fun K13 hK13 => ?_
      refine wp_region_lit ?_
      refine F.mv ?_; clear F fa; intro fa F
      refine F.vl (R_len rfl rfl (F.at rfl) Try.underlying29) ?_; clear F fa; intro fa F
      refine F.mv ?_; clear F fa; intro fa F
      refine F.vl (R_len rfl rfl (F.at rfl) Try.underlying29) ?_; clear F fa; intro fa F
      refine F.vl (R_lss rfl (F.at rfl) (F.at rfl)) ?_; clear F fa; intro fa F
      refine F.as ?_; clear F fa; intro fa F
      refine wpList_nil ?_
      refine hK13 _ _ ?_
      clear hK13
      refine wp_ret ?_
      (try simp only [Exit.inBlock, Exit.then])
      refine rt_v F (rs_1 F rfl rfl) ?_
      exact ⟨by rw [hl, lessL_end xs ys (by omega) (by omega) (by omega)]; congr 2; simp, E⟩
  · skip
    replace F := F.re (k := 10) rfl (congrArg Value.bool (decide_eq_false hg1))
    refine sq_no F rfl (by decide) (wantF F rfl rfl (by decide) rfl (by decide)) ?_; clear F fa; intro fa F
    refine sq_no F rfl (by decide) (wantF F rfl rfl (by decide) rfl (by decide)) ?_; clear F fa; intro fa F
    refine sq_no F rfl (by decide) (wantF F rfl rfl (by decide) rfl (by decide)) ?_; clear F fa; intro fa F
    refine sq_no F rfl (by decide) (wantF F rfl rfl (by decide) rfl (by decide)) ?_; clear F fa; intro fa F
    refine F.vl (R_pickF rfl (F.at rfl) (ev_c fa _)) ?_; clear F fa; intro fa F
    refine wpList_nil ?_
    refine hK5 _ _ ?_
    clear hK5
    refine cd_F F rfl ?_
    refine wp_exit ?_
    refine hK2 _ _ ?_
    clear hK2
    refine wp_seq_k fun K14 hK14 => ?_
    refine wp_region_lit ?_
    refine F.mv ?_; clear F fa; intro fa F
    refine F.vl (R_len rfl rfl (F.at rfl) Try.underlying29) ?_; clear F fa; intro fa F
    refine F.mv ?_; clear F fa; intro fa F
    refine F.vl (R_len rfl rfl (F.at rfl) Try.underlying29) ?_; clear F fa; intro fa F
    refine F.vl (R_lss rfl (F.at rfl) (F.at rfl)) ?_; clear F fa; intro fa F
    refine F.as ?_; clear F fa; intro fa F
    refine wpList_nil ?_
    refine hK14 _ _ ?_
    clear hK14
    refine wp_ret ?_
    (try simp only [Exit.inBlock, Exit.then])
    refine rt_v F (rs_1 F rfl rfl) ?_
    exact ⟨by rw [hl, lessL_end xs ys (by omega) (by omega) (by omega)]; congr 2; simp, E⟩
theorem less_rows {xs ys : List Int} {va vb : Value} {w : World} (hx : RowOf w va xs) (hy : RowOf w vb ys) (lx : xs.length ≤ 1000000) (ly : ys.length ≤ 1000000) :
    Calls Try.prog 129 #[va, vb] w fun e w' => e = .returned (.bool (lessL xs ys)) ∧ Ext [] w w' := by
  obtain ⟨xa, xc, rfl, hx⟩ := hx
  obtain ⟨ya, yc, rfl, hy⟩ := hy
  exact less_any xs ys xa ya xc yc w hx hy lx ly
/-! The sort of Picks. -/
section
variable {α : Type}
def swapL (d : α) (O : List α) (k : Nat) : List α := (O.set k (O.getD (k - 1) d)).set (k - 1) (O.getD k d)
theorem swapL_len (d : α) (O : List α) (k : Nat) : (swapL d O k).length = O.length := by simp [swapL]
theorem swapL_perm (d : α) {O : List α} {k : Nat} (hk : k < O.length) : (swapL d O k).Perm O := by
  have := @List.set_set_perm _ O k (k - 1) hk (by omega)
  unfold swapL
  rw [show O.getD (k - 1) d = O[k - 1] by simp [show k - 1 < O.length by omega], show O.getD k d = O[k] by simp [hk]]
  exact this
def bub (key : α → List Int) (d : α) : List α → Nat → List α
  | O, 0 => O
  | O, k + 1 => if lessL (key (O.getD (k + 1) d)) (key (O.getD k d)) then bub key d (swapL d O (k + 1)) k else O
theorem bub_len (key : α → List Int) (d : α) : ∀ (k : Nat) (O : List α), (bub key d O k).length = O.length
  | 0, _ => rfl
  | k + 1, O => by
    rw [bub]
    split
    · rw [bub_len key d k, swapL_len]
    · rfl
def sortTo (key : α → List Int) (d : α) (O : List α) : Nat → List α
  | 0 => O
  | i + 1 => bub key d (sortTo key d O i) (i + 1)
theorem sortTo_len (key : α → List Int) (d : α) (O : List α) : ∀ i, (sortTo key d O i).length = O.length
  | 0 => rfl
  | i + 1 => by rw [sortTo, bub_len, sortTo_len key d O i]
theorem getD_key (key : α → List Int) (d : α) (O : List α) {k : Nat} (h : k < O.length) : (O.map key).getD k [] = key (O.getD k d) := by simp [h]
theorem swapL_map (key : α → List Int) (d : α) (O : List α) {k : Nat} (h : k < O.length) : (swapL d O k).map key = swapL [] (O.map key) k := by
  unfold swapL
  rw [List.map_set, List.map_set, getD_key key d O (by omega), getD_key key d O h]
theorem bub_map (key : α → List Int) (d : α) : ∀ (k : Nat) (O : List α), (k < O.length ∨ k = 0) → (bub key d O k).map key = bub id [] (O.map key) k
  | 0, _, _ => rfl
  | k + 1, O, h => by
    rw [bub, bub, getD_key key d O (by omega), getD_key key d O (by omega)]
    simp only [id]
    split
    · rw [bub_map key d k _ (by rw [swapL_len]; omega), swapL_map key d O (by omega)]
    · rfl
theorem sortTo_map (key : α → List Int) (d : α) (O : List α) : ∀ i, (i < O.length ∨ i = 0) → (sortTo key d O i).map key = sortTo id [] (O.map key) i
  | 0, _ => rfl
  | i + 1, h => by rw [sortTo, sortTo, bub_map key d (i + 1) _ (by rw [sortTo_len]; omega), sortTo_map key d O i (by omega)]
end
/-- All lists of so many numbers below n. -/
def picksF (P : Nat → List (List Int)) (m i : Nat) : List (List Int) := (List.range i).flatMap fun d => (P (m + d)).map (· ++ [((m + d : Nat) : Int)])
def picksL : Nat → Nat → List (List Int)
  | _, 0 => [[]]
  | n, m + 1 => sortTo id [] (picksF (fun k => picksL k m) m (n - m)) ((picksF (fun k => picksL k m) m (n - m)).length - 1)
theorem picksF_succ (P : Nat → List (List Int)) (m i : Nat) : picksF P m (i + 1) = picksF P m i ++ (P (m + i)).map (· ++ [((m + i : Nat) : Int)]) := by simp [picksF, List.range_succ]
theorem picksF_len (P : Nat → List (List Int)) (m B : Nat) {i : Nat} (hP : ∀ k, k < m + i → m ≤ k → (P k).length ≤ B) : (picksF P m i).length ≤ i * B := by
  induction i with
  | zero => simp [picksF]
  | succ i ih =>
    have := hP (m + i) (by omega) (by omega)
    have := ih fun k hk hk2 => hP k (by omega) hk2
    rw [picksF_succ, List.length_append, List.length_map, Nat.add_mul]
    omega
theorem picksL_len : ∀ (m n : Nat), n ≤ 8 → (picksL n m).length ≤ 8 ^ m
  | 0, n, _ => by simp [picksL]
  | m + 1, n, hn => by
    rw [picksL, sortTo_len]
    have := picksF_len (i := n - m) (fun k => picksL k m) m (8 ^ m) fun k hk hk2 => picksL_len m k (by omega)
    rw [Nat.pow_succ]
    have h2 : (n - m) * 8 ^ m ≤ 8 * 8 ^ m := Nat.mul_le_mul_right _ (by omega)
    omega
/-- The lists that Picks holds, each with its own block. -/
def FamT (w : World) (base : Nat) (L : List (Value × List Int)) : Prop := (∀ p ∈ L, w.ownsRow base 3 1 p.1 p.2.length (ivs p.2)) ∧ L.Pairwise fun p q => ∀ b, p.1.ownBlock = some b → q.1.ownBlock ≠ some b
theorem fam_lift {w w' : World} {base base' : Nat} {L : List (Value × List Int)} (h : FamT w base L) (k : ∀ v n xs, w.ownsRow base 3 1 v n xs → w'.ownsRow base' 3 1 v n xs) : FamT w' base' L :=
  ⟨fun p hp => k _ _ _ (h.1 p hp), h.2⟩
theorem fam_perm {w : World} {base : Nat} {L M : List (Value × List Int)} (h : FamT w base L) (hp : M.Perm L) : FamT w base M :=
  ⟨fun p hm => h.1 p (hp.mem_iff.1 hm), (hp.pairwise_iff (fun {x y} hxy b hb hx => hxy b hx hb)).2 h.2⟩
theorem fam_nil (w : World) (base : Nat) : FamT w base [] := ⟨fun p h => by simp at h, .nil⟩
theorem fam_row {w : World} {base : Nat} {L : List (Value × List Int)} (h : FamT w base L) {p : Value × List Int} (hp : p ∈ L) : RowOf w p.1 p.2 := by
  have o := h.1 p hp
  obtain ⟨a, c, e⟩ := owns_slice o
  refine ⟨a, c, e, ?_⟩
  rw [e, ivs_flat] at o
  exact rows_of_owns (row := intRow) o (fun _ => rfl)
theorem fam_put {w w' : World} {base : Nat} {x : Value} {m m' : List Int} {v : Value} {R : List (Value × List Int)} (h : FamT w base ((x, m) :: R)) (hv : w'.ownsRow base 3 1 v m'.length (ivs m')) (hg : w.grownBy w' x.ownBlock) (hb : v.ownBlock = x.ownBlock ∨ v.ownBlock = some w.heap.size) :
    FamT w' base ((v, m') :: R) := by
  obtain ⟨h1, h2⟩ := h
  obtain ⟨h3, h4⟩ := List.pairwise_cons.1 h2
  refine ⟨fun p hp => ?_, List.pairwise_cons.2 ⟨fun q hq b e => ?_, h4⟩⟩
  · rcases List.mem_cons.1 hp with rfl | hp
    · exact hv
    · refine (h1 p (List.mem_cons_of_mem _ hp)).kept hg ?_
      cases hx : x.ownBlock with
      | none =>
        cases hq : p.1.ownBlock with
        | none => exact .inl rfl
        | some c => exact .inr (by simp)
      | some b => exact .inr (h3 p hp b hx)
  · rcases hb with hb | hb
    · rw [hb] at e
      exact h3 q hq b e
    · intro hc
      have := (h1 q (List.mem_cons_of_mem _ hq)).lt b hc
      rw [hb] at e
      cases e
      omega
theorem fam_lt {w : World} {base : Nat} {L : List (Value × List Int)} (h : FamT w base L) : ∀ q ∈ L, ∀ b, q.1.ownBlock = some b → b < w.heap.size := fun q hq b e => ((h.1 q hq).lt b e).2
theorem fam_join {w : World} {b1 b2 : Nat} {L O : List (Value × List Int)} (hL : FamT w b1 L) (hO : FamT w b2 O) (hlt : ∀ q ∈ O, ∀ b, q.1.ownBlock = some b → b < b1) (hb : b2 ≤ b1) : FamT w b2 (L ++ O) := by
  refine ⟨fun p hp => ?_, List.pairwise_append.2 ⟨hL.2, hO.2, fun p hp q hq b e hc => ?_⟩⟩
  · rcases List.mem_append.1 hp with h | h
    · exact owns_lower (hL.1 p h) hb
    · exact hO.1 p h
  · have := (hL.1 p hp).lt b e
    have := hlt q hq b hc
    omega
theorem ivs_snoc1 (xs : List Int) (v : Int) : ivs xs ++ [.int .i64 v] = ivs (xs ++ [v]) := by simp [ivs]
def PicksPost (w : World) (n m : Nat) (e : Ending) (w' : World) : Prop :=
  ∃ (L : List (Value × List Int)) (a : Option Addr) (c : Nat), e = .returned (.slice a L.length c) ∧ L.map (·.2) = picksL n m ∧ w'.ownsRow w.heap.size 29 1 (.slice a L.length c) L.length (L.map (·.1)) ∧ FamT w' w.heap.size L ∧ Ext [] w w'
theorem owns_one {w : World} {base b : Nat} {e : TypeId} {v : Value} (h : w.heap[b]? = some (.cells #[v] e (0, 0))) (hb : base ≤ b) : w.ownsRow base e 1 (.slice (some ⟨b, 0, none⟩) 1 1) 1 [v] :=
  ⟨rfl, .inr ⟨b, 1, #[v], rfl, hb, h, Nat.le_refl _, by decide, rfl, rfl⟩⟩
theorem picks_zero (n : Nat) (w : World) : Calls Try.prog 76 #[.int .i64 n, .int .i64 0] w (PicksPost w n 0) := by
  have E : Ext [] w w := Ext.refl _ _
  refine calls_has 81 Try.func76 rfl Try.ntmps76 (Nat.le_of_ble_eq_true rfl) ?_
  intro fa F
  refine wp_seq_k fun K1 hK1 => ?_
  refine wp_region_lit ?_
  refine F.vl (R_assign rfl (ev_c fa _)) ?_; clear F fa; intro fa F
  refine wpList_nil ?_
  refine hK1 _ _ ?_
  clear hK1
  refine wp_seq_k fun K2 hK2 => ?_
  refine wp_seq_k fun K3 hK3 => ?_
  refine wp_region_lit ?_
  refine F.mv ?_; clear F fa; intro fa F
  refine F.vl (R_eqlB (b := true) rfl (F.at rfl) (ev_c fa _) (by decide)) ?_; clear F fa; intro fa F
  refine wpList_nil ?_
  refine hK3 _ _ ?_
  clear hK3
  refine cd_T F rfl ?_
  refine wp_seq_k fun K4 hK4 => ?_
  refine wp_region_lit ?_
  refine sq_new F rfl (by decide) rfl (R_buildSliceV rfl (prS (ev_c fa _) pr0) Try.underlying50 (size := 1) (by kernel_rfl) (by decide) (by decide) Try.zeroValue29 (cells := #[.slice none 0 0]) (by kernel_rfl)) ?_; clear F fa; intro fa w1 F hw
  obtain ⟨n13, hn⟩ : ∃ n, n = w.heap.size := ⟨_, rfl⟩
  rw [← hn] at F
  have s13 : w.heap.size ≤ n13 := Nat.le_of_eq hn.symm
  have l13_E : w.heap.size ≤ n13 := by rw [hn]; exact E.size
  replace E := ext_alloc E hw
  have q13 := new_block hw hn
  clear hw hn
  refine F.as ?_; clear F fa; intro fa F
  refine wpList_nil ?_
  refine hK4 _ _ ?_
  clear hK4
  refine wp_ret ?_
  (try simp only [Exit.inBlock, Exit.then])
  refine rt_v F (rs_1 F rfl rfl) ?_
  exact ⟨[(.slice none 0 0, [])], _, _, rfl, rfl, owns_one q13 (by omega), ⟨fun p hp => by obtain rfl : p = (.slice none 0 0, []) := (by simpa using hp); exact World.ownsRow_nil _ _ _ _, List.pairwise_singleton _ _⟩, E⟩
/-- The rows of Picks's outer slices. -/
def pRow (p : Value × List Int) : List Value := [p.1]
theorem pRow_flat (O : List (Value × List Int)) : O.map (·.1) = (O.map pRow).flatten := by
  induction O with
  | nil => rfl
  | cons a l ih => simp only [List.map_cons, List.flatten_cons, pRow, ih]; rfl
theorem own_lt' {w : World} {base n sz : Nat} {e : TypeId} {v : Value} {xs : List Value} (h : w.ownsRow base e sz v n xs) : ∀ k, v.ownBlock = some k → k < w.heap.size := fun k hk => (h.lt k hk).2
theorem own_apart {w : World} {BL n sz : Nat} {e : TypeId} {l v : Value} {xs : List Value} (h : w.ownsRow BL e sz l n xs) (hv : ∀ k, v.ownBlock = some k → k < BL) : l.ownBlock = none ∨ l.ownBlock ≠ v.ownBlock := by
  cases hl : l.ownBlock with
  | none => exact .inl rfl
  | some b =>
    refine .inr fun e => ?_
    have := (h.lt b hl).1
    have := hv b e.symm
    omega
theorem own_apart2 {w : World} {BL n sz : Nat} {e : TypeId} {l v v' : Value} {xs : List Value} (ha : l.ownBlock = none ∨ l.ownBlock ≠ v.ownBlock) (h : w.ownsRow BL e sz l n xs) (hb : v'.ownBlock = v.ownBlock ∨ v'.ownBlock = some w.heap.size) : l.ownBlock = none ∨ l.ownBlock ≠ v'.ownBlock := by
  rcases hb with hb | hb
  · rw [hb]
    exact ha
  · cases hl : l.ownBlock with
    | none => exact .inl rfl
    | some b =>
      refine .inr fun e => ?_
      rw [hb] at e
      cases e
      have := (h.lt _ hl).2
      omega
theorem bub_perm {α : Type} (key : α → List Int) (d : α) : ∀ (k : Nat) (O : List α), (k < O.length ∨ k = 0) → (bub key d O k).Perm O
  | 0, _, _ => .refl _
  | k + 1, O, h => by
    rw [bub]
    split
    · exact (bub_perm key d k _ (by rw [swapL_len]; omega)).trans (swapL_perm d (by omega))
    · exact .refl _
theorem sortTo_perm {α : Type} (key : α → List Int) (d : α) (O : List α) : ∀ i, (i < O.length ∨ i = 0) → (sortTo key d O i).Perm O
  | 0, _ => .refl _
  | i + 1, h => by
    rw [sortTo]
    exact (bub_perm key d (i + 1) _ (by rw [sortTo_len]; omega)).trans (sortTo_perm key d O i (by omega))
theorem picksL_mem : ∀ (m n : Nat), ∀ l ∈ picksL n m, l.length = m
  | 0, n, l, h => by obtain rfl : l = [] := (by simpa [picksL] using h); rfl
  | m + 1, n, l, h => by
    rw [picksL] at h
    have h := (sortTo_perm id [] _ _ (by omega)).mem_iff.1 h
    obtain ⟨d, -, h⟩ := List.mem_flatMap.1 h
    obtain ⟨l', h', rfl⟩ := List.mem_map.1 h
    rw [List.length_append, picksL_mem m _ l' h', List.length_singleton]
theorem picks_at_len (k m : Nat) {j : Nat} (hj : j < (picksL k m).length) : ((picksL k m).getD j []).length = m := picksL_mem m k _ (getD_mem [] hj)
theorem picksF_mem_len {n m : Nat} (hm : m ≤ 5) {l : List Int} {i : Nat} (h : l ∈ picksF (fun k => picksL k m) m i) : l.length ≤ 1000 := by
  obtain ⟨d, -, h⟩ := List.mem_flatMap.1 h
  obtain ⟨l', h', rfl⟩ := List.mem_map.1 h
  rw [List.length_append, picksL_mem m _ l' h', List.length_singleton]
  omega
theorem bub_stop {α : Type} {key : α → List Int} {d : α} {O : List α} {k : Nat} (h : k = 0 ∨ lessL (key (O.getD k d)) (key (O.getD (k - 1) d)) = false) : bub key d O k = O := by
  cases k with
  | zero => rfl
  | succ k =>
    rcases h with h | h
    · omega
    · rw [bub, if_neg (by rw [show k + 1 - 1 = k by omega] at h; rw [h]; simp)]
theorem bub_go {α : Type} {key : α → List Int} {d : α} {O : List α} {k : Nat} (hk : 0 < k) (h : lessL (key (O.getD k d)) (key (O.getD (k - 1) d)) = true) : bub key d O k = bub key d (swapL d O k) (k - 1) := by
  obtain ⟨k, rfl⟩ : ∃ j, k = j + 1 := ⟨k - 1, by omega⟩
  rw [show k + 1 - 1 = k by omega] at h ⊢
  rw [bub, if_pos h]
theorem swap_fst (O : List (Value × List Int)) (d : Value × List Int) (k : Nat) : (swapL d O k).map (·.1) = ((O.map (·.1)).set k (O.getD (k - 1) d).1).set (k - 1) (O.getD k d).1 := by
  unfold swapL
  rw [List.map_set, List.map_set]
theorem slAt_of_outer {w : World} {base n c : Nat} {a : Option Addr} {O : List (Value × List Int)} (h : w.ownsRow base 29 1 (.slice a n c) n (O.map (·.1))) (hn : n = O.length) : SlAt [] w a 1 O.length (fun i => [(O.getD i (.bool true, [])).1]) := by
  rw [pRow_flat] at h
  exact slAt_of_owns h hn (fun _ => rfl) [] (by simp) (.bool true, [])
theorem drop_cons {α : Type} (d : α) {L : List α} {i : Nat} (h : i < L.length) : L.drop i = L.getD i d :: L.drop (i + 1) := by
  rw [List.drop_eq_getElem_cons h]
  simp [h]
theorem take_snoc {α : Type} (d : α) {L : List α} {i : Nat} (h : i < L.length) : L.take (i + 1) = L.take i ++ [L.getD i d] := by
  rw [List.take_succ_eq_append_getElem h]
  simp [h]
set_option maxRecDepth 100000 in
set_option maxHeartbeats 1000000 in
theorem picks_succ (n m : Nat) (hn : n ≤ 8) (hm : m ≤ 5) (ih : ∀ k : Nat, k ≤ 8 → ∀ w, Calls Try.prog 76 #[.int .i64 (k : Nat), .int .i64 (m : Nat)] w (PicksPost w k m)) (w : World) :
    Calls Try.prog 76 #[.int .i64 n, .int .i64 ((m + 1 : Nat) : Int)] w (PicksPost w n (m + 1)) := by
  have E : Ext [] w w := Ext.refl _ _
  have hB8 : 8 ^ m ≤ 32768 := Nat.le_trans (Nat.pow_le_pow_right (by omega) hm) (by decide)
  have hPl : Hid (∀ k : Nat, k ≤ 8 → (picksL k m).length ≤ 8 ^ m) := fun k hk => picksL_len m k hk
  have oo : w.ownsRow w.heap.size 29 1 (.slice none 0 0) 0 (([] : List (Value × List Int)).map (·.1)) := World.ownsRow_nil _ _ _ _
  have fam : FamT w w.heap.size [] := fam_nil _ _
  refine calls_has 81 Try.func76 rfl Try.ntmps76 (Nat.le_of_ble_eq_true rfl) ?_
  intro fa F
  refine wp_seq_k fun K1 hK1 => ?_
  refine wp_region_lit ?_
  refine F.vl (R_assign rfl (ev_c fa _)) ?_; clear F fa; intro fa F
  refine wpList_nil ?_
  refine hK1 _ _ ?_
  clear hK1
  refine wp_seq_k fun K2 hK2 => ?_
  refine wp_seq_k fun K3 hK3 => ?_
  refine wp_region_lit ?_
  refine F.mv ?_; clear F fa; intro fa F
  refine F.vl (R_eqlD rfl (F.at rfl) (ev_c fa _)) ?_; clear F fa; intro fa F
  refine wpList_nil ?_
  refine hK3 _ _ ?_
  clear hK3
  refine cd_Fb F rfl (decide_eq_false ((by omega))) ?_
  refine wp_skip ?_
  refine hK2 _ _ ?_
  clear hK2
  refine wp_seq_k fun K4 hK4 => ?_
  refine wp_region_lit ?_
  refine F.vl (R_assign rfl (ev_c fa _)) ?_; clear F fa; intro fa F
  refine wpList_nil ?_
  refine hK4 _ _ ?_
  clear hK4
  refine wp_seq_k fun K5 hK5 => ?_
  refine wp_seq_k fun K6 hK6 => ?_
  refine wp_region_lit ?_
  refine F.mv ?_; clear F fa; intro fa F
  refine F.vl (R_sub rfl (F.at rfl) (ev_c fa _) (by omega) (by omega)) ?_; clear F fa; intro fa F
  rw [show (((m + 1 : Nat) : Int) - 1) = ((m + 0 : Nat) : Int) by omega] at F
  refine F.as ?_; clear F fa; intro fa F
  refine wpList_nil ?_
  refine hK6 _ _ ?_
  clear hK6
  refine wp_block ?_
  have F0 := F.sub (.c 0 rfl (.c 1 rfl .n))
  refine lp_for F0 (n - m) (fun i Lv W => ∃ va : Option Addr, ∃ vc : Nat, ∃ O : List (Value × List Int), Lv = [(5, .slice va O.length vc), (6, .int .i64 ((m + i : Nat) : Int))] ∧ Ext [] w W ∧ W.ownsRow w.heap.size 29 1 (.slice va O.length vc) O.length (O.map (·.1)) ∧ FamT W w.heap.size O ∧ O.map (·.2) = picksF (fun k => picksL k m) m i) ⟨_, ⟨none, 0, [], rfl, E, oo, fam, rfl⟩, F.sub (.c 5 rfl (.c 6 rfl (.c 0 rfl (.c 1 rfl .n))))⟩ ?_
  clear F F0
  clear E
  clear oo
  clear fam
  rintro i _ fa w1 hi1 ⟨va, vc, O, rfl, E, oo, fam, hO⟩ F
  have hOl : O.length ≤ 8 * 8 ^ m := by rw [← List.length_map (f := fun p : Value × List Int => p.2), hO]; exact Nat.le_trans (picksF_len _ m (8 ^ m) fun k hk hk2 => hPl.out k (by omega)) (Nat.mul_le_mul_right _ (by omega))
  refine wp_seq_k fun K7 hK7 => ?_
  refine wp_seq_k fun K8 hK8 => ?_
  refine wp_region_lit ?_
  refine F.mv ?_; clear F fa; intro fa F
  refine F.mv ?_; clear F fa; intro fa F
  refine F.vl (R_lss rfl (F.at rfl) (F.at rfl)) ?_; clear F fa; intro fa F
  refine wpList_nil ?_
  refine hK8 _ _ ?_
  clear hK8
  refine cd_if F rfl (fun hc18 => ?_) (fun hc18 => ?_)
  · skip
    refine wp_skip ?_
    refine hK7 _ _ ?_
    clear hK7
    refine wp_seq_k fun K9 hK9 => ?_
    refine wp_block ?_
    refine wp_seq_k fun K10 hK10 => ?_
    refine wp_region_lit ?_
    refine F.mv ?_; clear F fa; intro fa F
    refine F.mv ?_; clear F fa; intro fa F
    refine F.vl (R_sub rfl (F.at rfl) (ev_c fa _) (by omega) (by omega)) ?_; clear F fa; intro fa F
    rw [show (((m + 1 : Nat) : Int) - 1) = ((m : Nat) : Int) by omega] at F
    have hflt := Lib.hid (fam_lt fam)
    obtain ⟨BL, hBL⟩ : ∃ BL, BL = w1.heap.size := ⟨_, rfl⟩
    rw [← hBL] at hflt
    have hwBL : w.heap.size ≤ BL := by rw [hBL]; exact E.size
    have hooB := Lib.hid (own_lt' oo)
    rw [← hBL] at hooB
    refine sq_call F rfl (by decide) rfl (R_callV rfl rfl Try.call76 (mpS (F.at rfl) (mpS (F.at rfl) mp0))) (ih (m + i) (by omega) _) fun e w2 hR => ?_
    obtain ⟨L, la, lc, rfl, hLp, ol, famL, e1⟩ := hR
    refine ⟨_, rfl, ?_⟩; clear F fa; intro fa F
    replace oo := owns_ext oo (e1) (by simp)
    replace fam := fam_lift fam fun _ _ _ h => owns_ext h (e1) (by simp)
    replace E := ext_same E (e1)
    clear e1
    rw [← hBL] at ol famL
    clear hBL
    have hlo : Hid ((Value.slice la L.length lc).ownBlock = none ∨ (Value.slice la L.length lc).ownBlock ≠ (Value.slice va O.length vc).ownBlock) := own_apart ol hooB.out
    have fam2 := fam_join famL fam hflt.out hwBL
    clear fam famL hflt hooB
    have fam := fam2
    clear fam2
    have hLl : L.length ≤ 8 ^ m := by rw [← List.length_map (f := fun p : Value × List Int => p.2), hLp]; exact hPl.out _ (by omega)
    refine F.as ?_; clear F fa; intro fa F
    refine wpList_nil ?_
    refine hK10 _ _ ?_
    clear hK10
    refine wp_seq_k fun K11 hK11 => ?_
    refine wp_region_lit ?_
    refine F.vl (R_assign rfl (ev_c fa _)) ?_; clear F fa; intro fa F
    refine wpList_nil ?_
    refine hK11 _ _ ?_
    clear hK11
    refine wp_block ?_
    have F0 := F.sub (.c 0 rfl (.c 1 rfl (.c 6 rfl (.c 7 rfl .n))))
    refine lp_for F0 (L.length) (fun j Lv W => ∃ va2 : Option Addr, ∃ vc2 : Nat, ∃ P : List (Value × List Int), Lv = [(5, .slice va2 P.length vc2), (8, .int .i64 ((j : Nat) : Int))] ∧ Ext [] w W ∧ W.ownsRow BL 29 1 (.slice la L.length lc) L.length (L.map (·.1)) ∧ W.ownsRow w.heap.size 29 1 (.slice va2 P.length vc2) P.length (P.map (·.1)) ∧ FamT W w.heap.size (L.drop j ++ P) ∧ Hid ((Value.slice la L.length lc).ownBlock = none ∨ (Value.slice la L.length lc).ownBlock ≠ (Value.slice va2 P.length vc2).ownBlock) ∧ P.map (·.2) = O.map (·.2) ++ ((L.map (·.2)).take j).map (· ++ [((m + i : Nat) : Int)])) ⟨_, ⟨va, vc, O, rfl, E, ol, oo, fam, hlo, (by simp)⟩, F.sub (.c 5 rfl (.c 8 rfl (.c 0 rfl (.c 1 rfl (.c 6 rfl (.c 7 rfl .n))))))⟩ ?_
    clear F F0
    clear E ol
    clear oo
    clear fam
    rintro j _ fa w3 hi2 ⟨va2, vc2, P, rfl, E, ol, oo, fam, hlo, hP⟩ F
    have hPl2 : P.length = O.length + j := by have := congrArg List.length hP; simp only [List.length_map, List.length_append, List.length_take] at this; omega
    refine wp_seq_k fun K12 hK12 => ?_
    refine wp_seq_k fun K13 hK13 => ?_
    refine wp_region_lit ?_
    refine F.mv ?_; clear F fa; intro fa F
    refine F.mv ?_; clear F fa; intro fa F
    refine F.vl (R_len rfl rfl (F.at rfl) Try.underlying50) ?_; clear F fa; intro fa F
    refine F.vl (R_lss rfl (F.at rfl) (F.at rfl)) ?_; clear F fa; intro fa F
    refine wpList_nil ?_
    refine hK13 _ _ ?_
    clear hK13
    refine cd_if F rfl (fun hc28 => ?_) (fun hc28 => ?_)
    · skip
      refine wp_skip ?_
      refine hK12 _ _ ?_
      clear hK12
      refine wp_seq_k fun K14 hK14 => ?_
      refine wp_block ?_
      rw [drop_cons (.bool true, []) (show j < L.length by omega)] at fam
      obtain ⟨x, hxL⟩ : ∃ x, x = L.getD j (.bool true, []) := ⟨_, rfl⟩
      rw [← hxL] at fam
      have hx := fam.1 x (by simp)
      obtain ⟨ya, yc, hx1⟩ := owns_slice hx
      obtain ⟨x1, xm⟩ := x
      simp only at hx hx1
      subst hx1
      have EL : Ext [] w3 w3 := Ext.refl _ _
      have HLs := Lib.hid (slAt_of_outer ol rfl)
      have hxm : xm = (L.map (·.2)).getD j [] := by rw [getD_key (fun p : Value × List Int => p.2) (.bool true, []) L (by omega), ← hxL]
      have hxl : xm.length = m := by rw [hxm, hLp]; exact picks_at_len _ _ (by rw [← hLp, List.length_map]; omega)
      refine wp_region_lit ?_
      refine F.mv ?_; clear F fa; intro fa F
      refine F.mv ?_; clear F fa; intro fa F
      refine F.mv ?_; clear F fa; intro fa F
      obtain ⟨xb15, xo15, xa15, xr15⟩ := HLs.out j (by omega)
      refine F.vl (R_ixSlice (sz := 1) rfl ((F.at rfl).trans (xa15 _ _)) (F.at rfl) Try.underlying50 (by kernel_rfl) (by omega) (by omega)) ?_; clear F fa; intro fa F
      refine F.vl (R_load rfl (F.at rfl) Try.underlying29 rfl (xr15 _ EL 0 _ rfl)) ?_; clear F fa; intro fa F
      rw [← hxL] at F
      refine F.mv ?_; clear F fa; intro fa F
      refine sq_new F rfl (by decide) rfl (R_buildSliceV rfl (prS (F.at rfl) pr0) Try.underlying29 (size := 1) (by kernel_rfl) (by decide) (by decide) Try.zeroValue3 (cells := #[.int .i64 ((m + i : Nat) : Int)]) (by kernel_rfl)) ?_; clear F fa; intro fa w4 F hw
      obtain ⟨n37, hn⟩ : ∃ n, n = w3.heap.size := ⟨_, rfl⟩
      rw [← hn] at F
      have s37 : w3.heap.size ≤ n37 := Nat.le_of_eq hn.symm
      have l37_E : w.heap.size ≤ n37 := by rw [hn]; exact E.size
      have o37_oo := Lib.hid (own_ne_new oo hn)
      have o37_ol := Lib.hid (own_ne_new ol hn)
      have o37_hx := Lib.hid (own_ne_new hx hn)
      replace oo := owns_alloc hw oo
      replace fam := fam_lift fam fun _ _ _ h => owns_alloc hw h
      replace ol := owns_alloc hw ol
      replace hx := owns_alloc hw hx
      replace E := ext_alloc E hw
      have q37 := new_block hw hn
      clear hw hn
      have hEs := E.size
      refine sq_some F rfl (by decide) rfl (append_runB rfl (w.heap.size) (e := 3) (size := 1) (bytes := 8) Try.underlying29 (by kernel_rfl) (by decide) (F.at rfl) hx (F.at rfl) q37 rfl (by simp [Value.oneCell']) (by omega) (by omega) (by omega)) ?_; clear F fa; rintro fa v' w5 F ⟨hown', ⟨hg, hblk⟩⟩
      obtain ⟨va38, vc38, rfl⟩ := owns_slice hown'
      rw [ivs_snoc1] at hown'
      have fam2 := fam_put (m' := xm ++ [((m + i : Nat) : Int)]) fam (by rw [List.length_append]; exact hown') hg hblk
      replace oo := owns_other oo hx hg (by decide)
      replace fam := fam2
      replace ol := owns_other ol hx hg (by decide)
      replace E := ext_appendX E hx hg (by omega)
      replace hx := hown'
      clear hg
      clear fam2 hx hblk
      refine sq_new F rfl (by decide) rfl (R_buildSliceV rfl (prS (F.at rfl) pr0) Try.underlying50 (size := 1) (by kernel_rfl) (by decide) (by decide) Try.zeroValue29 (cells := #[.slice va38 (xm.length + 1) vc38]) (by kernel_rfl)) ?_; clear F fa; intro fa w6 F hw
      obtain ⟨n39, hn⟩ : ∃ n, n = w5.heap.size := ⟨_, rfl⟩
      rw [← hn] at F
      have s39 : w5.heap.size ≤ n39 := Nat.le_of_eq hn.symm
      have l39_E : w.heap.size ≤ n39 := by rw [hn]; exact E.size
      have o39_oo := Lib.hid (own_ne_new oo hn)
      have o39_ol := Lib.hid (own_ne_new ol hn)
      replace oo := owns_alloc hw oo
      replace fam := fam_lift fam fun _ _ _ h => owns_alloc hw h
      replace ol := owns_alloc hw ol
      replace E := ext_alloc E hw
      have q39 := new_block hw hn
      clear hw hn
      have hEs2 := E.size
      refine sq_some F rfl (by decide) rfl (append_runB rfl (w.heap.size) (e := 29) (size := 1) (bytes := 24) Try.underlying50 (by kernel_rfl) (by decide) (F.at rfl) oo (F.at rfl) q39 rfl (by simp [Value.oneCell']) (by omega) (by omega) (by omega)) ?_; clear F fa; rintro fa v' w7 F ⟨hown', ⟨hg, hblk⟩⟩
      obtain ⟨va40, vc40, rfl⟩ := owns_slice hown'
      have hlo2 := own_apart2 hlo.out ol hblk
      replace fam := fam_lift fam fun _ _ _ h => owns_other h oo hg (by decide)
      replace ol := ol.kept hg hlo.out
      replace E := ext_appendX E oo hg (by omega)
      replace oo := hown'
      clear hg
      obtain ⟨P2, hP2e⟩ : ∃ P2, P2 = P ++ [(Value.slice va38 (xm.length + 1) vc38, xm ++ [((m + i : Nat) : Int)])] := ⟨_, rfl⟩
      have hPl3 : P.length + 1 = P2.length := by rw [hP2e, List.length_append]; rfl
      have hP2 : P2.map (·.2) = O.map (·.2) ++ ((L.map (·.2)).take (j + 1)).map (· ++ [((m + i : Nat) : Int)]) := by rw [hP2e, List.map_append, hP, take_snoc [] (by rw [List.length_map]; omega), List.map_append, ← hxm, List.append_assoc]; rfl
      rw [show P.map (·.1) ++ [Value.slice va38 (xm.length + 1) vc38] = P2.map (·.1) by rw [hP2e, List.map_append]; rfl, hPl3] at oo
      rw [hPl3] at F hlo2
      replace fam : FamT w7 w.heap.size (L.drop (j + 1) ++ P2) := fam_perm fam (by rw [hP2e, ← List.append_assoc]; exact List.perm_append_comm)
      clear hlo
      have hlo := Lib.hid hlo2
      clear hlo2 hblk
      refine F.as ?_; clear F fa; intro fa F
      refine wpList_nil ?_
      refine hK14 _ _ ?_
      clear hK14
      refine wp_region_lit ?_
      refine F.mv ?_; clear F fa; intro fa F
      refine F.vl (R_add rfl (F.at rfl) (ev_c fa _) (by omega) (by omega)) ?_; clear F fa; intro fa F
      refine F.as ?_; clear F fa; intro fa F
      refine wpList_nil ?_
      show _ ∧ _
      exact ⟨by omega, _, ⟨_, _, _, rfl, E, ol, oo, fam, hlo, hP2⟩, F.sub (.c 5 rfl (.c 8 rfl (.c 0 rfl (.c 1 rfl (.c 6 rfl (.c 7 rfl .n))))))⟩
    · skip
      refine wp_exit ?_
      have hO3 : P.map (·.2) = picksF (fun k => picksL k m) m (i + 1) := by rw [hP, hO, picksF_succ, hLp, List.take_of_length_le (by rw [← hLp, List.length_map]; omega)]
      rw [List.drop_eq_nil_of_le (by omega), List.nil_append] at fam
      refine hK9 _ _ ?_
      clear hK9
      refine wp_region_lit ?_
      refine F.mv ?_; clear F fa; intro fa F
      refine F.vl (R_add rfl (F.at rfl) (ev_c fa _) (by omega) (by omega)) ?_; clear F fa; intro fa F
      refine F.as ?_; clear F fa; intro fa F
      refine wpList_nil ?_
      show _ ∧ _
      exact ⟨by omega, _, ⟨_, _, _, rfl, E, oo, fam, hO3⟩, F.sub (.c 5 rfl (.c 6 rfl (.c 0 rfl (.c 1 rfl .n))))⟩
  · skip
    refine wp_exit ?_
    obtain rfl : i = n - m := by omega
    have hOm : Hid (∀ x ∈ O, x.2.length ≤ 1000) := fun x hx => picksF_mem_len (n := n) hm (by rw [← hO]; exact List.mem_map_of_mem hx)
    have hOF : O.length = (picksF (fun k => picksL k m) m (n - m)).length := by rw [← hO, List.length_map]
    refine hK5 _ _ ?_
    clear hK5
    refine wp_seq_k fun K16 hK16 => ?_
    refine wp_seq_k fun K17 hK17 => ?_
    refine wp_region_lit ?_
    refine F.vl (R_assign rfl (ev_c fa _)) ?_; clear F fa; intro fa F
    refine wpList_nil ?_
    refine hK17 _ _ ?_
    clear hK17
    refine wp_block ?_
    have F0 := F.sub (.c 5 rfl .n)
    refine lp_for F0 (O.length - 1) (fun p Lv W => Lv = [(9, .int .i64 ((p + 1 : Nat) : Int))] ∧ Ext [] w W ∧ W.ownsRow w.heap.size 29 1 (.slice va O.length vc) O.length ((sortTo (fun p => p.2) (.bool true, []) O p).map (·.1)) ∧ FamT W w.heap.size (sortTo (fun p => p.2) (.bool true, []) O p)) ⟨_, ⟨rfl, E, oo, fam⟩, F.sub (.c 9 rfl (.c 5 rfl .n))⟩ ?_
    clear F F0
    clear E
    clear oo
    clear fam
    rintro p _ fa w8 hi3 ⟨rfl, E, oo, fam⟩ F
    refine wp_seq_k fun K18 hK18 => ?_
    refine wp_seq_k fun K19 hK19 => ?_
    refine wp_region_lit ?_
    refine F.mv ?_; clear F fa; intro fa F
    refine F.mv ?_; clear F fa; intro fa F
    refine F.vl (R_len rfl rfl (F.at rfl) Try.underlying50) ?_; clear F fa; intro fa F
    refine F.vl (R_lss rfl (F.at rfl) (F.at rfl)) ?_; clear F fa; intro fa F
    refine wpList_nil ?_
    refine hK19 _ _ ?_
    clear hK19
    refine cd_if F rfl (fun hc44 => ?_) (fun hc44 => ?_)
    · skip
      refine wp_skip ?_
      refine hK18 _ _ ?_
      clear hK18
      refine wp_seq_k fun K20 hK20 => ?_
      refine wp_block ?_
      refine wp_seq_k fun K21 hK21 => ?_
      refine wp_region_lit ?_
      refine F.mv ?_; clear F fa; intro fa F
      refine F.as ?_; clear F fa; intro fa F
      refine wpList_nil ?_
      refine hK21 _ _ ?_
      clear hK21
      refine wp_block ?_
      have F0 := F.sub (.c 5 rfl (.c 9 rfl .n))
      refine lp_for F0 (p + 1) (fun j Lv W => ∃ Q : List (Value × List Int), Lv = [(10, .int .i64 ((p + 1 - j : Nat) : Int))] ∧ Ext [] w W ∧ W.ownsRow w.heap.size 29 1 (.slice va O.length vc) O.length (Q.map (·.1)) ∧ FamT W w.heap.size Q ∧ bub (fun p => p.2) (.bool true, []) Q (p + 1 - j) = sortTo (fun p => p.2) (.bool true, []) O (p + 1) ∧ Q.length = O.length ∧ Hid (∀ x ∈ Q, x.2.length ≤ 1000)) ⟨_, ⟨_, rfl, E, oo, fam, rfl, sortTo_len _ _ _ _, Lib.hid fun x hx => hOm.out x ((sortTo_perm _ _ _ _ (by omega)).mem_iff.1 hx)⟩, F.sub (.c 10 rfl (.c 5 rfl (.c 9 rfl .n)))⟩ ?_
      clear F F0
      clear E
      clear oo
      clear fam
      rintro j _ fa w9 hi4 ⟨Q, rfl, E, oo, fam, hQ, hQl, hQm⟩ F
      refine wp_seq_k fun K22 hK22 => ?_
      refine wp_seq_k fun K23 hK23 => ?_
      have EX : Ext [] w9 w9 := Ext.refl _ _
      have HS := Lib.hid (slAt_of_outer oo hQl.symm)
      refine wp_region_st 12 follows (by kernel_rfl) fun w10 hh eh => ?_
      replace E := ext_same E eh
      replace EX := ext_same EX eh
      replace oo := owns_same hh oo
      replace fam := fam_lift fam fun _ _ _ h => owns_same hh h
      clear hh eh
      refine F.smv ?_; clear F fa; intro fa F
      refine F.sv (R_gtr rfl (F.at rfl) (ev_c fa _)) ?_; clear F fa; intro fa F
      refine F.smv ?_; clear F fa; intro fa F
      by_cases hg1 : (0 < ((p + 1 - j : Nat) : Int))
      · skip
        replace F := F.re (k := 50) rfl (congrArg Value.bool (decide_eq_true hg1))
        refine F.smv ?_ (hw := (wantT F rfl rfl (by decide) rfl)); clear F fa; intro fa F
        refine F.smv ?_ (hw := (wantT F rfl rfl (by decide) rfl)); clear F fa; intro fa F
        obtain ⟨xb24, xo24, xa24, xr24⟩ := HS.out (p + 1 - j) (by omega)
        refine F.sv (R_ixSlice (sz := 1) rfl ((F.at rfl).trans (xa24 _ _)) (F.at rfl) Try.underlying50 (by kernel_rfl) (by omega) (by omega)) ?_ (hw := (wantT F rfl rfl (by decide) rfl)); clear F fa; intro fa F
        refine F.sv (R_load rfl (F.at rfl) Try.underlying29 rfl (xr24 _ EX 0 _ rfl)) ?_ (hw := (wantT F rfl rfl (by decide) rfl)); clear F fa; intro fa F
        refine F.smv ?_ (hw := (wantT F rfl rfl (by decide) rfl)); clear F fa; intro fa F
        refine F.smv ?_ (hw := (wantT F rfl rfl (by decide) rfl)); clear F fa; intro fa F
        refine F.sv (R_sub rfl (F.at rfl) (ev_c fa _) (by omega) (by omega)) ?_ (hw := (wantT F rfl rfl (by decide) rfl)); clear F fa; intro fa F
        obtain ⟨xb25, xo25, xa25, xr25⟩ := HS.out ((((p + 1 - j : Nat) : Int) - 1).toNat) (by omega)
        refine F.sv (R_ixSlice (sz := 1) rfl ((F.at rfl).trans (xa25 _ _)) (F.at rfl) Try.underlying50 (by kernel_rfl) (by omega) (by omega)) ?_ (hw := (wantT F rfl rfl (by decide) rfl)); clear F fa; intro fa F
        refine F.sv (R_load rfl (F.at rfl) Try.underlying29 rfl (xr25 _ EX 0 _ rfl)) ?_ (hw := (wantT F rfl rfl (by decide) rfl)); clear F fa; intro fa F
        refine wpStill_nil ?_
        rw [show ((((p + 1 - j : Nat) : Int) - 1).toNat) = p + 1 - j - 1 by omega] at F
        refine sq_call F rfl (by decide) (wantT F rfl rfl (by decide) rfl) (R_callV rfl rfl Try.call129 (mpS (F.at rfl) (mpS (F.at rfl) mp0))) (less_rows (fam_row fam (getD_mem (.bool true, []) (show p + 1 - j < Q.length by omega))) (fam_row fam (getD_mem (.bool true, []) (show p + 1 - j - 1 < Q.length by omega))) (by have := hQm.out _ (getD_mem (.bool true, []) (show p + 1 - j < Q.length by omega)); omega) (by have := hQm.out _ (getD_mem (.bool true, []) (show p + 1 - j - 1 < Q.length by omega)); omega)) fun e w11 hR => ?_
        obtain ⟨rfl, e9⟩ := hR
        refine ⟨_, rfl, ?_⟩; clear F fa; intro fa F
        replace oo := owns_ext oo (e9) (by simp)
        replace fam := fam_lift fam fun _ _ _ h => owns_ext h (e9) (by simp)
        replace E := ext_same E (e9)
        replace EX := ext_same EX (e9)
        clear e9
        refine F.vl (R_pickT rfl (F.at rfl) (F.at rfl)) ?_; clear F fa; intro fa F
        refine wpList_nil ?_
        refine hK23 _ _ ?_
        clear hK23
        refine cd_b F rfl (fun hc61 => ?_) (fun hc61 => ?_)
        · skip
          refine wp_skip ?_
          refine hK22 _ _ ?_
          clear hK22
          refine wp_seq_k fun K26 hK26 => ?_
          refine wp_block ?_
          have EX : Ext [] w11 w11 := Ext.refl _ _
          have HS := Lib.hid (slAt_of_outer oo hQl.symm)
          obtain ⟨ua, uc, hu⟩ := owns_slice (fam.1 _ (getD_mem (.bool true, []) (show p + 1 - j < Q.length by omega)))
          obtain ⟨ta, tc, ht⟩ := owns_slice (fam.1 _ (getD_mem (.bool true, []) (show p + 1 - j - 1 < Q.length by omega)))
          refine region_x (Ext [] w11) (some 15) follows fun w12 hh eh => ?_
          have E_ := E
          have zEw12 := E.size
          replace E := ext_same E eh
          have EX_ := EX
          have zEXw12 := EX.size
          replace EX := ext_same EX eh
          replace oo := owns_same hh oo
          replace fam := fam_lift fam fun _ _ _ h => owns_same hh h
          have eT := eh
          clear hh eh
          refine F.x (i := 0) rfl (fun w' => R_move rfl (F.at rfl)) (fun _ => eT) ?_; clear F fa; intro fa F
          refine F.x (i := 1) rfl (fun w' => R_move rfl (F.at rfl)) (fun _ => eT) ?_; clear F fa; intro fa F
          refine F.x (i := 2) rfl (fun w' => R_move rfl (F.at rfl)) (fun _ => eT) ?_; clear F fa; intro fa F
          refine F.x (i := 3) rfl (fun w' => R_move rfl (F.at rfl)) (fun _ => eT) ?_; clear F fa; intro fa F
          refine F.x (i := 4) rfl (fun w' => R_sub rfl (F.at rfl) (ev_c fa _) (by omega) (by omega)) (fun _ => eT) ?_; clear F fa; intro fa F
          refine F.x (i := 5) rfl (fun w' => R_move rfl (F.at rfl)) (fun _ => eT) ?_; clear F fa; intro fa F
          refine F.x (i := 6) rfl (fun w' => R_move rfl (F.at rfl)) (fun _ => eT) ?_; clear F fa; intro fa F
          refine F.x (i := 7) rfl (fun w' => R_sub rfl (F.at rfl) (ev_c fa _) (by omega) (by omega)) (fun _ => eT) ?_; clear F fa; intro fa F
          obtain ⟨xb27, xo27, xa27, xr27⟩ := HS.out ((((p + 1 - j : Nat) : Int) - 1).toNat) (by omega)
          refine F.x (i := 8) rfl (fun w' => R_ixSlice (sz := 1) rfl ((F.at rfl).trans (xa27 _ _)) (F.at rfl) Try.underlying50 (by kernel_rfl) (by omega) (by omega)) (fun _ => eT) ?_; clear F fa; intro fa F
          refine F.xr (i := 9) rfl (fun w' hS => R_load rfl (F.at rfl) Try.underlying29 rfl (xr27 _ (EX_.nil hS) 0 _ rfl)) (fun _ => eT) ?_; clear F fa; intro fa F
          rw [show ((((p + 1 - j : Nat) : Int) - 1).toNat) = p + 1 - j - 1 by omega, ht] at F
          refine F.x (i := 10) rfl (fun w' => R_move rfl (F.at rfl)) (fun _ => eT) ?_; clear F fa; intro fa F
          refine F.x (i := 11) rfl (fun w' => R_move rfl (F.at rfl)) (fun _ => eT) ?_; clear F fa; intro fa F
          obtain ⟨xb28, xo28, xa28, xr28⟩ := HS.out (p + 1 - j) (by omega)
          refine F.x (i := 12) rfl (fun w' => R_ixSlice (sz := 1) rfl ((F.at rfl).trans (xa28 _ _)) (F.at rfl) Try.underlying50 (by kernel_rfl) (by omega) (by omega)) (fun _ => eT) ?_; clear F fa; intro fa F
          refine F.xr (i := 13) rfl (fun w' hS => R_load rfl (F.at rfl) Try.underlying29 rfl (xr28 _ (EX_.nil hS) 0 _ rfl)) (fun _ => eT) ?_; clear F fa; intro fa F
          rw [hu] at F
          obtain ⟨xb29, xo29, xa29, xr29⟩ := HS.out (p + 1 - j) (by omega)
          refine F.x (i := 14) rfl (fun w' => R_ixSlice (sz := 1) rfl ((F.at rfl).trans (xa29 _ _)) (F.at rfl) Try.underlying50 (by kernel_rfl) (by omega) (by omega)) (fun _ => eT) ?_; clear F fa; intro fa F
          obtain ⟨⟨u0, hcu⟩, hfu, hst⟩ := owns_at oo xa29 (j := p + 1 - j) (p := xo29 + ((p + 1 - j : Nat) : Int).toNat * 1) (by first | omega | (simp; omega)) (by omega)
          refine ax_only (i := 15) (by kernel_rfl) (op_to rfl rfl rfl (R_store rfl (F.at rfl) (F.at rfl) rfl (by kernel_rfl) hcu hfu) ?_); intro w13 hw
          obtain ⟨hown', hg⟩ := hst _ _ hw
          clear hst hcu hfu hw
          replace fam := fam_lift fam fun _ _ _ h => owns_other h oo hg (by decide)
          replace E := ext_appendX E oo hg (by omega)
          replace oo := hown'
          clear hg
          refine ⟨gone (by kernel_rfl), ?_⟩
          obtain ⟨xb30, xo30, xa30, xr30⟩ := HS.out ((((p + 1 - j : Nat) : Int) - 1).toNat) (by omega)
          refine F.x (i := 16) rfl (fun w' => R_ixSlice (sz := 1) rfl ((F.at rfl).trans (xa30 _ _)) (F.at rfl) Try.underlying50 (by kernel_rfl) (by omega) (by omega)) (gone (by kernel_rfl)) ?_; clear F fa; intro fa F
          obtain ⟨⟨u0, hcu⟩, hfu, hst⟩ := owns_at oo xa30 (j := p + 1 - j - 1) (p := xo30 + (((p + 1 - j : Nat) : Int) - 1).toNat * 1) (by first | omega | (simp; omega)) (by omega)
          refine ax_only (i := 17) (by kernel_rfl) (op_to rfl rfl rfl (R_store rfl (F.at rfl) (F.at rfl) rfl (by kernel_rfl) hcu hfu) ?_); intro w14 hw
          obtain ⟨hown', hg⟩ := hst _ _ hw
          clear hst hcu hfu hw
          replace fam := fam_lift fam fun _ _ _ h => owns_other h oo hg (by decide)
          replace E := ext_appendX E oo hg (by omega)
          replace oo := hown'
          clear hg
          refine ⟨gone (by kernel_rfl), ?_⟩
          rw [← hu, ← ht, ← swap_fst Q (.bool true, []) (p + 1 - j)] at oo
          replace fam := fam_perm fam (swapL_perm (.bool true, []) (show p + 1 - j < Q.length by omega))
          refine ax_done (by kernel_rfl) ?_ _
          clear eT E_ EX_
          refine hK26 _ _ ?_
          clear hK26
          refine wp_region_lit ?_
          refine F.mv ?_; clear F fa; intro fa F
          refine F.vl (R_sub rfl (F.at rfl) (ev_c fa _) (by omega) (by omega)) ?_; clear F fa; intro fa F
          rw [show (((p + 1 - j : Nat) : Int) - 1) = ((p + 1 - (j + 1) : Nat) : Int) by omega] at F
          refine F.as ?_; clear F fa; intro fa F
          refine wpList_nil ?_
          show _ ∧ _
          exact ⟨by omega, _, ⟨_, rfl, E, oo, fam, (by rw [← hQ, bub_go (by omega) hc61]; congr 1), (by rw [swapL_len, hQl]), Lib.hid fun x hx => hQm.out x ((swapL_perm (.bool true, []) (show p + 1 - j < Q.length by omega)).mem_iff.1 hx)⟩, F.sub (.c 10 rfl (.c 5 rfl (.c 9 rfl .n)))⟩
        · skip
          refine wp_exit ?_
          have hQ2 : Q = sortTo (fun p => p.2) (.bool true, []) O (p + 1) := by rw [← hQ]; exact (bub_stop (by first | exact .inl (by omega) | exact .inr hc61)).symm
          rw [hQ2] at oo fam
          refine hK20 _ _ ?_
          clear hK20
          refine wp_region_lit ?_
          refine F.mv ?_; clear F fa; intro fa F
          refine F.vl (R_add rfl (F.at rfl) (ev_c fa _) (by omega) (by omega)) ?_; clear F fa; intro fa F
          refine F.as ?_; clear F fa; intro fa F
          refine wpList_nil ?_
          show _ ∧ _
          exact ⟨by omega, _, ⟨rfl, E, oo, fam⟩, F.sub (.c 9 rfl (.c 5 rfl .n))⟩
      · skip
        replace F := F.re (k := 50) rfl (congrArg Value.bool (decide_eq_false hg1))
        refine st_no F rfl (by decide) (wantF F rfl rfl (by decide) rfl (by decide)) ?_; clear F fa; intro fa F
        refine st_no F rfl (by decide) (wantF F rfl rfl (by decide) rfl (by decide)) ?_; clear F fa; intro fa F
        refine st_no F rfl (by decide) (wantF F rfl rfl (by decide) rfl (by decide)) ?_; clear F fa; intro fa F
        refine st_no F rfl (by decide) (wantF F rfl rfl (by decide) rfl (by decide)) ?_; clear F fa; intro fa F
        refine st_no F rfl (by decide) (wantF F rfl rfl (by decide) rfl (by decide)) ?_; clear F fa; intro fa F
        refine st_no F rfl (by decide) (wantF F rfl rfl (by decide) rfl (by decide)) ?_; clear F fa; intro fa F
        refine st_no F rfl (by decide) (wantF F rfl rfl (by decide) rfl (by decide)) ?_; clear F fa; intro fa F
        refine st_no F rfl (by decide) (wantF F rfl rfl (by decide) rfl (by decide)) ?_; clear F fa; intro fa F
        refine st_no F rfl (by decide) (wantF F rfl rfl (by decide) rfl (by decide)) ?_; clear F fa; intro fa F
        refine wpStill_nil ?_
        refine sq_no F rfl (by decide) (wantF F rfl rfl (by decide) rfl (by decide)) ?_; clear F fa; intro fa F
        refine F.vl (R_pickF rfl (F.at rfl) (ev_c fa _)) ?_; clear F fa; intro fa F
        refine wpList_nil ?_
        refine hK23 _ _ ?_
        clear hK23
        refine cd_F F rfl ?_
        refine wp_exit ?_
        have hQ2 : Q = sortTo (fun p => p.2) (.bool true, []) O (p + 1) := by rw [← hQ]; exact (bub_stop (by first | exact .inl (by omega) | exact .inr hc61)).symm
        rw [hQ2] at oo fam
        refine hK20 _ _ ?_
        clear hK20
        refine wp_region_lit ?_
        refine F.mv ?_; clear F fa; intro fa F
        refine F.vl (R_add rfl (F.at rfl) (ev_c fa _) (by omega) (by omega)) ?_; clear F fa; intro fa F
        refine F.as ?_; clear F fa; intro fa F
        refine wpList_nil ?_
        show _ ∧ _
        exact ⟨by omega, _, ⟨rfl, E, oo, fam⟩, F.sub (.c 9 rfl (.c 5 rfl .n))⟩
    · skip
      refine wp_exit ?_
      obtain rfl : p = O.length - 1 := by omega
      refine hK16 _ _ ?_
      clear hK16
      refine wp_seq_k fun K31 hK31 => ?_
      refine wp_region_lit ?_
      refine F.mv ?_; clear F fa; intro fa F
      refine F.as ?_; clear F fa; intro fa F
      refine wpList_nil ?_
      refine hK31 _ _ ?_
      clear hK31
      refine wp_ret ?_
      (try simp only [Exit.inBlock, Exit.then])
      refine rt_v F (rs_1 F rfl rfl) ?_
      exact ⟨sortTo (fun p => p.2) (.bool true, []) O (O.length - 1), va, vc, by rw [sortTo_len], by rw [sortTo_map (fun p : Value × List Int => p.2) (.bool true, []) O _ (by omega), hO, picksL, hOF], by rw [sortTo_len]; exact oo, fam, E⟩
theorem picks_any : ∀ (m : Nat), m ≤ 6 → ∀ n : Nat, n ≤ 8 → ∀ w, Calls Try.prog 76 #[.int .i64 (n : Nat), .int .i64 (m : Nat)] w (PicksPost w n m)
  | 0, _, n, _, w => picks_zero n w
  | m + 1, hm, n, hn, w => picks_succ n m hn (by omega) (fun k hk w => picks_any m (by omega) k hk w) w
theorem srcAt_of_outer {w : World} {BL n lc base : Nat} {la : Option Addr} {L : List (Value × List Int)} (ol : w.ownsRow BL 29 1 (.slice la n lc) n (L.map (·.1))) (fam : FamT w base L) : SrcAt w 1 la n (L.map (·.1)) := by
  refine ⟨ol.1, fun h => ?_, fun a0 h j v hv => ?_, fun u hu => ?_⟩
  · subst h
    rcases ol.2 with ⟨-, h⟩ | ⟨g, cap, cur, h, -⟩
    · exact h
    · cases h
  · subst h
    rcases ol.2 with ⟨h, -⟩ | ⟨g, cap, cur, h, -⟩
    · cases h
    · cases h
      exact ol.cells (g := g) rfl j v hv
  · obtain ⟨p, hp, rfl⟩ := List.mem_map.1 hu
    obtain ⟨a, c, e⟩ := owns_slice (fam.1 p hp)
    rw [e]
    rfl
/-- All lists of numbers below n, of less than k. -/
def listsL (k n : Nat) : List (List Int) := (List.range k).flatMap (picksL n)
theorem listsL_succ (k n : Nat) : listsL (k + 1) n = listsL k n ++ picksL n k := by simp [listsL, List.range_succ]
theorem listsL_len (n : Nat) (hn : n ≤ 8) : ∀ k, k ≤ 6 → (listsL k n).length ≤ k * 32768
  | 0, _ => by simp [listsL]
  | k + 1, hk => by
    have := listsL_len n hn k (by omega)
    have h2 := picksL_len k n hn
    have h3 : 8 ^ k ≤ 32768 := Nat.le_trans (Nat.pow_le_pow_right (by omega) (show k ≤ 5 by omega)) (by decide)
    rw [listsL_succ, List.length_append]
    omega
def ListsPost (w : World) (n : Nat) (e : Ending) (w' : World) : Prop :=
  ∃ (L : List (Value × List Int)) (a : Option Addr) (c : Nat), e = .returned (.slice a L.length c) ∧ L.map (·.2) = listsL (n + 1) n ∧ w'.ownsRow w.heap.size 29 1 (.slice a L.length c) L.length (L.map (·.1)) ∧ FamT w' w.heap.size L ∧ Ext [] w w'
set_option maxRecDepth 100000 in
theorem lists_any (n : Nat) (hn : n ≤ 5) (w : World) : Calls Try.prog 48 #[.int .i64 (n : Nat)] w (ListsPost w n) := by
  have E : Ext [] w w := Ext.refl _ _
  have oo : w.ownsRow w.heap.size 29 1 (.slice none 0 0) 0 (([] : List (Value × List Int)).map (·.1)) := World.ownsRow_nil _ _ _ _
  have fam : FamT w w.heap.size [] := fam_nil _ _
  refine calls_has 16 Try.func48 rfl Try.ntmps48 (Nat.le_of_ble_eq_true rfl) ?_
  intro fa F
  refine wp_seq_k fun K1 hK1 => ?_
  refine wp_region_lit ?_
  refine F.vl (R_assign rfl (ev_c fa _)) ?_; clear F fa; intro fa F
  refine wpList_nil ?_
  refine hK1 _ _ ?_
  clear hK1
  refine wp_seq_k fun K2 hK2 => ?_
  refine wp_region_lit ?_
  refine F.vl (R_assign rfl (ev_c fa _)) ?_; clear F fa; intro fa F
  refine wpList_nil ?_
  refine hK2 _ _ ?_
  clear hK2
  refine wp_seq_k fun K3 hK3 => ?_
  refine wp_seq_k fun K4 hK4 => ?_
  refine wp_region_lit ?_
  refine F.vl (R_assign rfl (ev_c fa _)) ?_; clear F fa; intro fa F
  refine wpList_nil ?_
  refine hK4 _ _ ?_
  clear hK4
  refine wp_block ?_
  have F0 := F.sub (.c 0 rfl .n)
  refine lp_for F0 (n + 1) (fun i Lv W => ∃ va : Option Addr, ∃ vc : Nat, ∃ O : List (Value × List Int), Lv = [(3, .slice va O.length vc), (4, .int .i64 ((i : Nat) : Int))] ∧ Ext [] w W ∧ W.ownsRow w.heap.size 29 1 (.slice va O.length vc) O.length (O.map (·.1)) ∧ FamT W w.heap.size O ∧ O.map (·.2) = listsL i n) ⟨_, ⟨none, 0, [], rfl, E, oo, fam, rfl⟩, F.sub (.c 3 rfl (.c 4 rfl (.c 0 rfl .n)))⟩ ?_
  clear F F0
  clear E
  clear oo
  clear fam
  rintro i _ fa w1 hi1 ⟨va, vc, O, rfl, E, oo, fam, hO⟩ F
  have hOl : O.length ≤ i * 32768 := by rw [← List.length_map (f := fun p : Value × List Int => p.2), hO]; exact listsL_len n (by omega) i (by omega)
  refine wp_seq_k fun K5 hK5 => ?_
  refine wp_seq_k fun K6 hK6 => ?_
  refine wp_region_lit ?_
  refine F.mv ?_; clear F fa; intro fa F
  refine F.mv ?_; clear F fa; intro fa F
  refine F.vl (R_leq rfl (F.at rfl) (F.at rfl)) ?_; clear F fa; intro fa F
  refine wpList_nil ?_
  refine hK6 _ _ ?_
  clear hK6
  refine cd_if F rfl (fun hc7 => ?_) (fun hc7 => ?_)
  · skip
    refine wp_skip ?_
    refine hK5 _ _ ?_
    clear hK5
    refine wp_seq_k fun K7 hK7 => ?_
    refine wp_block ?_
    refine wp_region_lit ?_
    refine F.mv ?_; clear F fa; intro fa F
    refine F.mv ?_; clear F fa; intro fa F
    refine F.mv ?_; clear F fa; intro fa F
    have hflt := Lib.hid (fam_lt fam)
    obtain ⟨BL, hBL⟩ : ∃ BL, BL = w1.heap.size := ⟨_, rfl⟩
    rw [← hBL] at hflt
    have hwBL : w.heap.size ≤ BL := by rw [hBL]; exact E.size
    refine sq_call F rfl (by decide) rfl (R_callV rfl rfl Try.call76 (mpS (F.at rfl) (mpS (F.at rfl) mp0))) (picks_any i (by omega) n (by omega) _) fun e w2 hR => ?_
    obtain ⟨L, la, lc, rfl, hLp, ol, famL, e1⟩ := hR
    refine ⟨_, rfl, ?_⟩; clear F fa; intro fa F
    replace oo := owns_ext oo (e1) (by simp)
    replace fam := fam_lift fam fun _ _ _ h => owns_ext h (e1) (by simp)
    replace E := ext_same E (e1)
    clear e1
    rw [← hBL] at ol famL
    clear hBL
    have fam2 := fam_perm (fam_join famL fam hflt.out hwBL) List.perm_append_comm
    have hsrc := srcAt_of_outer ol famL
    have hLl : L.length ≤ 32768 := by rw [← List.length_map (f := fun p : Value × List Int => p.2), hLp]; exact Nat.le_trans (picksL_len i n (by omega)) (Nat.le_trans (Nat.pow_le_pow_right (by omega) (show i ≤ 5 by omega)) (by decide))
    clear fam famL hflt ol
    have fam := fam2
    clear fam2
    have hEs := E.size
    refine sq_some F rfl (by decide) rfl (appends_run rfl (w.heap.size) (e := 29) (size := 1) (bytes := 24) Try.underlying50 (by kernel_rfl) (by decide) (F.at rfl) oo (F.at rfl) hsrc (by omega) (by omega) (by omega)) ?_; clear F fa; rintro fa v' w3 F ⟨hown', hg⟩
    obtain ⟨va14, vc14, rfl⟩ := owns_slice hown'
    replace fam := fam_lift fam fun _ _ _ h => owns_other h oo hg (by decide)
    replace E := ext_appendX E oo hg (by omega)
    replace oo := hown'
    clear hg
    obtain ⟨P2, hP2e⟩ : ∃ P2, P2 = O ++ L := ⟨_, rfl⟩
    have hPl3 : O.length + L.length = P2.length := by rw [hP2e, List.length_append]
    have hO3 : P2.map (·.2) = listsL (i + 1) n := by rw [hP2e, List.map_append, hO, hLp, listsL_succ]
    rw [← List.map_append, ← hP2e, hPl3] at oo
    rw [hPl3] at F
    rw [← hP2e] at fam
    refine F.as ?_; clear F fa; intro fa F
    refine wpList_nil ?_
    refine hK7 _ _ ?_
    clear hK7
    refine wp_region_lit ?_
    refine F.mv ?_; clear F fa; intro fa F
    refine F.vl (R_add rfl (F.at rfl) (ev_c fa _) (by omega) (by omega)) ?_; clear F fa; intro fa F
    refine F.as ?_; clear F fa; intro fa F
    refine wpList_nil ?_
    show _ ∧ _
    exact ⟨by omega, _, ⟨_, _, _, rfl, E, oo, fam, hO3⟩, F.sub (.c 3 rfl (.c 4 rfl (.c 0 rfl .n)))⟩
  · skip
    refine wp_exit ?_
    obtain rfl : i = n + 1 := by omega
    refine hK3 _ _ ?_
    clear hK3
    refine wp_seq_k fun K8 hK8 => ?_
    refine wp_region_lit ?_
    refine F.mv ?_; clear F fa; intro fa F
    refine F.as ?_; clear F fa; intro fa F
    refine wpList_nil ?_
    refine hK8 _ _ ?_
    clear hK8
    refine wp_ret ?_
    (try simp only [Exit.inBlock, Exit.then])
    refine rt_v F (rs_1 F rfl rfl) ?_
    exact ⟨O, va, vc, rfl, hO, oo, fam, E⟩
theorem R_neqBB {P : Program} {ρ : Operand → Value} {o : Oper} {w : World} {x y : Operand} {t t' : TypeId} {a b : Bool} (ho : o.op = .binOp .neq t x y t') (hx : ρ x = .bool a) (hy : ρ y = .bool b) (hu : P.underlying t = some .bool) : (execOp ρ o).run P w = .ok (.value (.bool (a != b))) w := by
  unfold execOp
  cases a <;> cases b <;> simp [ho, hx, hy, eqGuard, binOp, Op.equal, go_sem, run_equalIn_bool w 9999 t _ _ hu, Op.maxDepth]
/-- Which readings stay, and the tapes with just these. -/
def keepB (xs : List Int) (but : Bool) (i : Nat) : Bool := (decide (atI xs i ≥ 0)) != but
def someR (t : Tp) (xs : List Int) (but : Bool) (n : Nat) : List (Int × Int × Int × Int) := ((List.range n).filter (keepB xs but)).map fun i => t.rd.getD i (0, 0, 0, 0)
def someT (t : Tp) (xs : List Int) (but : Bool) : Tp := { t with rd := someR t xs but t.rd.length }
theorem someR_yes {t : Tp} {xs : List Int} {but : Bool} {n : Nat} (h : keepB xs but n = true) : someR t xs but (n + 1) = someR t xs but n ++ [t.rd.getD n (0, 0, 0, 0)] := by
  simp [someR, List.range_succ, List.filter_append, h]
theorem someR_no {t : Tp} {xs : List Int} {but : Bool} {n : Nat} (h : keepB xs but n = false) : someR t xs but (n + 1) = someR t xs but n := by
  simp [someR, List.range_succ, List.filter_append, h]
theorem someR_len (t : Tp) (xs : List Int) (but : Bool) (n : Nat) : (someR t xs but n).length ≤ n := by
  unfold someR
  rw [List.length_map]
  exact Nat.le_trans (List.length_filter_le _ _) (by simp)
theorem at_row {xs : List Int} {v : Value} {w : World} (n : Int) (h : RowOf w v xs) (hl : xs.length ≤ 1000000) : Calls Try.prog 60 #[v, .int .i64 n] w fun e w' => e = .returned (.int .i64 (atI xs n)) ∧ Ext [] w w' := by
  obtain ⟨a, c, rfl, h⟩ := h
  exact at_any xs n a c w h hl
theorem RowOf.ext {w w' : World} {v : Value} {xs : List Int} (h : RowOf w v xs) (e : Ext [] w w') : RowOf w' v xs := by
  obtain ⟨a, c, h1, h2⟩ := h
  exact ⟨a, c, h1, h2.ext e (by simp)⟩
theorem rows_of_owns4 {w : World} {base : Nat} {v : Value} {xs : List (Int × Int × Int × Int)} (h : w.ownsRow base 66 4 v xs.length (flatR xs)) : IsRows w v 4 (xs.map rdRow) := rows_of_owns (row := rdRow) h (fun _ => rfl)
def SomePost (t : Tp) (xs : List Int) (but : Bool) (gv lv : Value) (w : World) (e : Ending) (w' : World) : Prop :=
  ∃ ra c, e = .returned (tpV (someT t xs but) gv (.slice ra (someT t xs but).rd.length c) lv) ∧ IsTp w' gv (.slice ra (someT t xs but).rd.length c) lv (someT t xs but) ∧ Ext [] w w'
set_option maxRecDepth 100000 in
theorem some_any (t : Tp) (xs : List Int) (but : Bool) (ga ra la : Option Addr) (gc rc lc : Nat) (xv : Value) (w : World) (h : IsTp w (.slice ga t.gr.length gc) (.slice ra t.rd.length rc) (.slice la t.lk.length lc) t) (hx : RowOf w xv xs)
    (hl : t.rd.length ≤ 1000) (hxl : xs.length ≤ 1000) (hx1 : xv.oneCell' = true) :
    Calls Try.prog 49 #[tpV t (.slice ga t.gr.length gc) (.slice ra t.rd.length rc) (.slice la t.lk.length lc), xv, .bool but] w (SomePost t xs but (.slice ga t.gr.length gc) (.slice la t.lk.length lc) w) := by
  have E : Ext [] w w := Ext.refl _ _
  have HRd := Lib.hid (slAt_of_rows h.rd (0, 0, 0, 0))
  have HT := Lib.hid h
  have HX := Lib.hid hx
  clear h hx
  have orr : w.ownsRow w.heap.size 66 4 (.slice none 0 0) 0 (flatR []) := World.ownsRow_nil _ _ _ _
  unfold tpV
  refine calls_has 35 Try.func49 rfl Try.ntmps49 (Nat.le_of_ble_eq_true rfl) ?_
  intro fa F
  refine wp_seq_k fun K1 hK1 => ?_
  refine wp_region_lit ?_
  refine sq_new F rfl (by decide) rfl (R_box rfl (F.at rfl)) ?_; clear F fa; intro fa w1 F hw
  obtain ⟨n3, hn⟩ : ∃ n, n = w.heap.size := ⟨_, rfl⟩
  rw [← hn] at F
  have s3 : w.heap.size ≤ n3 := Nat.le_of_eq hn.symm
  have l3_E : w.heap.size ≤ n3 := by rw [hn]; exact E.size
  have o3_orr := Lib.hid (own_ne_new orr hn)
  replace orr := owns_alloc hw orr
  replace E := ext_alloc E hw
  have q3 := new_row hw hn
  clear hw hn
  refine sq_new F rfl (by decide) rfl (R_alloc rfl Try.zeroValue28) ?_; clear F fa; intro fa w2 F hw
  obtain ⟨n6, hn⟩ : ∃ n, n = w1.heap.size := ⟨_, rfl⟩
  rw [← hn] at F
  have s6 : w1.heap.size ≤ n6 := Nat.le_of_eq hn.symm
  have l6_E : w.heap.size ≤ n6 := by rw [hn]; exact E.size
  have m6_3 : n3 < n6 := by rw [hn]; exact blk_lt q3
  have o6_orr := Lib.hid (own_ne_new orr hn)
  replace orr := owns_alloc hw orr
  replace q3 := keep_alloc hw q3
  replace E := ext_alloc E hw
  have q6 := new_row hw hn
  clear hw hn
  refine wpList_nil ?_
  refine hK1 _ _ ?_
  clear hK1
  refine wp_seq_k fun K2 hK2 => ?_
  refine wp_region_lit ?_
  refine F.vl (R_loadBlk rfl (F.at rfl) Try.underlying28 rfl (by kernel_rfl) q3) ?_; clear F fa; intro fa F
  refine sq_new F rfl (by decide) rfl (R_alloc rfl Try.zeroValue28) ?_; clear F fa; intro fa w3 F hw
  obtain ⟨n7, hn⟩ : ∃ n, n = w2.heap.size := ⟨_, rfl⟩
  rw [← hn] at F
  have s7 : w2.heap.size ≤ n7 := Nat.le_of_eq hn.symm
  have l7_E : w.heap.size ≤ n7 := by rw [hn]; exact E.size
  have m7_3 : n3 < n7 := by rw [hn]; exact blk_lt q3
  have m7_6 : n6 < n7 := by rw [hn]; exact blk_lt q6
  have o7_orr := Lib.hid (own_ne_new orr hn)
  replace orr := owns_alloc hw orr
  replace q3 := keep_alloc hw q3
  replace q6 := keep_alloc hw q6
  replace E := ext_alloc E hw
  have q7 := new_row hw hn
  clear hw hn
  refine sq_to rfl rfl (R_storeRow rfl (F.at rfl) (F.at rfl) (by kernel_rfl) (by first | (simp [Value.oneCell']; done) | (simp [Value.oneCell', grRow, rdRow, lkRow]; done)) q7 rfl) ?_; intro w4 hw
  replace orr := owns_cellsX hw orr (own_ne_type orr q7 (by decide))
  replace q3 := keep_cells hw q3 (by omega)
  replace q6 := keep_cells hw q6 (by omega)
  replace q7 := put_row hw q7 rfl
  replace E := ext_cells E hw (fun h => by first | exact absurd h (by omega) | simp)
  clear hw
  refine wpList_nil ?_
  refine hK2 _ _ ?_
  clear hK2
  refine wp_seq_k fun K3 hK3 => ?_
  refine wp_region_lit ?_
  refine F.vl (R_field rfl (F.at rfl) Try.underlying28 rfl (n := 9) (sz := 1) rfl (by kernel_rfl) (by decide)) ?_; clear F fa; intro fa F
  refine sq_to rfl rfl (R_store rfl (F.at rfl) (ev_c fa _) rfl (by kernel_rfl) ((cells_of_block q7 9).trans (getS (getS (getS (getS (getS (getS (getS (getS (getS (get0))))))))))) (free_of_block q7 9)) ?_; intro w5 hw
  replace orr := owns_cellX hw orr (own_ne_type orr q7 (by decide))
  replace q3 := keep_cell hw q3 (by omega)
  replace q6 := keep_cell hw q6 (by omega)
  replace q7 := put_cell hw q7 (by simp only [List.setIfInBounds_toArray, List.set_cons_succ, List.set_cons_zero]; exact rfl)
  replace E := ext_cell E hw (fun h => by first | exact absurd h (by omega) | simp)
  clear hw
  refine wpList_nil ?_
  refine hK3 _ _ ?_
  clear hK3
  refine wp_seq_k fun K4 hK4 => ?_
  refine wp_seq_k fun K5 hK5 => ?_
  refine wp_region_lit ?_
  refine F.vl (R_assign rfl (ev_c fa _)) ?_; clear F fa; intro fa F
  refine wpList_nil ?_
  refine hK5 _ _ ?_
  clear hK5
  refine wp_block ?_
  have F0 := F.sub (.c 1 rfl (.c 2 rfl (.c 3 rfl (.c 6 rfl (.c 7 rfl .n)))))
  refine lp_for F0 (t.rd.length) (fun i Lv W => ∃ va : Option Addr, ∃ vc : Nat, ∃ R : List (Int × Int × Int × Int), Lv = [(8, .int .i64 ((i : Nat) : Int))] ∧ Ext [] w W ∧ W.heap[n3]? = some (.cells #[.int .i64 t.S, .int .i64 t.A, .int .i64 t.T, .int .i64 t.bl, .int .i64 t.bm, .int .i64 t.pl, .int .i64 t.pm, .int .i64 t.sl, .slice ga t.gr.length gc, .slice ra t.rd.length rc, .slice la t.lk.length lc] 28 (0, 0)) ∧ W.heap[n6]? = some (.cells #[.int .i64 0, .int .i64 0, .int .i64 0, .int .i64 0, .int .i64 0, .int .i64 0, .int .i64 0, .int .i64 0, .slice none 0 0, .slice none 0 0, .slice none 0 0] 28 (0, 0)) ∧ W.heap[n7]? = some (.cells #[.int .i64 t.S, .int .i64 t.A, .int .i64 t.T, .int .i64 t.bl, .int .i64 t.bm, .int .i64 t.pl, .int .i64 t.pm, .int .i64 t.sl, .slice ga t.gr.length gc, .slice va R.length vc, .slice la t.lk.length lc] 28 (0, 0)) ∧ W.ownsRow w.heap.size 66 4 (.slice va R.length vc) R.length (flatR R) ∧ R = someR t xs but i) ⟨_, ⟨none, 0, [], rfl, E, q3, q6, q7, orr, rfl⟩, F.sub (.c 8 rfl (.c 1 rfl (.c 2 rfl (.c 3 rfl (.c 6 rfl (.c 7 rfl .n))))))⟩ ?_
  clear F F0
  clear E q3 q6 q7
  clear orr
  rintro i _ fa w6 hi1 ⟨va, vc, R, rfl, E, q3, q6, q7, orr, hR⟩ F
  have hRl : R.length ≤ i := by rw [hR]; exact someR_len _ _ _ _
  refine wp_seq_k fun K6 hK6 => ?_
  refine wp_seq_k fun K7 hK7 => ?_
  refine wp_region_lit ?_
  refine F.mv ?_; clear F fa; intro fa F
  refine F.vl (R_field rfl (F.at rfl) Try.underlying28 rfl (n := 9) (sz := 1) rfl (by kernel_rfl) (by decide)) ?_; clear F fa; intro fa F
  refine F.vl (R_load rfl (F.at rfl) Try.underlying25 rfl ((cells_of_block q3 9).trans (getS (getS (getS (getS (getS (getS (getS (getS (getS (get0)))))))))))) ?_; clear F fa; intro fa F
  refine F.vl (R_len rfl rfl (F.at rfl) Try.underlying25) ?_; clear F fa; intro fa F
  refine F.vl (R_lss rfl (F.at rfl) (F.at rfl)) ?_; clear F fa; intro fa F
  refine wpList_nil ?_
  refine hK7 _ _ ?_
  clear hK7
  refine cd_if F rfl (fun hc15 => ?_) (fun hc15 => ?_)
  · skip
    refine wp_skip ?_
    refine hK6 _ _ ?_
    clear hK6
    refine wp_seq_k fun K8 hK8 => ?_
    refine wp_block ?_
    refine wp_seq_k fun K9 hK9 => ?_
    refine wp_region_lit ?_
    refine F.mv ?_; clear F fa; intro fa F
    refine F.mv ?_; clear F fa; intro fa F
    refine sq_call F rfl (by decide) rfl (R_callV rfl rfl Try.call60 (mpS (F.at rfl) (mpS (F.at rfl) mp0))) (at_row _ (HX.out.ext E) (by omega)) fun e w7 hR => ?_
    obtain ⟨rfl, e9⟩ := hR
    refine ⟨_, rfl, ?_⟩; clear F fa; intro fa F
    replace orr := owns_ext orr (e9) (by simp)
    replace q3 := (e9).keep0 q3
    replace q6 := (e9).keep0 q6
    replace q7 := (e9).keep0 q7
    replace E := ext_same E (e9)
    clear e9
    refine F.vl (R_geq rfl (F.at rfl) (ev_c fa _)) ?_; clear F fa; intro fa F
    refine F.mv ?_; clear F fa; intro fa F
    refine F.vl ((R_neqBB rfl (F.at rfl) (F.at rfl) Try.underlying4)) ?_; clear F fa; intro fa F
    refine wpList_nil ?_
    refine hK9 _ _ ?_
    clear hK9
    refine cd_b F rfl (fun hc23 => ?_) (fun hc23 => ?_)
    · skip
      refine region_x (Ext [] w7) (some 8) follows fun w8 hh eh => ?_
      have q3_ := q3
      replace q3 := keep_same hh q3
      have q6_ := q6
      replace q6 := keep_same hh q6
      have q7_ := q7
      replace q7 := keep_same hh q7
      have E_ := E
      have zEw8 := E.size
      replace E := ext_same E eh
      replace orr := owns_same hh orr
      have eT := eh
      clear hh eh
      refine F.x (i := 0) rfl (fun w' => R_field rfl (F.at rfl) Try.underlying28 rfl (n := 9) (sz := 1) rfl (by kernel_rfl) (by decide)) (fun _ => eT) ?_; clear F fa; intro fa F
      refine F.xr (i := 1) rfl (fun w' hS => R_load rfl (F.at rfl) Try.underlying25 rfl ((cells_of_block (hS.keep q7_ (by simp)) 9).trans (getS (getS (getS (getS (getS (getS (getS (getS (getS (get0)))))))))))) (fun _ => eT) ?_; clear F fa; intro fa F
      refine F.x (i := 2) rfl (fun w' => R_field rfl (F.at rfl) Try.underlying28 rfl (n := 9) (sz := 1) rfl (by kernel_rfl) (by decide)) (fun _ => eT) ?_; clear F fa; intro fa F
      refine F.xr2 (i := 3) [5, 6, 7, 8] rfl (fun w' hS => R_load rfl (F.at rfl) Try.underlying25 rfl ((cells_of_block (hS.keep q3_ (by simp)) 9).trans (getS (getS (getS (getS (getS (getS (getS (getS (getS (get0)))))))))))) (fun _ => eT) ?_; clear F fa; intro fa F
      refine F.x (i := 4) rfl (fun w' => R_move rfl (F.at rfl)) (fun _ => eT) ?_; clear F fa; intro fa F
      obtain ⟨xb10, xo10, xa10, xr10⟩ := HRd.out i (by omega)
      refine F.x (i := 5) rfl (fun w' => R_ixSlice (sz := 4) rfl ((F.at rfl).trans (xa10 _ _)) (F.at rfl) Try.underlying25 (by kernel_rfl) (by omega) (by omega)) (fun _ => eT) ?_; clear F fa; intro fa F
      refine F.xr2 (i := 6) [7, 8] rfl (fun w' hS => R_loadRow rfl (F.at rfl) Try.underlying66 rfl (by kernel_rfl) (xr10 _ (E_.nil hS))) (fun _ => eT) ?_; clear F fa; intro fa F
      refine ax_only (i := 7) (by kernel_rfl) (op_new F rfl rfl (by decide) rfl (R_buildSliceV rfl (prS (F.at rfl) pr0) Try.underlying25 (size := 4) (by kernel_rfl) (by decide) (by decide) Try.zeroValue66 (cells := #[.int .i64 ((t.rd.getD i (0, 0, 0, 0)).1), .int .i64 ((t.rd.getD i (0, 0, 0, 0)).2.1), .int .i64 ((t.rd.getD i (0, 0, 0, 0)).2.2.1), .int .i64 ((t.rd.getD i (0, 0, 0, 0)).2.2.2)]) (by kernel_rfl)) ?_); clear F fa; intro fa w9 F hw
      obtain ⟨n31, hn⟩ : ∃ n, n = w8.heap.size := ⟨_, rfl⟩
      rw [← hn] at F
      have s31 : w8.heap.size ≤ n31 := Nat.le_of_eq hn.symm
      have l31_E : w.heap.size ≤ n31 := by rw [hn]; exact E.size
      have lT31 : w7.heap.size ≤ n31 := by rw [hn]; exact eT.size
      have m31_3 : n3 < n31 := by rw [hn]; exact blk_lt q3
      have m31_6 : n6 < n31 := by rw [hn]; exact blk_lt q6
      have m31_7 : n7 < n31 := by rw [hn]; exact blk_lt q7
      have o31_orr := Lib.hid (own_ne_new orr hn)
      replace orr := owns_alloc hw orr
      replace q3 := keep_alloc hw q3
      replace q6 := keep_alloc hw q6
      replace q7 := keep_alloc hw q7
      replace E := ext_alloc E hw
      replace eT := ext_alloc eT hw
      have q31 := new_block hw hn
      clear hw hn
      refine ⟨fun _ => eT, ?_⟩
      have hEs := E.size
      refine ax_only (i := 8) (by kernel_rfl) (op_some F rfl rfl (by decide) rfl (append_run rfl (w.heap.size) (e := 66) (size := 4) (bytes := 32) Try.underlying25 (by kernel_rfl) (by decide) (F.at rfl) orr (F.at rfl) q31 rfl (by simp [Value.oneCell']) (by omega) (by omega) (by omega)) ?_); clear F fa; rintro fa v' w10 F ⟨hown', hg⟩
      obtain ⟨va32, vc32, rfl⟩ := owns_slice hown'
      replace q3 := keep_type orr hg q3 (by decide)
      replace q6 := keep_type orr hg q6 (by decide)
      replace q7 := keep_type orr hg q7 (by decide)
      replace E := ext_appendX E orr hg (by omega)
      replace orr := hown'
      clear hg
      refine ⟨gone (by kernel_rfl), ?_⟩
      obtain ⟨R2, hR2e⟩ : ∃ R2, R2 = R ++ [t.rd.getD i (0, 0, 0, 0)] := ⟨_, rfl⟩
      have hPl3 : R.length + 1 = R2.length := by rw [hR2e, List.length_append]; rfl
      have hR2 : R2 = someR t xs but (i + 1) := by rw [someR_yes hc23, hR2e, hR]
      rw [← flatR_snoc, ← hR2e, hPl3] at orr
      rw [hPl3] at F
      refine F.x (i := 9) rfl (fun w' => R_field rfl (F.at rfl) Try.underlying28 rfl (n := 9) (sz := 1) rfl (by kernel_rfl) (by decide)) (gone (by kernel_rfl)) ?_; clear F fa; intro fa F
      refine ax_only (i := 10) (by kernel_rfl) (op_to rfl rfl rfl (R_store rfl (F.at rfl) (F.at rfl) rfl (by kernel_rfl) ((cells_of_block q7 9).trans (getS (getS (getS (getS (getS (getS (getS (getS (getS (get0))))))))))) (free_of_block q7 9)) ?_); intro w11 hw
      replace orr := owns_cellX hw orr (own_ne_type orr q7 (by decide))
      replace q3 := keep_cell hw q3 (by omega)
      replace q6 := keep_cell hw q6 (by omega)
      replace q7 := put_cell hw q7 (by simp only [List.setIfInBounds_toArray, List.set_cons_succ, List.set_cons_zero]; exact rfl)
      replace E := ext_cell E hw (fun h => by first | exact absurd h (by omega) | simp)
      clear hw
      refine ⟨gone (by kernel_rfl), ?_⟩
      refine ax_done (by kernel_rfl) ?_ _
      clear eT q3_ q6_ q7_ E_
      refine hK8 _ _ ?_
      clear hK8
      refine wp_region_lit ?_
      refine F.mv ?_; clear F fa; intro fa F
      refine F.vl (R_add rfl (F.at rfl) (ev_c fa _) (by omega) (by omega)) ?_; clear F fa; intro fa F
      refine F.as ?_; clear F fa; intro fa F
      refine wpList_nil ?_
      show _ ∧ _
      exact ⟨by omega, _, ⟨_, _, _, rfl, E, q3, q6, q7, orr, hR2⟩, F.sub (.c 8 rfl (.c 1 rfl (.c 2 rfl (.c 3 rfl (.c 6 rfl (.c 7 rfl .n))))))⟩
    · skip
      have hR2 : R = someR t xs but (i + 1) := by rw [someR_no hc23]; exact hR
      refine wp_skip ?_
      refine hK8 _ _ ?_
      clear hK8
      refine wp_region_lit ?_
      refine F.mv ?_; clear F fa; intro fa F
      refine F.vl (R_add rfl (F.at rfl) (ev_c fa _) (by omega) (by omega)) ?_; clear F fa; intro fa F
      refine F.as ?_; clear F fa; intro fa F
      refine wpList_nil ?_
      show _ ∧ _
      exact ⟨by omega, _, ⟨_, _, _, rfl, E, q3, q6, q7, orr, hR2⟩, F.sub (.c 8 rfl (.c 1 rfl (.c 2 rfl (.c 3 rfl (.c 6 rfl (.c 7 rfl .n))))))⟩
  · skip
    refine wp_exit ?_
    obtain rfl : i = t.rd.length := by omega
    refine hK4 _ _ ?_
    clear hK4
    refine wp_seq_k fun K11 hK11 => ?_
    refine wp_region_lit ?_
    refine F.vl (R_loadBlk rfl (F.at rfl) Try.underlying28 rfl (by kernel_rfl) q7) ?_; clear F fa; intro fa F
    refine sq_to rfl rfl (R_storeRow rfl (F.at rfl) (F.at rfl) (by kernel_rfl) (by first | (simp [Value.oneCell']; done) | (simp [Value.oneCell', grRow, rdRow, lkRow]; done)) q6 rfl) ?_; intro w12 hw
    replace orr := owns_cellsX hw orr (own_ne_type orr q6 (by decide))
    replace q3 := keep_cells hw q3 (by omega)
    replace q6 := put_row hw q6 rfl
    replace q7 := keep_cells hw q7 (by omega)
    replace E := ext_cells E hw (fun h => by first | exact absurd h (by omega) | simp)
    clear hw
    refine wpList_nil ?_
    refine hK11 _ _ ?_
    clear hK11
    refine wp_ret ?_
    (try simp only [Exit.inBlock, Exit.then])
    refine rt_v F (rs_c F rfl rfl Try.underlying28 rfl (by kernel_rfl) q6) ?_
    subst hR; exact ⟨va, vc, rfl, ⟨(HT.out.ext E (by simp)).gr, rows_of_owns4 orr, (HT.out.ext E (by simp)).lk⟩, E⟩
theorem atI_mem (xs : List Int) (n : Int) : atI xs n ≥ 0 ↔ n ∈ xs := by
  unfold atI
  cases h : xs.findIdx? (· == n) with
  | none =>
    rw [List.findIdx?_eq_none_iff] at h
    refine ⟨fun h0 => absurd h0 (by decide), fun hm => ?_⟩
    have := h n hm
    simp at this
  | some i =>
    obtain ⟨hi, h1, -⟩ := List.findIdx?_eq_some_iff_getElem.1 h
    refine ⟨fun _ => ?_, fun _ => Int.natCast_nonneg _⟩
    have : xs[i] = n := by simpa using h1
    rw [← this]
    exact List.getElem_mem hi
theorem mem_listTo (s : Int) (k i : Nat) : (i : Int) ∈ listTo s k ↔ i < k ∧ hasB s i = true := by
  simp only [listTo, List.mem_map, List.mem_filter, List.mem_range]
  constructor
  · rintro ⟨j, ⟨h1, h2⟩, h3⟩
    have : j = i := Int.ofNat.inj h3
    subst this
    exact ⟨h1, h2⟩
  · rintro ⟨h1, h2⟩
    exact ⟨i, ⟨h1, h2⟩, rfl⟩
theorem keepB_listTo (s : Int) (but : Bool) {i : Nat} (h : i < 8) : keepB (listTo s 8) but i = (hasB s i != but) := by
  unfold keepB
  congr 1
  rw [Bool.eq_iff_iff, decide_eq_true_iff, atI_mem, mem_listTo]
  exact ⟨fun h => h.2, fun q => ⟨h, q⟩⟩
theorem bdB_iffO {t : Tp} (ok : t.Ok) (out : Int) : bdB t out = true ↔ ∃ x, Tr t out x := by
  constructor
  · intro hb
    by_cases h : ∃ x, Tr t out x
    · exact h
    · rw [bdB_none ((bd_none ok (out := out)).2 h)] at hb
      cases hb
  · rintro ⟨x, hx⟩
    obtain ⟨y, hy⟩ := bd_some ok hx
    exact bdB_some hy
theorem some_ok {t : Tp} (ok : t.Ok) (xs : List Int) (but : Bool) : (someT t xs but).Ok := by
  have hl := someR_len t xs but t.rd.length
  have := ok.rdl
  exact ⟨ok.S1, ok.S3, ok.A1, ok.A3, ok.T1, ok.T3, ok.bl1, ok.bm1, ok.b, ok.pl1, ok.pm1, ok.p, ok.sl0, ok.sl5, ok.grl, ok.gr, by show (someR t xs but t.rd.length).length ≤ 9; omega, fun r hr => by
    obtain ⟨i, hi, rfl⟩ := List.mem_map.1 hr
    exact ok.rd _ (getD_mem (0, 0, 0, 0) (List.mem_range.1 (List.mem_filter.1 hi).1)), ok.lkl, ok.lk⟩
theorem some_tr {t : Tp} {xs : List Int} {but : Bool} {out : Int} (h : ∀ i, i < t.rd.length → keepB xs but i = !hasB out i) (x : Nat → Int) : Tr (someT t xs but) 0 x ↔ Tr t out x := by
  constructor
  · intro H
    refine ⟨fun s a hs ha => ⟨(H.cell s a hs ha).lo, (H.cell s a hs ha).hi, (H.cell s a hs ha).glo, (H.cell s a hs ha).ghi⟩, fun i hi => ⟨(H.tail i hi).lo, (H.tail i hi).hi⟩, fun i hi hb => ?_, H.link⟩
    have hm : t.rd.getD i (0, 0, 0, 0) ∈ (someT t xs but).rd := List.mem_map.2 ⟨i, List.mem_filter.2 ⟨List.mem_range.2 hi, by rw [h i hi, hb]; rfl⟩, rfl⟩
    obtain ⟨j, hj, e⟩ := List.getElem_of_mem hm
    have q := H.read j hj (by simp [hasB])
    rw [show (someT t xs but).rd.getD j (0, 0, 0, 0) = t.rd.getD i (0, 0, 0, 0) by rw [← e]; simp [hj]] at q
    exact ⟨q.lo, q.hi⟩
  · intro H
    refine ⟨fun s a hs ha => ⟨(H.cell s a hs ha).lo, (H.cell s a hs ha).hi, (H.cell s a hs ha).glo, (H.cell s a hs ha).ghi⟩, fun i hi => ⟨(H.tail i hi).lo, (H.tail i hi).hi⟩, fun j hj _ => ?_, H.link⟩
    obtain ⟨i, hi, e⟩ := List.mem_map.1 (getD_mem (0, 0, 0, 0) hj)
    rw [show (someT t xs but).rd.getD j (0, 0, 0, 0) = t.rd.getD i (0, 0, 0, 0) from e.symm]
    obtain ⟨h1, h2⟩ := List.mem_filter.1 hi
    have h1 := List.mem_range.1 h1
    have q := H.read i h1 (by have := h i h1; rw [h2] at this; simpa using this.symm)
    exact ⟨q.lo, q.hi⟩
theorem some_bd {t : Tp} (ok : t.Ok) {xs : List Int} {but : Bool} {out : Int} (h : ∀ i, i < t.rd.length → keepB xs but i = !hasB out i) : bdB (someT t xs but) 0 = bdB t out := by
  rw [Bool.eq_iff_iff, bdB_iffO (some_ok ok xs but), bdB_iffO ok]
  exact ⟨fun ⟨x, hx⟩ => ⟨x, (some_tr h x).1 hx⟩, fun ⟨x, hx⟩ => ⟨x, (some_tr h x).2 hx⟩⟩
/-- The lists of readings are the sets of readings, in their order. -/
theorem lists_sets : ∀ n, n < 6 → listsL (n + 1) n = (setsL n).map fun s => listTo (s : Nat) 8 := by decide +kernel
theorem out_sets : ∀ n, n < 6 → ∀ s ∈ setsL n, ∀ i, i < n → hasB (outN (2 ^ n - 1) s : Nat) i = !hasB (s : Nat) i := by decide +kernel
theorem sets_len : ∀ n, n < 6 → (setsL n).length ≤ 64 := by decide +kernel
/-- Without the readings of a set. -/
theorem bd_but {t : Tp} (ok : t.Ok) (h8 : t.rd.length ≤ 8) (s : Int) : bdB (someT t (listTo s 8) true) 0 = bdB t s :=
  some_bd ok fun i hi => by rw [keepB_listTo s true (by omega)]; simp
/-- The readings of a set alone. -/
theorem bd_only {t : Tp} (ok : t.Ok) (h8 : t.rd.length < 6) {s : Nat} (hs : s ∈ setsL t.rd.length) : bdB (someT t (listTo (s : Nat) 8) false) 0 = bdB t (outN (2 ^ t.rd.length - 1) s : Nat) :=
  some_bd ok fun i hi => by rw [keepB_listTo s false (by omega), out_sets _ h8 s hs i hi]; simp
theorem find_at {p : Nat → Bool} : ∀ {l : List Nat} {i : Nat}, i < l.length → (∀ j, j < i → p (l.getD j 0) = false) → p (l.getD i 0) = true → l.find? p = some (l.getD i 0)
  | [], i, h, _, _ => by simp at h
  | x :: l, 0, _, _, h => by simp at h; simp [h]
  | x :: l, i + 1, h, hb, hp => by
    have h0 := hb 0 (by omega)
    simp at h0
    rw [List.find?_cons, h0]
    have := find_at (l := l) (i := i) (p := p) (by simpa using h) (fun j hj => by have := hb (j + 1) (by omega); simpa using this) (by simpa using hp)
    simpa using this
theorem find_no {p : Nat → Bool} {l : List Nat} (hb : ∀ j, j < l.length → p (l.getD j 0) = false) : l.find? p = none := by
  rw [List.find?_eq_none]
  intro x hx
  obtain ⟨j, hj, e⟩ := List.getElem_of_mem hx
  have := hb j hj
  rw [show l.getD j 0 = x by rw [← e]; simp [hj]] at this
  simp [this]
theorem row_one {w : World} {v : Value} {xs : List Int} (h : RowOf w v xs) : v.oneCell' = true := by
  obtain ⟨a, c, rfl, -⟩ := h
  rfl
theorem same_rows {xs ys : List Int} {va vb : Value} {w : World} (hx : RowOf w va xs) (hy : RowOf w vb ys) (e : xs = ys) (hl : xs.length ≤ 1000) : Calls Try.prog 50 #[va, vb] w fun e w' => e = .returned (.bool true) ∧ Ext [] w w' := by
  subst e
  obtain ⟨xa, xc, rfl, hx⟩ := hx
  obtain ⟨ya, yc, rfl, hy⟩ := hy
  refine (sameInts_any xs xs xa ya xc yc w hx hy (by omega) (by omega)).mono fun e w' h => ?_
  rw [decide_eq_true rfl] at h
  exact h
/-- The lists that lists returns are those of the sets. -/
theorem all_sets {n : Nat} (hn : n < 6) {L : List (Value × List Int)} (h : L.map (·.2) = listsL (n + 1) n) : L.length = (setsL n).length ∧ ∀ i, i < L.length → (L.getD i (.bool true, [])).2 = listTo ((setsL n).getD i 0 : Nat) 8 := by
  rw [lists_sets n hn] at h
  have hl : L.length = (setsL n).length := by have := congrArg List.length h; simpa using this
  refine ⟨hl, fun i hi => ?_⟩
  have := congrArg (fun l => l.getD i []) h
  simp only [getD_key (fun p : Value × List Int => p.2) (.bool true, []) L hi] at this
  rw [this]
  simp [show i < (setsL n).length by omega]
end Go.Proofs.Ytholfdgebdlgjaa
