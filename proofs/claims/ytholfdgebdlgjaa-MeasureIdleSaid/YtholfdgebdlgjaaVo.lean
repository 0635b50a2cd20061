/- Lists of lists of one's own; appends that tell where. No conditions. -/
import Derived.Test.YtholfdgebdlgjaaVd
import Derived.Maps.AppendAt
namespace Go.Proofs.Ytholfdgebdlgjaa
open Go.RowKit
set_option linter.unusedVariables false
set_option linter.unusedSimpArgs false
section
variable {P : Program} {md : Region.Mode} {ops : Array Oper} {Q : Exit → Act → World → Prop} {T : World → Prop} {stop : Option Nat}
/-- All of S wait for i, themselves or through others of S. -/
def AllWait (md : Region.Mode) (ops : Array Oper) (S : List Nat) (i : Nat) : Prop := ∀ k ∈ S, ∃ ok, ops[k]? = some ok ∧ ∃ e ∈ ok.after, Region.binds md e = true ∧ (e.on = i ∨ e.on ∈ S)
theorem anyX_first2 {S : List Nat} {i : Nat} {oi : Oper} {v : Value} (hi : ops[i]? = some oi) (hil : stop ≠ some i) (hS : AllWait md ops S i) (hst : ∀ l, stop = some l → l ∈ S)
    (hsel : ∀ (j : Nat) (o : Oper) cs b, ops[j]? = some o → o.op ≠ .select cs b) (hQ : ∀ c a w, Q (.panic c) (a.put oi.dst v) w → Q (.panic c) a w) :
    ∀ (fuel : Nat) (listed : Array Bool) (a : Act) (w : World),
      (∀ j oj, ops[j]? = some oj → j ≠ i → listed.getD j true = false → (∀ e ∈ oj.after, Region.binds md e = true → e.on ≠ i) → oi.apart ops oj = true) →
      i ∈ Region.ready md ops listed → YieldsIf P ops (needs true T) oi v a → (held stop listed = true → T w) → held stop listed = true → (∀ k ∈ S, listed.getD k true = false) →
      wpAnyX P md ops Q T stop fuel (listed.setIfInBounds i true) (a.put oi.dst v) w → wpAnyX P md ops Q T stop (fuel + 1) listed a w := by
  intro fuel
  induction fuel with
  | zero =>
    intro listed a w _ hr hy hT hb hU H
    refine ⟨fun h => (by rw [h] at hr; cases hr), fun j hj => ?_⟩
    by_cases hji : j = i
    · subst hji
      exact hy.wpOp hi (fun h => hT hb) ⟨fun h => hT (by rwa [held_ne hil] at h), H⟩
    · have := ready_mono hj hji
      rw [H.1] at this
      cases this
  | succ fuel ih =>
    intro listed a w hfree hr hy hT hb hU H
    refine ⟨fun h => (by rw [h] at hr; cases hr), fun j hj => ?_⟩
    by_cases hji : j = i
    · subst hji
      exact hy.wpOp hi (fun h => hT hb) ⟨fun h => hT (by rwa [held_ne hil] at h), H⟩
    · have h1 := H.2 j (ready_mono hj hji)
      obtain ⟨hjun, oj, hoj, hall⟩ := mem_ready.1 hj
      have hun : ∀ n, listed.getD n true = false → ∀ e ∈ oj.after, Region.binds md e = true → e.on ≠ n := fun n h0 e he hb heq => by
        have h1 := hall e he hb
        rw [heq] at h1
        rcases Nat.lt_or_ge n listed.size with h' | h'
        · simp [h'] at h0 h1; rw [h0] at h1; cases h1
        · simp [Array.getElem?_eq_none h'] at h1
      have hnot := hun i (mem_ready.1 hr).1
      have hjS : j ∉ S := fun hjS => by
        obtain ⟨ok, hok, e, he, hbd, ho⟩ := hS j hjS
        rw [hoj] at hok
        cases hok
        rcases ho with ho | ho
        · exact hnot e he hbd ho
        · exact hun _ (hU _ ho) e he hbd rfl
      have h2 := wpOp_putIf hoj (hfree j oj hoj hji hjun hnot) (fun cs b => hsel i oi cs b hi) (fun cs b => hsel j oj cs b hoj) hQ hy h1
      have hfree' : ∀ k ok, ops[k]? = some ok → k ≠ i → (listed.setIfInBounds j true).getD k true = false →
          (∀ e ∈ ok.after, Region.binds md e = true → e.on ≠ i) → oi.apart ops ok = true := fun k ok hk hki hun hno => by
        refine hfree k ok hk hki ?_ hno
        by_cases hjk : j = k
        · subst hjk; exact hjun
        · rw [getD_set_ne true hjk] at hun; exact hun
      have key : held stop ((listed.setIfInBounds i true).setIfInBounds j true) = held stop (listed.setIfInBounds j true) := by
        rw [Array.setIfInBounds_comm _ _ (Ne.symm hji), held_ne hil]
      have hb' : held stop (listed.setIfInBounds j true) = true := by
        rw [held_ne (fun e => hjS (hst j e))]
        exact hb
      have hU' : ∀ k ∈ S, (listed.setIfInBounds j true).getD k true = false := fun k hk => by
        have hjk : j ≠ k := fun e => by subst e; exact hjS hk
        rw [getD_set_ne true hjk]
        exact hU k hk
      refine wpOp_mono (fun a' w' h3 => ⟨fun hh => h3.2.1 (by rw [key]; exact hh), ih (listed.setIfInBounds j true) a' w' hfree' (ready_mono hr (Ne.symm hji)) h3.1 (fun hh => h3.2.1 (by rw [key]; exact hh)) hb' hU' ?_⟩) h2
      rw [Array.setIfInBounds_comm _ _ hji]
      exact h3.2.2
variable {N : Nat} {a : Act} {L : List (Nat × Value)} {w : World} {fuel : Nat} {listed : Array Bool} {v : Value}
def takeOk2 (md : Region.Mode) (ops : Array Oper) (stop : Option Nat) (S : List Nat) (listed : Array Bool) (i : Nat) : Bool :=
  Region.noSelect ops && Region.free md ops listed i && (Region.ready md ops listed).contains i && (stop != some i) && held stop listed &&
  (match stop with | none => true | some l => S.contains l) &&
  S.all fun k => !(listed.getD k true) && ((ops[k]?).map fun ok => ok.after.any fun e => Region.binds md e && (e.on == i || S.contains e.on)).getD false
theorem Has.xr2 (F : Has N a L) {i d : Nat} {oi : Oper} (S : List Nat) (hi : ops[i]? = some oi) (hr : ∀ w, T w → (execOp a.eval oi).run P w = .ok (.value v) w) (hT : held stop listed = true → T w)
    (h : ∀ a2, Has N a2 ((d, v) :: L) → wpAnyX P md ops Q T stop fuel (listed.setIfInBounds i true) a2 w)
    (hd : oi.dst = some d := by rfl) (hN : d < N := by decide) (hk : takeOk2 md ops stop S listed i = true := by kernel_rfl) (hQ : ∀ c a w, Q (.panic c) (a.put oi.dst v) w → Q (.panic c) a w := by exact fun _ _ _ h => h) (hw : Region.wanted oi (yielded ops a.tmps) = true := by rfl) : wpAnyX P md ops Q T stop (fuel + 1) listed a w := by
  simp only [takeOk2, Bool.and_eq_true] at hk
  obtain ⟨⟨⟨⟨⟨⟨k1, k2⟩, k3⟩, k4⟩, k5⟩, k6⟩, k7⟩ := hk
  have k7 := List.all_eq_true.1 k7
  refine anyX_first2 (S := S) hi (by simpa using k4) (fun k hkS => ?_) (fun l hl => by subst hl; simpa using k6) (Region.noSelect_spec k1) hQ fuel listed a w (Region.free_spec hi k2) (by simpa using k3) (.inl ⟨hw, fun w hw => hr w (hw rfl)⟩) hT k5 (fun k hkS => ?_) (by rw [hd]; exact h _ (F.put hN v))
  · have q := k7 k hkS
    simp only [Bool.and_eq_true] at q
    have q2 := q.2
    cases ho : ops[k]? with
    | none => simp [ho] at q2
    | some ok =>
      simp only [ho, Option.map_some, Option.getD_some] at q2
      obtain ⟨e, he, hbd⟩ := Array.any_eq_true'.1 q2
      simp only [Bool.and_eq_true, Bool.or_eq_true, beq_iff_eq, List.contains_iff_mem] at hbd
      exact ⟨ok, rfl, e, he, hbd.1, hbd.2⟩
  · have q := k7 k hkS
    simp only [Bool.and_eq_true, Bool.not_eq_true'] at q
    exact q.1
end
/-- append, with the place of what comes out. -/
theorem append_runB {P : Program} {o : Oper} {w : World} {a : Act} {s x : Operand} {t : TypeId} (ho : o.op = .call { callee := .builtin .append, args := #[s, x], argTypes := #[t, t] })
    (base : Nat) {e : TypeId} {size bytes : Nat} (ht : P.underlying t = some (.slice e)) (hi : (P.info? e).map (fun i => (i.size, i.bytes, i.zero.map (·.cells.size))) = some (size, bytes, some size)) (hsz : 0 < size)
    {v : Value} {n : Nat} {xs : List Value} (hs : a.eval s = v) (hown : w.ownsRow base e size v n xs)
    {g c : Nat} {T : TypeId} {fz : Nat × Nat} {news : List Value} (hx : a.eval x = .slice (some ⟨g, 0, none⟩) 1 c) (hg : w.heap[g]? = some (.cells news.toArray T fz)) (hl : news.length = size) (h1 : ∀ u ∈ news, u.oneCell' = true)
    (hn : n ≤ 1000000) (hbytes : (n + 1) * bytes ≤ 140737488355328) (hbase : base ≤ w.heap.size) :
    ∃ v' w', (execOp a.eval o).run P w = .ok (.value v') w' ∧ w'.ownsRow base e size v' (n + 1) (xs ++ news) ∧ w.grownBy w' v.ownBlock ∧ (v'.ownBlock = v.ownBlock ∨ v'.ownBlock = some w.heap.size) := by
  cases hq : P.info? e with
  | none => simp [hq] at hi
  | some i =>
    simp only [hq, Option.map_some, Option.some.injEq, Prod.mk.injEq, Option.map_eq_some_iff] at hi
    obtain ⟨hi1, hi2, z, hz, hz2⟩ := hi
    obtain ⟨v', w', hr, h2, h3, -, h5⟩ := run_append_own_at (P := P) w base t o.type e i z size bytes ht hq hz hi1 hi2 hz2 hsz v n xs hown ⟨g, 0, none⟩ 1 c news (by omega) (fun j u hu => by
      rw [Addr.add_lit, Nat.zero_add, cells_of_block hg]; simpa using hu) h1 (by simp only [maxLen]; omega) hbytes hbase
    refine ⟨v', w', ?_, h2, h3, h5⟩
    unfold execOp
    simp only [ho, resolve, invoke, builtin, Sem.run_bind, Sem.run_pure, Result.andThen_ok, List.map_toArray, List.map_cons, List.map_nil, hs, hx, hr]
/-- A value reads as a list of numbers. -/
def RowOf (w : World) (v : Value) (xs : List Int) : Prop := ∃ a c, v = .slice a xs.length c ∧ IsRows w (.slice a xs.length c) 1 (xs.map intRow)
section
variable {α : Type}
theorem getD_key (key : α → List Int) (d : α) (O : List α) {k : Nat} (h : k < O.length) : (O.map key).getD k [] = key (O.getD k d) := by simp [h]
end
/-- The lists that Picks holds, each with its own block. -/
def FamT (w : World) (base : Nat) (L : List (Value × List Int)) : Prop := (∀ p ∈ L, w.ownsRow base 3 1 p.1 p.2.length (ivs p.2)) ∧ L.Pairwise fun p q => ∀ b, p.1.ownBlock = some b → q.1.ownBlock ≠ some b
theorem fam_lift {w w' : World} {base base' : Nat} {L : List (Value × List Int)} (h : FamT w base L) (k : ∀ v n xs, w.ownsRow base 3 1 v n xs → w'.ownsRow base' 3 1 v n xs) : FamT w' base' L :=
  ⟨fun p hp => k _ _ _ (h.1 p hp), h.2⟩
theorem fam_perm {w : World} {base : Nat} {L M : List (Value × List Int)} (h : FamT w base L) (hp : M.Perm L) : FamT w base M :=
  ⟨fun p hm => h.1 p (hp.mem_iff.1 hm), (hp.pairwise_iff (fun {x y} hxy b hb hx => hxy b hx hb)).2 h.2⟩
theorem fam_nil (w : World) (base : Nat) : FamT w base [] := ⟨fun p h => by simp at h, .nil⟩
theorem fam_row {w : World} {base : Nat} {L : List (Value × List Int)} (h : FamT w base L) {p : Value × List Int} (hp : p ∈ L) : RowOf w p.1 p.2 := by
  have o := h.1 p hp
  obtain ⟨a, c, e⟩ := owns_slice o
  refine ⟨a, c, e, ?_⟩
  rw [e, ivs_flat] at o
  exact rows_of_owns (row := intRow) o (fun _ => rfl)
theorem fam_put {w w' : World} {base : Nat} {x : Value} {m m' : List Int} {v : Value} {R : List (Value × List Int)} (h : FamT w base ((x, m) :: R)) (hv : w'.ownsRow base 3 1 v m'.length (ivs m')) (hg : w.grownBy w' x.ownBlock) (hb : v.ownBlock = x.ownBlock ∨ v.ownBlock = some w.heap.size) :
    FamT w' base ((v, m') :: R) := by
  obtain ⟨h1, h2⟩ := h
  obtain ⟨h3, h4⟩ := List.pairwise_cons.1 h2
  refine ⟨fun p hp => ?_, List.pairwise_cons.2 ⟨fun q hq b e => ?_, h4⟩⟩
  · rcases List.mem_cons.1 hp with rfl | hp
    · exact hv
    · refine (h1 p (List.mem_cons_of_mem _ hp)).kept hg ?_
      cases hx : x.ownBlock with
      | none =>
        cases hq : p.1.ownBlock with
        | none => exact .inl rfl
        | some c => exact .inr (by simp)
      | some b => exact .inr (h3 p hp b hx)
  · rcases hb with hb | hb
    · rw [hb] at e
      exact h3 q hq b e
    · intro hc
      have := (h1 q (List.mem_cons_of_mem _ hq)).lt b hc
      rw [hb] at e
      cases e
      omega
theorem fam_lt {w : World} {base : Nat} {L : List (Value × List Int)} (h : FamT w base L) : ∀ q ∈ L, ∀ b, q.1.ownBlock = some b → b < w.heap.size := fun q hq b e => ((h.1 q hq).lt b e).2
theorem fam_join {w : World} {b1 b2 : Nat} {L O : List (Value × List Int)} (hL : FamT w b1 L) (hO : FamT w b2 O) (hlt : ∀ q ∈ O, ∀ b, q.1.ownBlock = some b → b < b1) (hb : b2 ≤ b1) : FamT w b2 (L ++ O) := by
  refine ⟨fun p hp => ?_, List.pairwise_append.2 ⟨hL.2, hO.2, fun p hp q hq b e hc => ?_⟩⟩
  · rcases List.mem_append.1 hp with h | h
    · exact owns_lower (hL.1 p h) hb
    · exact hO.1 p h
  · have := (hL.1 p hp).lt b e
    have := hlt q hq b hc
    omega
theorem ivs_snoc1 (xs : List Int) (v : Int) : ivs xs ++ [.int .i64 v] = ivs (xs ++ [v]) := by simp [ivs]
/-- The rows of Picks's outer slices. -/
def pRow (p : Value × List Int) : List Value := [p.1]
theorem pRow_flat (O : List (Value × List Int)) : O.map (·.1) = (O.map pRow).flatten := by
  induction O with
  | nil => rfl
  | cons a l ih => simp only [List.map_cons, List.flatten_cons, pRow, ih]; rfl
theorem own_lt' {w : World} {base n sz : Nat} {e : TypeId} {v : Value} {xs : List Value} (h : w.ownsRow base e sz v n xs) : ∀ k, v.ownBlock = some k → k < w.heap.size := fun k hk => (h.lt k hk).2
theorem own_apart {w : World} {BL n sz : Nat} {e : TypeId} {l v : Value} {xs : List Value} (h : w.ownsRow BL e sz l n xs) (hv : ∀ k, v.ownBlock = some k → k < BL) : l.ownBlock = none ∨ l.ownBlock ≠ v.ownBlock := by
  cases hl : l.ownBlock with
  | none => exact .inl rfl
  | some b =>
    refine .inr fun e => ?_
    have := (h.lt b hl).1
    have := hv b e.symm
    omega
theorem own_apart2 {w : World} {BL n sz : Nat} {e : TypeId} {l v v' : Value} {xs : List Value} (ha : l.ownBlock = none ∨ l.ownBlock ≠ v.ownBlock) (h : w.ownsRow BL e sz l n xs) (hb : v'.ownBlock = v.ownBlock ∨ v'.ownBlock = some w.heap.size) : l.ownBlock = none ∨ l.ownBlock ≠ v'.ownBlock := by
  rcases hb with hb | hb
  · rw [hb]
    exact ha
  · cases hl : l.ownBlock with
    | none => exact .inl rfl
    | some b =>
      refine .inr fun e => ?_
      rw [hb] at e
      cases e
      have := (h.lt _ hl).2
      omega
theorem slAt_of_outer {w : World} {base n c : Nat} {a : Option Addr} {O : List (Value × List Int)} (h : w.ownsRow base 29 1 (.slice a n c) n (O.map (·.1))) (hn : n = O.length) : SlAt [] w a 1 O.length (fun i => [(O.getD i (.bool true, [])).1]) := by
  rw [pRow_flat] at h
  exact slAt_of_owns h hn (fun _ => rfl) [] (by simp) (.bool true, [])
theorem drop_cons {α : Type} (d : α) {L : List α} {i : Nat} (h : i < L.length) : L.drop i = L.getD i d :: L.drop (i + 1) := by
  rw [List.drop_eq_getElem_cons h]
  simp [h]
theorem take_snoc {α : Type} (d : α) {L : List α} {i : Nat} (h : i < L.length) : L.take (i + 1) = L.take i ++ [L.getD i d] := by
  rw [List.take_succ_eq_append_getElem h]
  simp [h]
theorem at_row {xs : List Int} {v : Value} {w : World} (n : Int) (h : RowOf w v xs) (hl : xs.length ≤ 1000000) : Calls Try.prog 60 #[v, .int .i64 n] w fun e w' => e = .returned (.int .i64 (atI xs n)) ∧ Ext [] w w' := by
  obtain ⟨a, c, rfl, h⟩ := h
  exact at_any xs n a c w h hl
theorem RowOf.ext {w w' : World} {v : Value} {xs : List Int} (h : RowOf w v xs) (e : Ext [] w w') : RowOf w' v xs := by
  obtain ⟨a, c, h1, h2⟩ := h
  exact ⟨a, c, h1, h2.ext e (by simp)⟩
theorem atI_mem (xs : List Int) (n : Int) : atI xs n ≥ 0 ↔ n ∈ xs := by
  unfold atI
  cases h : xs.findIdx? (· == n) with
  | none =>
    rw [List.findIdx?_eq_none_iff] at h
    refine ⟨fun h0 => absurd h0 (by decide), fun hm => ?_⟩
    have := h n hm
    simp at this
  | some i =>
    obtain ⟨hi, h1, -⟩ := List.findIdx?_eq_some_iff_getElem.1 h
    refine ⟨fun _ => ?_, fun _ => Int.natCast_nonneg _⟩
    have : xs[i] = n := by simpa using h1
    rw [← this]
    exact List.getElem_mem hi
theorem bdB_iffO {t : Tp} (ok : t.Ok) (out : Int) : bdB t out = true ↔ ∃ x, Tr t out x := by
  constructor
  · intro hb
    by_cases h : ∃ x, Tr t out x
    · exact h
    · rw [bdB_none ((bd_none ok (out := out)).2 h)] at hb
      cases hb
  · rintro ⟨x, hx⟩
    obtain ⟨y, hy⟩ := bd_some ok hx
    exact bdB_some hy
end Go.Proofs.Ytholfdgebdlgjaa
