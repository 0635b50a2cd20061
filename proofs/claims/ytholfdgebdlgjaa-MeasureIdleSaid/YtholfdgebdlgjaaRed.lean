/- The walk of read: tapes with one reading more; and of numbers. Conditions: lists of at most 1000. -/
import Derived.Test.YtholfdgebdlgjaaOwn
import Derived.Test.YtholfdgebdlgjaaMea
import Derived.Test.YtholfdgebdlgjaaUnt
namespace Go.Proofs.Ytholfdgebdlgjaa
open Go.RowKit
set_option linter.unusedVariables false
set_option linter.unusedSimpArgs false
theorem flat_get {α : Type} {row : α → List Value} {sz : Nat} (hr : ∀ x, (row x).length = sz) : ∀ (ys : List α) (i j : Nat) (x : List Value), (ys.map row)[i]? = some x → j < sz → (ys.map row).flatten[i * sz + j]? = x[j]?
  | [], i, j, x, hi, hj => by simp at hi
  | y :: ys, i, j, x, hi, hj => by
    simp only [List.map_cons, List.flatten_cons]
    cases i with
    | zero =>
      simp at hi; subst hi
      rw [List.getElem?_append_left (by rw [hr]; omega)]; simp
    | succ i =>
      rw [List.getElem?_append_right (by rw [hr, Nat.add_mul]; omega), hr, show (i + 1) * sz + j - sz = i * sz + j by rw [Nat.add_mul]; omega]
      exact flat_get hr ys i j x (by simpa using hi) hj
theorem flat_len {α : Type} {row : α → List Value} {sz : Nat} (hr : ∀ x, (row x).length = sz) : ∀ ys : List α, ((ys.map row).flatten).length = ys.length * sz
  | [] => by simp
  | y :: ys => by simp only [List.map_cons, List.flatten_cons, List.length_append, hr, flat_len hr ys, List.length_cons, Nat.add_mul]; omega
/-- A block that begins with rows, read as a slice of them. -/
theorem rows_of_flat {α : Type} {w : World} {b : Nat} {T : TypeId} {fz : Nat × Nat} {sz : Nat} {row : α → List Value} {xs : List α} {pad : List Value} (cap : Nat) (hr : ∀ x, (row x).length = sz) (h : w.heap[b]? = some (.cells ((xs.map row).flatten ++ pad).toArray T fz)) : IsRows w (.slice (some ⟨b, 0, none⟩) xs.length cap) sz (xs.map row) := by
  refine ⟨some ⟨b, 0, none⟩, cap, by simp, fun x hx => ?_, fun _ => ⟨b, 0, rfl, blk_lt h, fun i j x hi hj => ?_⟩⟩
  · obtain ⟨y, -, rfl⟩ := List.mem_map.1 hx; exact hr y
  · have hf := flat_get hr xs i j x hi hj
    have hil : i < xs.length := by have := (List.getElem?_eq_some_iff.1 hi).1; simpa using this
    have hl : i * sz + j < ((xs.map row).flatten).length := by
      rw [flat_len hr]
      calc i * sz + j < i * sz + sz := by omega
        _ = (i + 1) * sz := by rw [Nat.add_mul]; omega
        _ ≤ xs.length * sz := Nat.mul_le_mul_right _ hil
    rw [cells_of_block h, ← hf, Nat.zero_add, List.getElem?_toArray, List.getElem?_append_left hl]
/-- The cells of a slice of structs, one after the other. -/
theorem rows_flat {α : Type} {w : World} {a : Option Addr} {n cap sz : Nat} {row : α → List Value} {xs : List α} (h0 : 0 < sz) (hr : ∀ x, (row x).length = sz) (h : IsRows w (.slice a n cap) sz (xs.map row)) : ∀ a0, a = some a0 → ∀ (j : Nat) (v : Value), ((xs.map row).flatten)[j]? = some v → w.cell? (a0.add j) = some v := by
  intro a0 ha j v hv
  have hj : j < xs.length * sz := by rw [← flat_len hr]; exact (List.getElem?_eq_some_iff.1 hv).1
  have hi : j / sz < xs.length := Nat.div_lt_of_lt_mul (by rw [Nat.mul_comm]; exact hj)
  have hjj : j / sz * sz + j % sz = j := by rw [Nat.mul_comm]; exact Nat.div_add_mod j sz
  obtain ⟨a', cap', hv', hl, hc⟩ := h
  cases hv'
  have hne : xs.map row ≠ [] := by
    intro e; have := congrArg List.length e; simp at this; rw [this] at hi; simp at hi
  obtain ⟨b, off, hb, hlt, hcell⟩ := hc hne
  rw [hb] at ha; cases ha
  have hx : (xs.map row)[j / sz]? = some (row (xs[j / sz])) := by simp [hi]
  have h1 := flat_get hr xs (j / sz) (j % sz) _ hx (Nat.mod_lt _ h0)
  rw [hjj, hv] at h1
  have h2 := hcell (j / sz) (j % sz) _ hx (Nat.mod_lt _ h0)
  rw [Addr.add_lit, show off + j = off + j / sz * sz + j % sz by omega, h2, ← h1]
section
variable {P : Program} {ops : Array Oper} {Q : Exit → Act → World → Prop} {md : Region.Mode} {S : World → Prop} {last : Nat}
/-- An append to a slice that has no room, of one element. -/
theorem append_far {o : Oper} {l : List Value} {ds : List Deferred} {w : World} {s x : Operand} {t : TypeId}
    (ho : o.op = .call { callee := .builtin .append, args := #[s, x], argTypes := #[t, t] })
    {e : TypeId} {size bytes : Nat} (ht : P.underlying t = some (.slice e)) (hin : (P.info? e).map (fun i => (i.size, i.bytes, i.zero.map (·.cells.size))) = some (size, bytes, some size)) (hsz : 0 < size)
    {a : Option Addr} {n cap : Nat} {olds : List Value} (hs : (Act.mk l.toArray ds).eval s = .slice a n cap) (hold : cap = n ∧ olds.length = n * size ∧ (a = none → n = 0) ∧ ∀ a0, a = some a0 → ∀ (j : Nat) (v : Value), olds[j]? = some v → w.cell? (a0.add j) = some v)
    {g c : Nat} {T : TypeId} {fz : Nat × Nat} {news : List Value} (hx : (Act.mk l.toArray ds).eval x = .slice (some ⟨g, 0, none⟩) 1 c) (hg : w.heap[g]? = some (.cells news.toArray T fz)) (hl : news.length = size)
    (hn : n ≤ 1000000) (hbytes : bytes ≤ 1000000) :
    ∃ cap' pad, n + 1 ≤ cap' ∧ (execOp (Act.eval ⟨l.toArray, ds⟩) o).run P w = .ok (.value (.slice (some ⟨w.drew.heap.size, 0, none⟩) (n + 1) cap')) (w.drew.alloc (.cells (olds ++ news ++ pad).toArray e)) := by
  obtain ⟨rfl, hlo, hnone, holds⟩ := hold
  cases hq : P.info? e with
  | none => simp [hq] at hin
  | some inf =>
    simp only [hq, Option.map_some, Option.some.injEq, Prod.mk.injEq, Option.map_eq_some_iff] at hin
    obtain ⟨hi1, hi2, z, hz, hz2⟩ := hin
    have hnews : ∀ j u, news[j]? = some u → w.cell? ((⟨g, 0, none⟩ : Addr).add j) = some u := fun j u hu => by
      rw [Addr.add_lit, Nat.zero_add, cells_of_block hg]; simpa using hu
    have key : ∃ cap' pad, cap + 1 ≤ cap' ∧ (Builtin.append_ #[t, t] o.type #[.slice a cap cap, .slice (some ⟨g, 0, none⟩) 1 c]).run P w = .ok (.slice (some ⟨w.heap.size, 0, none⟩) (cap + 1) cap') (w.drew.alloc (.cells (olds ++ news ++ pad).toArray e)) := by
      cases ha : a with
      | none =>
        have h0 := hnone ha
        subst h0
        have hol : olds = [] := List.eq_nil_of_length_eq_zero (by simpa using hlo)
        subst hol
        have hr := run_append_nil (P := P) w t o.type e inf z ht hq hz ⟨g, 0, none⟩ 1 c news (by omega) hnews (by omega) (by omega) (by omega)
        refine ⟨_, (Builtin.zeroCells z.cells (grownCap w 1 0 e - 1)).toList, grownCap_ge w 1 0 e, ?_⟩
        rw [hr]
        congr 3
        simp
      | some a0 =>
        have hr := run_append_grow (P := P) w t o.type e inf z ht hq hz a0 cap cap olds (by rw [hi1]; exact hlo) (holds a0 ha) ⟨g, 0, none⟩ 1 c news (by omega) hnews (by omega) (by omega)
          (growslice_fits (by omega) (by rw [hi2]; exact Nat.le_trans (Nat.mul_le_mul (show cap + 1 ≤ 1000001 by omega) hbytes) (by decide)))
        refine ⟨_, (Builtin.zeroCells z.cells (grownCap w (cap + 1) cap e - (cap + 1))).toList, grownCap_ge w (cap + 1) cap e, ?_⟩
        rw [hr]
        congr 3
        simp
    obtain ⟨cap', pad, h1, h2⟩ := key
    refine ⟨cap', pad, h1, ?_⟩
    unfold execOp
    simp only [ho, resolve, invoke, builtin, Sem.run_bind, Sem.run_pure, Result.andThen_ok, List.map_toArray, List.map_cons, List.map_nil, hs, hx, h2]
    rfl
theorem anyU_append_far {i d : Nat} {o : Oper} {fuel : Nat} {listed : Array Bool} {l : List Value} {ds : List Deferred} {w : World} (hi : ops[i]? = some o) (hr : Region.ready md ops listed = [i])
    (hd : o.dst = some d) (hw : Region.wanted o (yielded ops l.toArray) = true) {s x : Operand} {t : TypeId}
    (ho : o.op = .call { callee := .builtin .append, args := #[s, x], argTypes := #[t, t] })
    {e : TypeId} {size bytes : Nat} (ht : P.underlying t = some (.slice e)) (hin : (P.info? e).map (fun i => (i.size, i.bytes, i.zero.map (·.cells.size))) = some (size, bytes, some size)) (hsz : 0 < size)
    {a : Option Addr} {n cap : Nat} {olds : List Value} (hs : (Act.mk l.toArray ds).eval s = .slice a n cap) (hold : cap = n ∧ olds.length = n * size ∧ (a = none → n = 0) ∧ ∀ a0, a = some a0 → ∀ (j : Nat) (v : Value), olds[j]? = some v → w.cell? (a0.add j) = some v)
    {g c : Nat} {T : TypeId} {fz : Nat × Nat} {news : List Value} (hx : (Act.mk l.toArray ds).eval x = .slice (some ⟨g, 0, none⟩) 1 c) (hg : w.heap[g]? = some (.cells news.toArray T fz)) (hl : news.length = size)
    (hn : n ≤ 1000000) (hbytes : bytes ≤ 1000000)
    (h : ∀ cap' pad W2, n + 1 ≤ cap' → W2 = w.drew.alloc (.cells (olds ++ news ++ pad).toArray e) → ∃ l', l.set d (.slice (some ⟨w.drew.heap.size, 0, none⟩) (n + 1) cap') = l' ∧ S W2 ∧ wpAnyU P md ops Q S last fuel (listed.setIfInBounds i true) ⟨l'.toArray, ds⟩ W2) : wpAnyU P md ops Q S last (fuel + 1) listed ⟨l.toArray, ds⟩ w := by
  obtain ⟨cap', pad, h1, hrun⟩ := append_far (l := l) (ds := ds) (w := w) ho ht hin hsz hs hold hx hg hl hn hbytes
  obtain ⟨l', hl', h3, h4⟩ := h cap' pad _ h1 rfl
  exact anyU_new hi hr hd hw hrun hl' fun W2 hW2 => by subst hW2; exact ⟨fun _ => h3, h4⟩
theorem R_slice3 {ρ : Operand → Value} {o : Oper} {w : World} {x y z : Operand} {t e : TypeId} {a : Option Addr} {len cap n m size : Nat} {k k' : IntKind} (ho : o.op = .slice t x none (some y) (some z)) (hx : ρ x = .slice a len cap) (hy : ρ y = .int k n) (hz : ρ z = .int k' m) (hu : P.underlying t = some (.slice e)) (hs : (P.info? e).map (·.size) = some size) (h1 : n ≤ m) (h2 : m ≤ cap) :
    (execOp ρ o).run P w = .ok (.value (.slice a n m)) w := by
  cases hq : P.info? e with
  | none => simp [hq] at hs
  | some j =>
    unfold execOp
    simp [ho, hx, hy, hz, Instr.sliceAt, Instr.slice, run_underlying hu, Instr.sliceBounds, Instr.sliceBound, asIntOf, sizeOf, typeInfo, hq, h1, h2, go_sem]
end
def addR (t : Tp) (r : Int × Int × Int × Int) : Tp := { t with rd := t.rd ++ [r] }
set_option maxRecDepth 100000 in
set_option maxHeartbeats 2000000 in
theorem read_any (t : Tp) (gv lv : Value) (ra : Option Addr) (rcap : Nat) (r : Int × Int × Int × Int) (w : World) (ht : IsTp w gv (.slice ra t.rd.length rcap) lv t) (hl2 : t.rd.length ≤ 1000) (hc : t.rd.length ≤ rcap) :
    Calls Try.prog 102 #[tpV t gv (.slice ra t.rd.length rcap) lv, .agg #[.int .i64 r.1, .int .i64 r.2.1, .int .i64 r.2.2.1, .int .i64 r.2.2.2]] w fun e w' => ∃ b cap, t.rd.length + 1 ≤ cap ∧ e = .returned (tpV (addR t r) gv (.slice (some ⟨b, 0, none⟩) (addR t r).rd.length cap) lv) ∧ IsTp w' gv (.slice (some ⟨b, 0, none⟩) (addR t r).rd.length cap) lv (addR t r) ∧ Ext [] w w' := by
  have hone := tp_one ht
  have hrl : ∀ x, (rdRow x).length = 4 := fun _ => rfl
  have E : Ext [] w w := Ext.refl _ _
  have HH : Hid (∀ W : World, Ext [] w W → t.rd.length = t.rd.length ∧ ((t.rd.map rdRow).flatten).length = t.rd.length * 4 ∧ (ra = none → t.rd.length = 0) ∧ ∀ a0, ra = some a0 → ∀ (j : Nat) (v : Value), ((t.rd.map rdRow).flatten)[j]? = some v → W.cell? (a0.add j) = some v) := fun W e =>
    ⟨rfl, flat_len hrl _, (fun hn => by
      by_cases hne : t.rd.map rdRow = []
      · simpa using hne
      · obtain ⟨b, off, h1, -⟩ := ht.rd.range rfl hne
        rw [hn] at h1; cases h1), rows_flat (by decide) hrl (ht.rd.ext e (by simp))⟩
  have Ht := Lib.hid ht; clear ht
  unfold tpV
  go_enter Try.func102, Try.ntmps102
  go_upto_region 0 with (fail)
  refine wp_region_lit ?_
  refine seq_new rfl rfl (R_box (v := .agg _) rfl rfl) (by simp only [List.set_cons_succ, List.set_cons_zero]; exact rfl) fun w1 hw => ?_
  obtain ⟨n2, hn⟩ : ∃ n, n = w.heap.size := ⟨_, rfl⟩
  rw [← hn]
  have l2 : w.heap.size ≤ n2 := by rw [hn]; exact E.size
  have q2 := new_row hw hn
  replace E := ext_alloc E hw
  clear hw hn
  refine seq_new rfl rfl (R_box (v := .agg _) rfl rfl) (by simp only [List.set_cons_succ, List.set_cons_zero]; exact rfl) fun w2 hw => ?_
  obtain ⟨n3, hn⟩ : ∃ n, n = w1.heap.size := ⟨_, rfl⟩
  rw [← hn]
  have l3 : w.heap.size ≤ n3 := by rw [hn]; exact E.size
  have m3_2 : n2 < n3 := by rw [hn]; exact blk_lt q2
  replace q2 := keep_alloc hw q2
  have q3 := new_row hw hn
  replace E := ext_alloc E hw
  clear hw hn
  refine seq_new rfl rfl (R_alloc rfl Try.zeroValue28) (by simp only [List.set_cons_succ, List.set_cons_zero]; exact rfl) fun w3 hw => ?_
  obtain ⟨n4, hn⟩ : ∃ n, n = w2.heap.size := ⟨_, rfl⟩
  rw [← hn]
  have l4 : w.heap.size ≤ n4 := by rw [hn]; exact E.size
  have m4_2 : n2 < n4 := by rw [hn]; exact blk_lt q2
  have m4_3 : n3 < n4 := by rw [hn]; exact blk_lt q3
  replace q2 := keep_alloc hw q2
  replace q3 := keep_alloc hw q3
  have q4 := new_row hw hn
  replace E := ext_alloc E hw
  clear hw hn
  refine wpList_nil ?_
  go_upto_region 1 with (fail)
  refine region_until (Ext [] w3) 13 follows fun w4 hh eS => ?_
  have q2_ := q2
  have q3_ := q3
  have q4_ := q4
  replace q2 := keep_same hh q2
  replace q3 := keep_same hh q3
  replace q4 := keep_same hh q4
  replace E := ext_same E eS
  refine anyU_take (i := 0) (last := 13) rfl rfl (by decide) (by kernel_rfl) (by kernel_rfl) (by kernel_rfl) (by kernel_rfl) (by kernel_rfl) (fun _ _ _ h => h) rfl rfl (fun w' hS => R_field rfl rfl Try.underlying28 rfl (n := 9) (sz := 1) rfl (by kernel_rfl) (by decide)) eS (by simp only [List.set_cons_succ, List.set_cons_zero]; exact rfl) ?_
  refine anyU_take (i := 1) (last := 13) rfl rfl (by decide) (by kernel_rfl) (by kernel_rfl) (by kernel_rfl) (by kernel_rfl) (by kernel_rfl) (fun _ _ _ h => h) rfl rfl (fun w' hS => R_load rfl rfl Try.underlying25 rfl ((cells_of_block (hS.keep q2_ (by simp)) 9).trans (getS (getS (getS (getS (getS (getS (getS (getS (getS (get0)))))))))))) eS (by simp only [List.set_cons_succ, List.set_cons_zero]; exact rfl) ?_
  refine anyU_take (i := 2) (last := 13) rfl rfl (by decide) (by kernel_rfl) (by kernel_rfl) (by kernel_rfl) (by kernel_rfl) (by kernel_rfl) (fun _ _ _ h => h) rfl rfl (fun w' hS => R_field rfl rfl Try.underlying28 rfl (n := 9) (sz := 1) rfl (by kernel_rfl) (by decide)) eS (by simp only [List.set_cons_succ, List.set_cons_zero]; exact rfl) ?_
  refine anyU_take (i := 3) (last := 13) rfl rfl (by decide) (by kernel_rfl) (by kernel_rfl) (by kernel_rfl) (by kernel_rfl) (by kernel_rfl) (fun _ _ _ h => h) rfl rfl (fun w' hS => R_load rfl rfl Try.underlying25 rfl ((cells_of_block (hS.keep q2_ (by simp)) 9).trans (getS (getS (getS (getS (getS (getS (getS (getS (getS (get0)))))))))))) eS (by simp only [List.set_cons_succ, List.set_cons_zero]; exact rfl) ?_
  refine anyU_take (i := 4) (last := 13) rfl rfl (by decide) (by kernel_rfl) (by kernel_rfl) (by kernel_rfl) (by kernel_rfl) (by kernel_rfl) (fun _ _ _ h => h) rfl rfl (fun w' hS => R_len rfl rfl rfl Try.underlying25) eS (by simp only [List.set_cons_succ, List.set_cons_zero]; exact rfl) ?_
  refine anyU_take (i := 5) (last := 13) rfl rfl (by decide) (by kernel_rfl) (by kernel_rfl) (by kernel_rfl) (by kernel_rfl) (by kernel_rfl) (fun _ _ _ h => h) rfl rfl (fun w' hS => R_field rfl rfl Try.underlying28 rfl (n := 9) (sz := 1) rfl (by kernel_rfl) (by decide)) eS (by simp only [List.set_cons_succ, List.set_cons_zero]; exact rfl) ?_
  refine anyU_take (i := 6) (last := 13) rfl rfl (by decide) (by kernel_rfl) (by kernel_rfl) (by kernel_rfl) (by kernel_rfl) (by kernel_rfl) (fun _ _ _ h => h) rfl rfl (fun w' hS => R_load rfl rfl Try.underlying25 rfl ((cells_of_block (hS.keep q2_ (by simp)) 9).trans (getS (getS (getS (getS (getS (getS (getS (getS (getS (get0)))))))))))) eS (by simp only [List.set_cons_succ, List.set_cons_zero]; exact rfl) ?_
  refine anyU_take (i := 7) (last := 13) rfl rfl (by decide) (by kernel_rfl) (by kernel_rfl) (by kernel_rfl) (by kernel_rfl) (by kernel_rfl) (fun _ _ _ h => h) rfl rfl (fun w' hS => R_len rfl rfl rfl Try.underlying25) eS (by simp only [List.set_cons_succ, List.set_cons_zero]; exact rfl) ?_
  refine anyU_take (i := 8) (last := 13) rfl rfl (by decide) (by kernel_rfl) (by kernel_rfl) (by kernel_rfl) (by kernel_rfl) (by kernel_rfl) (fun _ _ _ h => h) rfl rfl (fun w' hS => R_slice3 rfl rfl rfl rfl Try.underlying25 (size := 4) (by kernel_rfl) (Nat.le_refl _) hc) eS (by simp only [List.set_cons_succ, List.set_cons_zero]; exact rfl) ?_
  refine anyU_take (i := 9) (last := 13) rfl rfl (by decide) (by kernel_rfl) (by kernel_rfl) (by kernel_rfl) (by kernel_rfl) (by kernel_rfl) (fun _ _ _ h => h) rfl rfl (fun w' hS => R_loadBlk rfl rfl Try.underlying66 rfl (by kernel_rfl) (hS.keep q3_ (by simp))) eS (by simp only [List.set_cons_succ, List.set_cons_zero]; exact rfl) ?_
  refine anyU_new (i := 10) rfl (by kernel_rfl) rfl rfl (R_buildSlice rfl Try.underlying25 (size := 4) (by kernel_rfl) (by decide) (by decide) Try.zeroValue66 (cells := #[.int .i64 r.1, .int .i64 r.2.1, .int .i64 r.2.2.1, .int .i64 r.2.2.2]) (by kernel_rfl)) (by simp only [List.set_cons_succ, List.set_cons_zero]; exact rfl) fun w5 hw => ?_
  replace eS := ext_alloc eS hw
  obtain ⟨n15, hn⟩ : ∃ n, n = w4.heap.size := ⟨_, rfl⟩
  rw [← hn]
  have l15 : w.heap.size ≤ n15 := by rw [hn]; exact E.size
  have m15_2 : n2 < n15 := by rw [hn]; exact blk_lt q2
  have m15_3 : n3 < n15 := by rw [hn]; exact blk_lt q3
  have m15_4 : n4 < n15 := by rw [hn]; exact blk_lt q4
  replace q2 := keep_alloc hw q2
  replace q3 := keep_alloc hw q3
  replace q4 := keep_alloc hw q4
  have q15 := new_block hw hn
  replace E := ext_alloc E hw
  clear hw hn
  refine ⟨fun _ => eS, ?_⟩
  refine anyU_append_far (i := 11) rfl (by kernel_rfl) rfl rfl rfl (e := 66) (size := 4) (bytes := 32) Try.underlying25 (by kernel_rfl) (by decide) rfl (HH.out _ E) rfl q15 rfl (by omega) (by omega) fun cap16 pad16 w6 hcap16 hw => ?_
  replace eS := ext_alloc eS.drew hw
  replace E := E.drew
  replace q2 := blk_drew q2
  replace q3 := blk_drew q3
  replace q4 := blk_drew q4
  replace q15 := blk_drew q15
  have hsz : w5.drew.heap.size = w5.heap.size := rfl
  obtain ⟨n16, hn⟩ : ∃ n, n = w5.drew.heap.size := ⟨_, rfl⟩
  rw [← hn]
  have l16 : w.heap.size ≤ n16 := by rw [hn]; exact E.size
  have m16_2 : n2 < n16 := by rw [hn]; exact blk_lt q2
  have m16_3 : n3 < n16 := by rw [hn]; exact blk_lt q3
  have m16_4 : n4 < n16 := by rw [hn]; exact blk_lt q4
  have m16_15 : n15 < n16 := by rw [hn]; exact blk_lt q15
  replace q2 := keep_alloc hw q2
  replace q3 := keep_alloc hw q3
  replace q4 := keep_alloc hw q4
  replace q15 := keep_alloc hw q15
  have q16 := new_block hw hn
  replace E := ext_alloc E hw
  clear hw hn
  clear hsz
  refine ⟨_, (by simp only [List.set_cons_succ, List.set_cons_zero]; exact rfl), eS, ?_⟩
  refine anyU_take (i := 12) (last := 13) rfl rfl (by decide) (by kernel_rfl) (by kernel_rfl) (by kernel_rfl) (by kernel_rfl) (by kernel_rfl) (fun _ _ _ h => h) rfl rfl (fun w' hS => R_field rfl rfl Try.underlying28 rfl (n := 9) (sz := 1) rfl (by kernel_rfl) (by decide)) eS (by simp only [List.set_cons_succ, List.set_cons_zero]; exact rfl) ?_
  refine anyU_last (o := _) rfl (by kernel_rfl) rfl rfl (R_store (v := .slice _ _ _) rfl rfl rfl rfl (by kernel_rfl) ((cells_of_block q2 9).trans (getS (getS (getS (getS (getS (getS (getS (getS (getS (get0))))))))))) (free_of_block q2 9)) (by kernel_rfl) fun w7 hw => ?_
  replace q2 := put_cell hw q2 (by simp only [List.setIfInBounds_toArray, List.set_cons_succ, List.set_cons_zero]; exact rfl)
  replace q3 := keep_cell hw q3 (by omega)
  replace q4 := keep_cell hw q4 (by omega)
  replace q15 := keep_cell hw q15 (by omega)
  replace q16 := keep_cell hw q16 (by omega)
  replace E := ext_cell E hw (fun h => by first | exact absurd h (by omega) | simp)
  clear hw
  refine anyU_done (by kernel_rfl) ?_ _
  clear q2_ q3_ q4_ hh eS
  go_upto_region 2 with (fail)
  refine wp_region_lit ?_
  refine seq_val rfl rfl (R_loadBlk rfl rfl Try.underlying28 rfl (by kernel_rfl) q2) (by simp only [List.set_cons_succ, List.set_cons_zero]; exact rfl) ?_
  refine seq_to rfl rfl (R_storeRow rfl rfl rfl (by kernel_rfl) (by simp [hone.1, hone.2.2, show ∀ k n, (Value.int k n).oneCell' = true from fun _ _ => rfl, show ∀ a n c, (Value.slice a n c).oneCell' = true from fun _ _ _ => rfl]) q4 rfl) fun w8 hw => ?_
  replace q2 := keep_cells hw q2 (by omega)
  replace q3 := keep_cells hw q3 (by omega)
  replace q4 := put_row hw q4 rfl
  replace q15 := keep_cells hw q15 (by omega)
  replace q16 := keep_cells hw q16 (by omega)
  replace E := ext_cells E hw (fun h => by first | exact absurd h (by omega) | simp)
  clear hw
  refine wpList_nil ?_
  go_wp2
  have hflat : (t.rd.map rdRow).flatten ++ [.int .i64 r.1, .int .i64 r.2.1, .int .i64 r.2.2.1, .int .i64 r.2.2.2] ++ pad16 = ((addR t r).rd.map rdRow).flatten ++ pad16 := by simp [addR, rdRow]
  rw [hflat] at q16
  have hl : (addR t r).rd.length = t.rd.length + 1 := by simp [addR]
  refine bodyPost_ret (res_cell rfl rfl Try.underlying28 rfl (by kernel_rfl) q4) rfl ⟨n16, cap16, hcap16, ?_, ⟨Ht.out.gr.ext E (by simp), rows_of_flat cap16 hrl q16, Ht.out.lk.ext E (by simp)⟩, E⟩
  rw [hl]
  rfl
theorem numbers_any (lo hi : Int) (w : World) (h1 : -4000000000000000000 ≤ lo) (h2 : lo ≤ 4000000000000000000) (h3 : -4000000000000000000 ≤ hi) (h4 : hi ≤ 4000000000000000000) :
    Calls Try.prog 100 #[.agg #[.int .i64 lo, .int .i64 hi]] w fun e w' => e = .returned (.int .i64 (hi - lo + 1)) ∧ Ext [] w w' := by
  have E : Ext [] w w := Ext.refl _ _
  go_enter Try.func100, Try.ntmps100
  go_upto_region 0 with (fail)
  refine wp_region_lit ?_
  refine seq_new rfl rfl (R_box (v := .agg _) rfl rfl) (by simp only [List.set_cons_succ, List.set_cons_zero]; exact rfl) fun w1 hw => ?_
  obtain ⟨n1, hn⟩ : ∃ n, n = w.heap.size := ⟨_, rfl⟩
  rw [← hn]
  have l1 : w.heap.size ≤ n1 := by rw [hn]; exact E.size
  have q1 := new_row hw hn
  replace E := ext_alloc E hw
  clear hw hn
  refine seq_val rfl rfl (R_assign (v := .int .i64 _) rfl rfl) (by simp only [List.set_cons_succ, List.set_cons_zero]; exact rfl) ?_
  refine wpList_nil ?_
  go_upto_region 1 with (fail)
  refine wp_region_lit ?_
  refine seq_val rfl rfl (R_field rfl rfl Try.underlying23 rfl (n := 1) (sz := 1) rfl (by kernel_rfl) (by decide)) (by simp only [List.set_cons_succ, List.set_cons_zero]; exact rfl) ?_
  refine seq_val rfl rfl (R_load rfl rfl Try.underlying3 rfl ((cells_of_block q1 1).trans (getS (get0)))) (by simp only [List.set_cons_succ, List.set_cons_zero]; exact rfl) ?_
  refine seq_val rfl rfl (R_field rfl rfl Try.underlying23 rfl (n := 0) (sz := 1) rfl (by kernel_rfl) (by decide)) (by simp only [List.set_cons_succ, List.set_cons_zero]; exact rfl) ?_
  refine seq_val rfl rfl (R_load rfl rfl Try.underlying3 rfl ((cells_of_block q1 0).trans (get0))) (by simp only [List.set_cons_succ, List.set_cons_zero]; exact rfl) ?_
  refine seq_val rfl rfl (R_sub rfl rfl rfl (by omega) (by omega)) (by simp only [List.set_cons_succ, List.set_cons_zero]; exact rfl) ?_
  refine seq_val rfl rfl (R_add rfl rfl rfl (by omega) (by omega)) (by simp only [List.set_cons_succ, List.set_cons_zero]; exact rfl) ?_
  refine seq_val rfl rfl (R_assign (v := .int .i64 _) rfl rfl) (by simp only [List.set_cons_succ, List.set_cons_zero]; exact rfl) ?_
  refine wpList_nil ?_
  go_wp2
  go_ret
  exact ⟨rfl, E⟩
end Go.Proofs.Ytholfdgebdlgjaa
