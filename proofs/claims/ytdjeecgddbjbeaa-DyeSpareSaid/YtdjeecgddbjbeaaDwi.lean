/- Slices of slices; vats and lists that stand while lots are drawn; more tolerance or fewer lamps lose no recipe. -/
import Derived.Test.YtdjeecgddbjbeaaDnl
import Derived.Test.YtdjeecgddbjbeaaDkv
namespace Go.Proofs.Ytdjeecgddbjbeaa
open Go.RowKit
set_option linter.unusedVariables false
set_option linter.unusedSimpArgs false
section
variable {P : Program}
/-- Where the rest of a slice lies. -/
def subA (a : Option Addr) (l cap size : Nat) : Option Addr := if cap = l then a else a.map (·.add (l * size))
theorem R_sliceH {ρ : Operand → Value} {o : Oper} {w : World} {x z : Operand} {t e : TypeId} {a : Option Addr} {len cap m size : Nat} {k' : IntKind} (ho : o.op = .slice t x none (some z) none) (hx : ρ x = .slice a len cap) (hz : ρ z = .int k' (m : Nat)) (hu : P.underlying t = some (.slice e)) (hs : (P.info? e).map (·.size) = some size) (h2 : m ≤ cap) :
    (execOp ρ o).run P w = .ok (.value (.slice a m cap)) w := by
  cases hq : P.info? e with
  | none => simp [hq] at hs
  | some j =>
    unfold execOp
    simp [ho, hx, hz, Instr.sliceAt, Instr.slice, run_underlying hu, Instr.sliceBounds, Instr.sliceBound, asIntOf, sizeOf, typeInfo, hq, h2, go_sem]
theorem R_sliceL {ρ : Operand → Value} {o : Oper} {w : World} {x z : Operand} {t e : TypeId} {a : Option Addr} {len cap m size : Nat} {k' : IntKind} (ho : o.op = .slice t x (some z) none none) (hx : ρ x = .slice a len cap) (hz : ρ z = .int k' (m : Nat)) (hu : P.underlying t = some (.slice e)) (hs : (P.info? e).map (·.size) = some size) (h2 : m ≤ len) :
    (execOp ρ o).run P w = .ok (.value (.slice (subA a m cap size) (len - m) (cap - m))) w := by
  cases hq : P.info? e with
  | none => simp [hq] at hs
  | some j =>
    have hj : j.size = size := by simpa [hq] using hs
    unfold execOp
    simp [ho, hx, hz, Instr.sliceAt, Instr.slice, run_underlying hu, Instr.sliceBounds, Instr.sliceBound, asIntOf, sizeOf, typeInfo, hq, h2, hj, go_sem, subA]
end
theorem rows_takeN {w : World} {a : Option Addr} {n cap sz k : Nat} {xs : List (List Value)} (h : IsRows w (.slice a n cap) sz xs) (hk : k ≤ xs.length) : IsRows w (.slice a k cap) sz (xs.take k) := by
  obtain ⟨a2, c2, he, hl, hc⟩ := h
  obtain ⟨rfl, rfl, rfl⟩ : a = a2 ∧ n = xs.length ∧ cap = c2 := by injection he with h1 h2 h3; exact ⟨h1, h2, h3⟩
  refine ⟨a, cap, by rw [List.length_take, Nat.min_eq_left hk], fun x hx => hl x (List.mem_of_mem_take hx), fun hne => ?_⟩
  obtain ⟨b, off, ha, hb, hcell⟩ := hc (fun e => hne (by rw [e]; simp))
  refine ⟨b, off, ha, hb, fun i j x hi hj => hcell i j x ?_ hj⟩
  rw [List.getElem?_take] at hi
  split at hi
  · exact hi
  · cases hi
theorem rows_dropN {w : World} {a : Option Addr} {n cap sz l : Nat} {xs : List (List Value)} (h : IsRows w (.slice a n cap) sz xs) (hl : l ≤ xs.length) (hcap : xs.length ≤ cap) : IsRows w (.slice (subA a l cap sz) (n - l) (cap - l)) sz (xs.drop l) := by
  obtain ⟨a2, c2, he, hl2, hc⟩ := h
  obtain ⟨rfl, rfl, rfl⟩ : a = a2 ∧ n = xs.length ∧ cap = c2 := by injection he with h1 h2 h3; exact ⟨h1, h2, h3⟩
  refine ⟨subA a l cap sz, cap - l, by rw [List.length_drop], fun x hx => hl2 x (List.mem_of_mem_drop hx), fun hne => ?_⟩
  have hlt : l < xs.length := by
    apply Classical.byContradiction
    intro h
    exact hne (List.drop_of_length_le (by omega))
  obtain ⟨b, off, ha, hb, hcell⟩ := hc (fun e => hne (by rw [e]; simp))
  refine ⟨b, off + l * sz, by rw [subA, if_neg (by omega), ha]; show some (Addr.add _ _) = _; rw [Addr.add_lit], hb, fun i j x hi hj => ?_⟩
  rw [List.getElem?_drop] at hi
  have := hcell (l + i) j x hi hj
  rwa [Nat.add_mul, show off + (l * sz + i * sz) + j = off + l * sz + i * sz + j by omega] at this
theorem own_of_block {w : World} {g n size : Nat} {e : TypeId} {cs : Array Value} (h : w.heap[g]? = some (.cells cs e (0, 0))) (hs : cs.size = n * size) (hn : n ≤ maxLen) : w.ownsRow g e size (.slice (some ⟨g, 0, none⟩) n n) n cs.toList :=
  ⟨by simpa using hs, .inr ⟨g, n, cs, rfl, Nat.le_refl _, h, Nat.le_refl _, hn, hs, by rw [← hs]; exact List.take_of_length_le (by simp)⟩⟩
/-- A list of lists of one's own stands while what lies below it changes. -/
theorem lol_ownB {q : Nat} {w : World} {b b2 : Nat} {a : Option Addr} {c : Nat} {M : List (Value × List Int)} (oo : w.ownsRow b 25 1 (.slice a M.length c) M.length (M.map (·.1))) (fam : FamT w b2 M) (h1 : q < b) (h2 : q < b2) : ∀ W, Ext [q] w W → LolAt W a M := fun W e =>
  lol_of_own (owns_ext oo e (by simpa using h1)) (fam_lift fam fun _ _ _ h => owns_ext h e (by simpa using h2))
/-- A copy of a vat, which stands while what lies below it changes. -/
def CopyBPost (x : Vm) (w : World) (e : Ending) (w' : World) : Prop := ∃ y : Vm, e = .returned (.agg #[.int .i64 y.B, .slice y.da y.D.length y.dc, .slice y.la y.L.length y.lc, .int .i64 y.tol]) ∧ y.B = x.B ∧ y.tol = x.tol ∧ y.D.map (·.2) = x.D.map (·.2) ∧ y.L.map (·.2) = x.L.map (·.2) ∧ (∀ q, q < w.heap.size → AtB q y w') ∧ Ext [] w w'
set_option maxRecDepth 100000 in
set_option maxHeartbeats 1000000 in
theorem copyVat_b (x : Vm) (w : World) (hx : x.At w) (sd : SmallL x.D) (sl : SmallL x.L) :
    Calls Try.prog 18 #[.agg #[.int .i64 x.B, .slice x.da x.D.length x.dc, .slice x.la x.L.length x.lc, .int .i64 x.tol]] w (CopyBPost x w) := by
  have E : Ext [] w w := Ext.refl _ _
  have HX := Lib.hid hx
  have SD := Lib.hid sd
  have SL := Lib.hid sl
  clear hx sd sl
  refine calls_has 12 Try.func18 rfl Try.ntmps18 (Nat.le_of_ble_eq_true rfl) ?_
  intro fa F
  refine wp_seq_k fun K1 hK1 => ?_
  refine wp_region_lit ?_
  refine sq_new F rfl (by decide) rfl (R_box rfl (F.at rfl)) ?_; clear F fa; intro fa w1 F hw
  obtain ⟨n1, hn⟩ : ∃ n, n = w.heap.size := ⟨_, rfl⟩
  rw [← hn] at F
  have s1 : w.heap.size ≤ n1 := Nat.le_of_eq hn.symm
  have l1_E : w.heap.size ≤ n1 := by rw [hn]; exact E.size
  replace E := ext_alloc E hw
  have q1 := new_row hw hn
  clear hw hn
  refine sq_new F rfl (by decide) rfl (R_alloc rfl Try.zeroValue24) ?_; clear F fa; intro fa w2 F hw
  obtain ⟨n2, hn⟩ : ∃ n, n = w1.heap.size := ⟨_, rfl⟩
  rw [← hn] at F
  have s2 : w1.heap.size ≤ n2 := Nat.le_of_eq hn.symm
  have l2_E : w.heap.size ≤ n2 := by rw [hn]; exact E.size
  have m2_1 : n1 < n2 := by rw [hn]; exact blk_lt q1
  replace q1 := keep_alloc hw q1
  replace E := ext_alloc E hw
  have q2 := new_row hw hn
  clear hw hn
  refine wpList_nil ?_
  refine hK1 _ _ ?_
  clear hK1
  refine wp_seq_k fun K2 hK2 => ?_
  refine region_x (Ext [] w2) (some 7) follows fun w3 hh eh => ?_
  have q1_ := q1
  replace q1 := keep_same hh q1
  have q2_ := q2
  replace q2 := keep_same hh q2
  have E_ := E
  have zEw3 := E.size
  replace E := ext_same E eh
  have eT := eh
  clear hh eh
  refine F.x (i := 0) rfl (fun w' => R_field rfl (F.at rfl) Try.underlying24 rfl (n := 1) (sz := 1) rfl (by kernel_rfl) (by decide)) (fun _ => eT) ?_; clear F fa; intro fa F
  refine F.xr (i := 1) rfl (fun w' hS => R_load rfl (F.at rfl) Try.underlying22 rfl ((cells_of_block (hS.keep q1_ (by simp)) 1).trans (getS (get0)))) (fun _ => eT) ?_; clear F fa; intro fa F
  refine F.x (i := 3) rfl (fun w' => R_field rfl (F.at rfl) Try.underlying24 rfl (n := 2) (sz := 1) rfl (by kernel_rfl) (by decide)) (fun _ => eT) ?_; clear F fa; intro fa F
  refine F.xr (i := 4) rfl (fun w' hS => R_load rfl (F.at rfl) Try.underlying22 rfl ((cells_of_block (hS.keep q1_ (by simp)) 2).trans (getS (getS (get0))))) (fun _ => eT) ?_; clear F fa; intro fa F
  have hle := E.size
  refine ax_only (i := 2) (by kernel_rfl) (op_call F rfl rfl (by decide) rfl (R_callV rfl rfl Try.call27 (mpS (F.at rfl) mp0)) (copyLists_any x.D SD.out.1 SD.out.2 _ _ _ (HX.out.d.ext E)) fun e w4 hR => ?_)
  obtain ⟨M, ma, mc, rfl, hM, oo1, fam1, eM⟩ := hR
  refine ⟨_, rfl, ?_⟩; clear F fa; intro fa F
  replace q1 := (eM).keep0 q1
  replace q2 := (eM).keep0 q2
  replace E := ext_same E (eM)
  replace eT := ext_same eT (eM)
  refine ⟨fun _ => eT, ?_⟩
  replace oo1 := owns_lower (base' := w.heap.size) oo1 hle
  replace fam1 := fam_lower fam1 hle
  refine F.x (i := 6) rfl (fun w' => R_field rfl (F.at rfl) Try.underlying24 rfl (n := 1) (sz := 1) rfl (by kernel_rfl) (by decide)) (fun _ => eT) ?_; clear F fa; intro fa F
  have hle2 := E.size
  refine ax_only (i := 5) (by kernel_rfl) (op_call F rfl rfl (by decide) rfl (R_callV rfl rfl Try.call27 (mpS (F.at rfl) mp0)) (copyLists_any x.L SL.out.1 SL.out.2 _ _ _ (HX.out.l.ext E)) fun e w5 hR => ?_)
  obtain ⟨K, ka, kc, rfl, hK, oo2, fam2, eK⟩ := hR
  refine ⟨_, rfl, ?_⟩; clear F fa; intro fa F
  replace oo1 := owns_ext oo1 (eK) (by simp)
  replace fam1 := fam_lift fam1 fun _ _ _ h => owns_ext h (eK) (by simp)
  replace q1 := (eK).keep0 q1
  replace q2 := (eK).keep0 q2
  replace E := ext_same E (eK)
  replace eT := ext_same eT (eK)
  refine ⟨fun _ => eT, ?_⟩
  replace oo2 := owns_lower (base' := w.heap.size) oo2 hle2
  replace fam2 := fam_lower fam2 hle2
  refine ax_only (i := 7) (by kernel_rfl) (op_to rfl rfl rfl (R_store rfl (F.at rfl) (F.at rfl) rfl (by kernel_rfl) ((cells_of_block q1 1).trans (getS (get0))) (free_of_block q1 1)) ?_); intro w6 hw
  replace oo1 := owns_cellX hw oo1 (own_ne_type oo1 q1 (by decide))
  replace fam1 := fam_lift fam1 fun _ _ _ h => owns_cellX hw h (own_ne_type h q1 (by decide))
  replace oo2 := owns_cellX hw oo2 (own_ne_type oo2 q1 (by decide))
  replace fam2 := fam_lift fam2 fun _ _ _ h => owns_cellX hw h (own_ne_type h q1 (by decide))
  replace q1 := put_cell hw q1 (by simp only [List.setIfInBounds_toArray, List.set_cons_succ, List.set_cons_zero]; exact rfl)
  replace q2 := keep_cell hw q2 (by omega)
  replace E := ext_cell E hw (fun h => by first | exact absurd h (by omega) | simp)
  clear hw
  refine ⟨gone (by kernel_rfl), ?_⟩
  refine F.x (i := 8) rfl (fun w' => R_field rfl (F.at rfl) Try.underlying24 rfl (n := 2) (sz := 1) rfl (by kernel_rfl) (by decide)) (gone (by kernel_rfl)) ?_; clear F fa; intro fa F
  refine ax_only (i := 9) (by kernel_rfl) (op_to rfl rfl rfl (R_store rfl (F.at rfl) (F.at rfl) rfl (by kernel_rfl) ((cells_of_block q1 2).trans (getS (getS (get0)))) (free_of_block q1 2)) ?_); intro w7 hw
  replace oo1 := owns_cellX hw oo1 (own_ne_type oo1 q1 (by decide))
  replace fam1 := fam_lift fam1 fun _ _ _ h => owns_cellX hw h (own_ne_type h q1 (by decide))
  replace oo2 := owns_cellX hw oo2 (own_ne_type oo2 q1 (by decide))
  replace fam2 := fam_lift fam2 fun _ _ _ h => owns_cellX hw h (own_ne_type h q1 (by decide))
  replace q1 := put_cell hw q1 (by simp only [List.setIfInBounds_toArray, List.set_cons_succ, List.set_cons_zero]; exact rfl)
  replace q2 := keep_cell hw q2 (by omega)
  replace E := ext_cell E hw (fun h => by first | exact absurd h (by omega) | simp)
  clear hw
  refine ⟨gone (by kernel_rfl), ?_⟩
  refine ax_done (by kernel_rfl) ?_ _
  clear eT q1_ q2_ E_
  refine hK2 _ _ ?_
  clear hK2
  refine wp_seq_k fun K3 hK3 => ?_
  refine wp_region_lit ?_
  refine F.vl (R_loadBlk rfl (F.at rfl) Try.underlying24 rfl (by kernel_rfl) q1) ?_; clear F fa; intro fa F
  refine sq_to rfl rfl (R_storeRow rfl (F.at rfl) (F.at rfl) (by kernel_rfl) (by first | (simp [Value.oneCell']; done) | (simp [Value.oneCell', id]; done)) q2 rfl) ?_; intro w8 hw
  replace oo1 := owns_cellsX hw oo1 (own_ne_type oo1 q2 (by decide))
  replace fam1 := fam_lift fam1 fun _ _ _ h => owns_cellsX hw h (own_ne_type h q2 (by decide))
  replace oo2 := owns_cellsX hw oo2 (own_ne_type oo2 q2 (by decide))
  replace fam2 := fam_lift fam2 fun _ _ _ h => owns_cellsX hw h (own_ne_type h q2 (by decide))
  replace q1 := keep_cells hw q1 (by omega)
  replace q2 := put_row hw q2 rfl
  replace E := ext_cells E hw (fun h => by first | exact absurd h (by omega) | simp)
  clear hw
  refine wpList_nil ?_
  refine hK3 _ _ ?_
  clear hK3
  refine wp_ret ?_
  (try simp only [Exit.inBlock, Exit.then, reduceIte])
  refine rt_v F (rs_c F rfl rfl Try.underlying24 rfl (by kernel_rfl) q2) ?_
  exact ⟨⟨x.B, M, ma, mc, K, ka, kc, x.tol⟩, rfl, rfl, rfl, hM, hK, fun q hq W e => ⟨lol_ownB oo1 fam1 hq hq W e, lol_ownB oo2 fam2 hq hq W e⟩, E⟩
theorem AtB.tolN {b : Nat} {x : Vm} {w : World} (h : AtB b x w) (n : Int) : AtB b (x.tolN n) w := fun W e => (h W e).tolN n
-- the plain law
theorem prt_nn {x : Vm} (hd : x.D.length ≤ 4) {t : List Int} (h : t ∈ recL x.D.length) : 0 ≤ prt (val t) := by
  have h2 := ((recL_all x.D.length (by omega)).2 t h).2.1
  have h0 := (h2 0 (by decide)).1
  have h1 := (h2 1 (by decide)).1
  have h3 := (h2 2 (by decide)).1
  have h4 := (h2 3 (by decide)).1
  simp only [prt, sumTo]
  omega
theorem mat_more {x : Vm} (hd : x.D.length ≤ 4) {s : Nat → Int} {ls ls' : List Int} {n : Int} (hn : x.tol ≤ n) (hs : ∀ l ∈ ls', l ∈ ls) {t : List Int} (h : t ∈ matL x s ls) : t ∈ matL (x.tolN n) s ls' := by
  obtain ⟨h1, h2⟩ := List.mem_filter.1 h
  refine List.mem_filter.2 ⟨h1, ?_⟩
  rw [cndE, Bool.and_eq_true, matE, List.all_eq_true] at h2 ⊢
  refine ⟨h2.1, fun l hl => ?_⟩
  have := of_decide_eq_true (h2.2 l (hs l hl))
  refine decide_eq_true (Int.le_trans this ?_)
  exact Int.mul_le_mul_of_nonneg_right hn (prt_nn hd h1)
theorem lamps_lt {ls : List Int} (h : ∀ i, 0 < i → i < ls.length → ls.getD (i - 1) 0 < ls.getD i 0) {i : Nat} : ∀ d, i + d + 1 < ls.length → ls.getD i 0 < ls.getD (i + d + 1) 0
  | 0, hj => by have := h (i + 1) (by omega) hj; simpa using this
  | d + 1, hj => Int.lt_trans (lamps_lt h d (by omega)) (by have := h (i + (d + 1) + 1) (by omega) hj; rwa [show i + (d + 1) + 1 - 1 = i + d + 1 by omega] at this)
/-- Without one of the lamps. -/
def dropN (ls : List Int) (k : Nat) : List Int := ls.take k ++ ls.drop (k + 1)
theorem drop_len {ls : List Int} {k : Nat} (hk : k < ls.length) : (dropN ls k).length = ls.length - 1 := by simp [dropN]; omega
theorem drop_get {ls : List Int} {k i : Nat} (hk : k < ls.length) : (dropN ls k).getD i 0 = if i < k then ls.getD i 0 else ls.getD (i + 1) 0 := by
  simp only [dropN, List.getD_eq_getElem?_getD, List.getElem?_append, List.length_take, Nat.min_eq_left (Nat.le_of_lt hk), List.getElem?_take, List.getElem?_drop]
  by_cases h : i < k
  · simp [h]
  · rw [if_neg h, if_neg h, show k + 1 + (i - k) = i + 1 by omega]
theorem drop_mem {ls : List Int} {k : Nat} {l : Int} (h : l ∈ dropN ls k) : l ∈ ls := by
  rcases List.mem_append.1 h with h | h
  · exact List.mem_of_mem_take h
  · exact List.mem_of_mem_drop h
theorem LmpsOk.drop {x : Vm} {ls : List Int} (h : LmpsOk x ls) {k : Nat} (hk : k < ls.length) (h1 : 1 < ls.length) : LmpsOk x (dropN ls k) := by
  refine ⟨by rw [drop_len hk]; omega, fun n hn => h.2.1 n (drop_mem hn), fun i h0 hi => ?_⟩
  rw [drop_len hk] at hi
  rw [drop_get hk, drop_get hk]
  by_cases a : i < k
  · rw [if_pos a, if_pos (by omega)]; exact h.2.2 i h0 (by omega)
  · rw [if_neg a]
    by_cases c : i - 1 < k
    · rw [if_pos c]
      have := lamps_lt h.2.2 (i := i - 1) 1 (by omega)
      rwa [show i - 1 + 1 + 1 = i + 1 by omega] at this
    · rw [if_neg c]
      have := h.2.2 (i + 1) (by omega) (by omega)
      rwa [show i + 1 - 1 = i - 1 + 1 by omega] at this
theorem recL_len3 : ∀ nd, nd < 5 → (recL nd).length ≤ 300 := by decide +kernel
theorem mat_len3 {x : Vm} (hv : VOk x) {s : Nat → Int} {ls : List Int} : (matL x s ls).length ≤ 300 := Nat.le_trans (List.length_filter_le _ _) (recL_len3 x.D.length (by have := hv.d4; omega))
/-- One of the lists that come after: where it lies, and what it is. -/
def aftV (p : Option Addr × Nat × List (Value × List Int)) : Value := .slice p.1 p.2.2.length p.2.1
theorem aft_flat : ∀ A : List (Option Addr × Nat × List (Value × List Int)), (A.map fun p => [aftV p]).flatten = A.map aftV
  | [] => rfl
  | p :: l => by rw [List.map_cons, List.flatten_cons, aft_flat l]; rfl
/-- The lists that come after: each holds all recipes of before. -/
structure AftOk (T : List (List Int)) (w : World) (a : Option Addr) (A : List (Option Addr × Nat × List (Value × List Int))) : Prop where
  out : SlAt [] w a 1 A.length (fun i => [aftV (A.getD i (none, 0, []))])
  row : ∀ p ∈ A, LolAt w p.1 p.2.2 ∧ p.2.2.length ≤ 300 ∧ (∀ q ∈ p.2.2, q.2.length ≤ 4) ∧ ∀ t ∈ T, t ∈ p.2.2.map (·.2)
theorem AftOk.ext {T : List (List Int)} {w W : World} {a : Option Addr} {A : List (Option Addr × Nat × List (Value × List Int))} (h : AftOk T w a A) (e : Ext [] w W) : AftOk T W a A := ⟨slAt_ext h.out e, fun p hp => ⟨(h.row p hp).1.ext e, (h.row p hp).2⟩⟩
theorem aft_of_own {T : List (List Int)} {w : World} {base c : Nat} {a : Option Addr} {A : List (Option Addr × Nat × List (Value × List Int))} (h : w.ownsRow base 22 1 (.slice a A.length c) A.length (A.map aftV)) (hr : ∀ p ∈ A, LolAt w p.1 p.2.2 ∧ p.2.2.length ≤ 300 ∧ (∀ q ∈ p.2.2, q.2.length ≤ 4) ∧ ∀ t ∈ T, t ∈ p.2.2.map (·.2)) : AftOk T w a A :=
  ⟨slAt_of_owns (row := fun p => [aftV p]) (by rw [aft_flat]; exact h) rfl (fun _ => rfl) [] (by simp) (none, 0, []), hr⟩
end Go.Proofs.Ytdjeecgddbjbeaa
