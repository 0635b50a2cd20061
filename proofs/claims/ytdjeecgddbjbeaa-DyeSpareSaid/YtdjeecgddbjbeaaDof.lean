/- What keeps the first one of the things that cost least: an offer. No conditions. -/
import Derived.Test.YtdjeecgddbjbeaaDnr
namespace Go.Proofs.Ytdjeecgddbjbeaa
open Go.RowKit
set_option linter.unusedVariables false
set_option linter.unusedSimpArgs false
/-- Ways out other than by a panic. -/
def noP (Q : Exit → Act → World → Prop) : Exit → Act → World → Prop := fun e a w => match e with
  | .panic _ => False
  | e => Q e a w
section
variable {P : Program} {Q : Exit → Act → World → Prop} {a : Act} {w : World} {md : Region.Mode} {ops : Array Oper} {T : World → Prop} {stop : Option Nat} {listed : Array Bool}
theorem region_xN {l : List Oper} {id : Nat} (T : World → Prop) (stop : Option Nat) (hm : P.follows .mixedOrders = true)
    (h : ∀ W : World, W.heap = w.heap → Ext [] w W → wpAnyX P .any l.toArray (noP Q) T stop l.toArray.size (Array.replicate l.toArray.size false) a W) : (Code.region id l.toArray true).wp P Q a w :=
  Code.wp_mono (fun e a w h => by cases e <;> first | exact h | exact h.elim) (region_x T stop hm h)
theorem ax_doneN (hr : Region.ready md ops listed = []) (h : Q .normal a w) (fuel : Nat) : wpAnyX P md ops (noP Q) T stop fuel listed a w := ax_done (Q := noP Q) hr h fuel
end
section
variable {P : Program} {ρ : Operand → Value} {o : Oper} {w : World}
theorem R_sliceOff {x : Operand} {t : TypeId} {b f n : Nat} (ho : o.op = .slice t x none none none) (hx : ρ x = .pointer (some ⟨b, f, none⟩)) (hu : P.underlying t = some (.array (P.arrayLen t) (P.elem t))) (hs : (P.info? (P.elem t)).map (·.size) = some 1) (hn : P.arrayLen t = n) :
    (execOp ρ o).run P w = .ok (.value (.slice (some ⟨b, f, none⟩) n n)) w := by
  have h0 : (sizeOf (P.elem t)).run P w = .ok 1 w := by
    generalize P.elem t = e at hs
    cases hq : P.info? e with
    | none => simp [hq] at hs
    | some j =>
      have hj : j.size = 1 := by simpa [hq] using hs
      simp [sizeOf, typeInfo, hq, hj]
  have hr := run_sliceAt_array_all (P := P) w t ⟨b, f, none⟩ hu
  rw [h0, hn] at hr
  simp only [Result.andThen_ok, slicedAt, Nat.zero_mul, Nat.sub_zero] at hr
  have ha : (if n = 0 then (⟨b, f, none⟩ : Addr) else Addr.add ⟨b, f, none⟩ 0) = ⟨b, f, none⟩ := by split <;> rfl
  rw [ha] at hr
  clear hu hs hn h0 ha
  unfold execOp
  simp only [ho, hx, Option.map_none, Sem.run_bind, hr, Result.andThen_ok, Sem.run_pure]
end
theorem rows_mid {w : World} {b off : Nat} {C : Array Value} {T : TypeId} {fz : Nat × Nat} (xs : List Int) (cap : Nat) (h : w.heap[b]? = some (.cells C T fz)) (hc : ∀ j, j < xs.length → C[off + j]? = some (.int .i64 (xs.getD j 0))) : IsRows w (.slice (some ⟨b, off, none⟩) xs.length cap) 1 (xs.map intRow) := by
  refine ⟨some ⟨b, off, none⟩, cap, by simp, by simp [intRow], fun _ => ⟨b, off, rfl, blk_lt h, fun i j x hi hj => ?_⟩⟩
  obtain rfl : j = 0 := by omega
  rw [cells_of_block h]
  simp only [List.getElem?_map, Option.map_eq_some_iff] at hi
  obtain ⟨y, hy, rfl⟩ := hi
  obtain ⟨h1, h2⟩ := List.getElem?_eq_some_iff.1 hy
  rw [Nat.mul_one, Nat.add_zero, hc i h1]
  simp [intRow, h1, h2]
def setL : List Value → Nat → List Value → List Value
  | xs, _, [] => xs
  | xs, j, v :: vs => setL (xs.set j v) (j + 1) vs
theorem put_midL {b : Nat} {T : TypeId} : ∀ {vs : List Value} {w w2 : World} {off : Nat} {C C' : Array Value}, w2 = w.setCells b off vs → w.heap[b]? = some (.cells C T (0, 0)) → C' = (setL C.toList off vs).toArray → w2.heap[b]? = some (.cells C' T (0, 0))
  | [], w, w2, off, C, C', e, H, h => by rw [e, h]; simpa [World.setCells, setL] using H
  | v :: vs, w, w2, off, C, C', e, H, h => by
    have h1 := put_cell (w2 := w.setCell ⟨b, off, none⟩ v) rfl H rfl
    exact put_midL (w := w.setCell ⟨b, off, none⟩ v) (off := off + 1) e h1 (by rw [h, setL, Array.toList_setIfInBounds])
/-- What nearest holds: a recipe, what it costs, whether there is one. -/
def nearC (f : Nat → Int) (a b : Int) (s : Bool) : Array Value := #[.int .i64 (f 0), .int .i64 (f 1), .int .i64 (f 2), .int .i64 (f 3), .int .i64 a, .int .i64 b, .bool s]
set_option maxRecDepth 100000 in
theorem offer_new (nb : Nat) (g f : Nat → Int) (c d a b : Int) (w : World) (hq : w.heap[nb]? = some (.cells (nearC g c d false) 88 (0, 0))) :
    Calls Try.prog 60 #[.pointer (some ⟨nb, 0, none⟩), .agg #[.int .i64 (f 0), .int .i64 (f 1), .int .i64 (f 2), .int .i64 (f 3)], .agg #[.int .i64 a, .int .i64 b]] w fun e w' => e = .returned (.tuple #[]) ∧ w'.heap[nb]? = some (.cells (nearC f a b true) 88 (0, 0)) ∧ Ext [nb] w w' := by
  have E : Ext [nb] w w := Ext.refl _ _
  have qn : w.heap[nb]? = some (.cells #[.int .i64 (g 0), .int .i64 (g 1), .int .i64 (g 2), .int .i64 (g 3), .int .i64 c, .int .i64 d, .bool false] 88 (0, 0)) := hq
  clear hq
  refine calls_has 31 Try.func60 rfl Try.ntmps60 (Nat.le_of_ble_eq_true rfl) ?_
  intro fa F
  refine wp_seq_k fun K1 hK1 => ?_
  refine wp_region_lit ?_
  refine sq_new F rfl (by decide) rfl (R_box rfl (F.at rfl)) ?_; clear F fa; intro fa w1 F hw
  obtain ⟨n4, hn⟩ : ∃ n, n = w.heap.size := ⟨_, rfl⟩
  rw [← hn] at F
  have s4 : w.heap.size ≤ n4 := Nat.le_of_eq hn.symm
  have l4_E : w.heap.size ≤ n4 := by rw [hn]; exact E.size
  have m4_n : nb < n4 := by rw [hn]; exact blk_lt qn
  replace qn := keep_alloc hw qn
  replace E := ext_alloc E hw
  have q4 := new_row hw hn
  clear hw hn
  refine sq_new F rfl (by decide) rfl (R_box rfl (F.at rfl)) ?_; clear F fa; intro fa w2 F hw
  obtain ⟨n5, hn⟩ : ∃ n, n = w1.heap.size := ⟨_, rfl⟩
  rw [← hn] at F
  have s5 : w1.heap.size ≤ n5 := Nat.le_of_eq hn.symm
  have l5_E : w.heap.size ≤ n5 := by rw [hn]; exact E.size
  have m5_n : nb < n5 := by rw [hn]; exact blk_lt qn
  have m5_4 : n4 < n5 := by rw [hn]; exact blk_lt q4
  replace qn := keep_alloc hw qn
  replace q4 := keep_alloc hw q4
  replace E := ext_alloc E hw
  have q5 := new_row hw hn
  clear hw hn
  refine wpList_nil ?_
  refine hK1 _ _ ?_
  clear hK1
  refine wp_seq_k fun K2 hK2 => ?_
  refine wp_region_st 11 follows (by kernel_rfl) fun w3 hh eh => ?_
  replace qn := keep_same hh qn
  replace q4 := keep_same hh q4
  replace q5 := keep_same hh q5
  replace E := ext_same E eh
  clear hh eh
  refine F.smv ?_; clear F fa; intro fa F
  refine F.sv (R_nilCheck rfl (F.at rfl)) ?_; clear F fa; intro fa F
  refine F.sv (R_field rfl (F.at rfl) Try.underlying88 rfl (n := 6) (sz := 1) rfl (by kernel_rfl) (by decide)) ?_; clear F fa; intro fa F
  refine F.sv (R_load rfl (F.at rfl) Try.underlying4 rfl ((cells_of_block qn 6).trans (getS (getS (getS (getS (getS (getS (get0))))))))) ?_; clear F fa; intro fa F
  refine F.sv (R_not rfl (F.at rfl)) ?_; clear F fa; intro fa F
  refine F.smv ?_; clear F fa; intro fa F
  refine st_no F rfl (by decide) (wantF F rfl rfl (by decide) rfl (by decide)) ?_; clear F fa; intro fa F
  refine st_no F rfl (by decide) (wantF F rfl rfl (by decide) rfl (by decide)) ?_; clear F fa; intro fa F
  refine st_no F rfl (by decide) (wantF F rfl rfl (by decide) rfl (by decide)) ?_; clear F fa; intro fa F
  refine st_no F rfl (by decide) (wantF F rfl rfl (by decide) rfl (by decide)) ?_; clear F fa; intro fa F
  refine st_no F rfl (by decide) (wantF F rfl rfl (by decide) rfl (by decide)) ?_; clear F fa; intro fa F
  refine wpStill_nil ?_
  refine sq_no F rfl (by decide) (wantF F rfl rfl (by decide) rfl (by decide)) ?_; clear F fa; intro fa F
  refine sq_no F rfl (by decide) (wantF F rfl rfl (by decide) rfl (by decide)) ?_; clear F fa; intro fa F
  refine F.vl (R_pickT rfl (F.at rfl) (ev_c fa _)) ?_; clear F fa; intro fa F
  refine wpList_nil ?_
  refine hK2 _ _ ?_
  clear hK2
  refine cd_T F rfl ?_
  refine wp_region_lit ?_
  refine F.mv ?_; clear F fa; intro fa F
  refine F.mv ?_; clear F fa; intro fa F
  refine F.mv ?_; clear F fa; intro fa F
  refine F.vl (R_loadBlk rfl (F.at rfl) Try.underlying83 rfl (by kernel_rfl) q4) ?_; clear F fa; intro fa F
  refine F.vl (R_loadBlk rfl (F.at rfl) Try.underlying86 rfl (by kernel_rfl) q5) ?_; clear F fa; intro fa F
  refine F.vl (R_nilCheck rfl (F.at rfl)) ?_; clear F fa; intro fa F
  refine F.vl (R_field rfl (F.at rfl) Try.underlying88 rfl (n := 0) (sz := 4) rfl (by kernel_rfl) (by decide)) ?_; clear F fa; intro fa F
  refine sq_to rfl rfl (R_storeMid rfl (F.at rfl) (F.at rfl) (by kernel_rfl) (by simp [Value.oneCell']) qn (by simp)) ?_; intro w4 hw
  replace qn : w4.heap[nb]? = some (.cells #[.int .i64 (f 0), .int .i64 (f 1), .int .i64 (f 2), .int .i64 (f 3), .int .i64 c, .int .i64 d, .bool false] 88 (0, 0)) := put_midL hw qn rfl
  replace q4 := keep_cells hw q4 (by omega)
  replace q5 := keep_cells hw q5 (by omega)
  replace E := ext_cells E hw (fun h => by first | exact absurd h (by omega) | simp)
  clear hw
  refine F.vl (R_nilCheck rfl (F.at rfl)) ?_; clear F fa; intro fa F
  refine F.vl (R_field rfl (F.at rfl) Try.underlying88 rfl (n := 4) (sz := 2) rfl (by kernel_rfl) (by decide)) ?_; clear F fa; intro fa F
  refine sq_to rfl rfl (R_storeMid rfl (F.at rfl) (F.at rfl) (by kernel_rfl) (by simp [Value.oneCell']) qn (by simp)) ?_; intro w5 hw
  replace qn := put_mid2 hw qn (by simp only [List.setIfInBounds_toArray, List.set_cons_succ, List.set_cons_zero]; exact rfl)
  replace q4 := keep_cells hw q4 (by omega)
  replace q5 := keep_cells hw q5 (by omega)
  replace E := ext_cells E hw (fun h => by first | exact absurd h (by omega) | simp)
  clear hw
  refine F.vl (R_nilCheck rfl (F.at rfl)) ?_; clear F fa; intro fa F
  refine F.vl (R_field rfl (F.at rfl) Try.underlying88 rfl (n := 6) (sz := 1) rfl (by kernel_rfl) (by decide)) ?_; clear F fa; intro fa F
  refine sq_to rfl rfl (R_store rfl (F.at rfl) (ev_c fa _) rfl (by kernel_rfl) ((cells_of_block qn 6).trans (getS (getS (getS (getS (getS (getS (get0)))))))) (free_of_block qn 6)) ?_; intro w6 hw
  replace qn := put_cell hw qn (by simp only [List.setIfInBounds_toArray, List.set_cons_succ, List.set_cons_zero]; exact rfl)
  replace q4 := keep_cell hw q4 (by omega)
  replace q5 := keep_cell hw q5 (by omega)
  replace E := ext_cell E hw (fun h => by first | exact absurd h (by omega) | simp)
  clear hw
  refine wpList_nil ?_
  (try simp only [Exit.inBlock, Exit.then, reduceIte])
  refine rt_vn F (rs_0 rfl) ?_
  exact ⟨rfl, qn, E⟩
set_option maxRecDepth 100000 in
theorem offer_old (nb : Nat) (g f : Nat → Int) (c d a b : Int) (w : World) (hq : w.heap[nb]? = some (.cells (nearC g c d true) 88 (0, 0))) :
    Calls Try.prog 60 #[.pointer (some ⟨nb, 0, none⟩), .agg #[.int .i64 (f 0), .int .i64 (f 1), .int .i64 (f 2), .int .i64 (f 3)], .agg #[.int .i64 a, .int .i64 b]] w fun e w' => e = .returned (.tuple #[]) ∧ w'.heap[nb]? = some (.cells (if cmpL [a, b] [c, d] < 0 then nearC f a b true else nearC g c d true) 88 (0, 0)) ∧ Ext [nb] w w' := by
  have E : Ext [nb] w w := Ext.refl _ _
  have qn : w.heap[nb]? = some (.cells #[.int .i64 (g 0), .int .i64 (g 1), .int .i64 (g 2), .int .i64 (g 3), .int .i64 c, .int .i64 d, .bool true] 88 (0, 0)) := hq
  clear hq
  refine calls_has 31 Try.func60 rfl Try.ntmps60 (Nat.le_of_ble_eq_true rfl) ?_
  intro fa F
  refine wp_seq_k fun K1 hK1 => ?_
  refine wp_region_lit ?_
  refine sq_new F rfl (by decide) rfl (R_box rfl (F.at rfl)) ?_; clear F fa; intro fa w1 F hw
  obtain ⟨n4, hn⟩ : ∃ n, n = w.heap.size := ⟨_, rfl⟩
  rw [← hn] at F
  have s4 : w.heap.size ≤ n4 := Nat.le_of_eq hn.symm
  have l4_E : w.heap.size ≤ n4 := by rw [hn]; exact E.size
  have m4_n : nb < n4 := by rw [hn]; exact blk_lt qn
  replace qn := keep_alloc hw qn
  replace E := ext_alloc E hw
  have q4 := new_row hw hn
  clear hw hn
  refine sq_new F rfl (by decide) rfl (R_box rfl (F.at rfl)) ?_; clear F fa; intro fa w2 F hw
  obtain ⟨n5, hn⟩ : ∃ n, n = w1.heap.size := ⟨_, rfl⟩
  rw [← hn] at F
  have s5 : w1.heap.size ≤ n5 := Nat.le_of_eq hn.symm
  have l5_E : w.heap.size ≤ n5 := by rw [hn]; exact E.size
  have m5_n : nb < n5 := by rw [hn]; exact blk_lt qn
  have m5_4 : n4 < n5 := by rw [hn]; exact blk_lt q4
  replace qn := keep_alloc hw qn
  replace q4 := keep_alloc hw q4
  replace E := ext_alloc E hw
  have q5 := new_row hw hn
  clear hw hn
  refine wpList_nil ?_
  refine hK1 _ _ ?_
  clear hK1
  refine wp_seq_k fun K2 hK2 => ?_
  refine wp_region_st 11 follows (by kernel_rfl) fun w3 hh eh => ?_
  replace qn := keep_same hh qn
  replace q4 := keep_same hh q4
  replace q5 := keep_same hh q5
  replace E := ext_same E eh
  clear hh eh
  refine F.smv ?_; clear F fa; intro fa F
  refine F.sv (R_nilCheck rfl (F.at rfl)) ?_; clear F fa; intro fa F
  refine F.sv (R_field rfl (F.at rfl) Try.underlying88 rfl (n := 6) (sz := 1) rfl (by kernel_rfl) (by decide)) ?_; clear F fa; intro fa F
  refine F.sv (R_load rfl (F.at rfl) Try.underlying4 rfl ((cells_of_block qn 6).trans (getS (getS (getS (getS (getS (getS (get0))))))))) ?_; clear F fa; intro fa F
  refine F.sv (R_not rfl (F.at rfl)) ?_; clear F fa; intro fa F
  refine F.smv ?_; clear F fa; intro fa F
  refine F.sv ((R_sliceAll (n := 2) rfl (F.at rfl) (by kernel_rfl) (by kernel_rfl) (by kernel_rfl))) ?_ (hw := (wantT F rfl rfl (by decide) rfl)); clear F fa; intro fa F
  refine F.smv ?_ (hw := (wantT F rfl rfl (by decide) rfl)); clear F fa; intro fa F
  refine F.sv (R_nilCheck rfl (F.at rfl)) ?_ (hw := (wantT F rfl rfl (by decide) rfl)); clear F fa; intro fa F
  refine F.sv (R_field rfl (F.at rfl) Try.underlying88 rfl (n := 4) (sz := 2) rfl (by kernel_rfl) (by decide)) ?_ (hw := (wantT F rfl rfl (by decide) rfl)); clear F fa; intro fa F
  refine F.sv ((R_sliceOff (n := 2) rfl (F.at rfl) (by kernel_rfl) (by kernel_rfl) (by kernel_rfl))) ?_ (hw := (wantT F rfl rfl (by decide) rfl)); clear F fa; intro fa F
  refine wpStill_nil ?_
  refine sq_call F rfl (by decide) (wantT F rfl rfl (by decide) rfl) (R_callV rfl rfl Try.call77 (mpS (F.at rfl) (mpS (F.at rfl) mp0))) (compare_any [a, b] [c, d] (some ⟨n5, 0, none⟩) (some ⟨nb, 4, none⟩) 2 2 _ (rows_lit [a, b] 2 q5) (rows_mid [c, d] 2 qn (fun j hj => by rcases j with _ | _ | j; (· rfl); (· rfl); (· simp at hj; omega))) (by simp) (by simp)) fun e w4 hR => ?_
  obtain ⟨rfl, e9⟩ := hR
  refine ⟨_, rfl, ?_⟩; clear F fa; intro fa F
  replace qn := (e9).keep0 qn
  replace q4 := (e9).keep0 q4
  replace q5 := (e9).keep0 q5
  replace E := ext_same E (e9)
  clear e9
  refine F.vl (R_lss rfl (F.at rfl) (ev_c fa _)) ?_ (hw := (wantT F rfl rfl (by decide) rfl)); clear F fa; intro fa F
  refine F.vl (R_pickF rfl (F.at rfl) (F.at rfl)) ?_; clear F fa; intro fa F
  refine wpList_nil ?_
  refine hK2 _ _ ?_
  clear hK2
  refine cd_if F rfl (fun hc19 => ?_) (fun hc19 => ?_)
  · skip
    refine wp_region_lit ?_
    refine F.mv ?_; clear F fa; intro fa F
    refine F.mv ?_; clear F fa; intro fa F
    refine F.mv ?_; clear F fa; intro fa F
    refine F.vl (R_loadBlk rfl (F.at rfl) Try.underlying83 rfl (by kernel_rfl) q4) ?_; clear F fa; intro fa F
    refine F.vl (R_loadBlk rfl (F.at rfl) Try.underlying86 rfl (by kernel_rfl) q5) ?_; clear F fa; intro fa F
    refine F.vl (R_nilCheck rfl (F.at rfl)) ?_; clear F fa; intro fa F
    refine F.vl (R_field rfl (F.at rfl) Try.underlying88 rfl (n := 0) (sz := 4) rfl (by kernel_rfl) (by decide)) ?_; clear F fa; intro fa F
    refine sq_to rfl rfl (R_storeMid rfl (F.at rfl) (F.at rfl) (by kernel_rfl) (by simp [Value.oneCell']) qn (by simp)) ?_; intro w5 hw
    replace qn : w5.heap[nb]? = some (.cells #[.int .i64 (f 0), .int .i64 (f 1), .int .i64 (f 2), .int .i64 (f 3), .int .i64 c, .int .i64 d, .bool true] 88 (0, 0)) := put_midL hw qn rfl
    replace q4 := keep_cells hw q4 (by omega)
    replace q5 := keep_cells hw q5 (by omega)
    replace E := ext_cells E hw (fun h => by first | exact absurd h (by omega) | simp)
    clear hw
    refine F.vl (R_nilCheck rfl (F.at rfl)) ?_; clear F fa; intro fa F
    refine F.vl (R_field rfl (F.at rfl) Try.underlying88 rfl (n := 4) (sz := 2) rfl (by kernel_rfl) (by decide)) ?_; clear F fa; intro fa F
    refine sq_to rfl rfl (R_storeMid rfl (F.at rfl) (F.at rfl) (by kernel_rfl) (by simp [Value.oneCell']) qn (by simp)) ?_; intro w6 hw
    replace qn := put_mid2 hw qn (by simp only [List.setIfInBounds_toArray, List.set_cons_succ, List.set_cons_zero]; exact rfl)
    replace q4 := keep_cells hw q4 (by omega)
    replace q5 := keep_cells hw q5 (by omega)
    replace E := ext_cells E hw (fun h => by first | exact absurd h (by omega) | simp)
    clear hw
    refine F.vl (R_nilCheck rfl (F.at rfl)) ?_; clear F fa; intro fa F
    refine F.vl (R_field rfl (F.at rfl) Try.underlying88 rfl (n := 6) (sz := 1) rfl (by kernel_rfl) (by decide)) ?_; clear F fa; intro fa F
    refine sq_to rfl rfl (R_store rfl (F.at rfl) (ev_c fa _) rfl (by kernel_rfl) ((cells_of_block qn 6).trans (getS (getS (getS (getS (getS (getS (get0)))))))) (free_of_block qn 6)) ?_; intro w7 hw
    replace qn := put_cell hw qn (by simp only [List.setIfInBounds_toArray, List.set_cons_succ, List.set_cons_zero]; exact rfl)
    replace q4 := keep_cell hw q4 (by omega)
    replace q5 := keep_cell hw q5 (by omega)
    replace E := ext_cell E hw (fun h => by first | exact absurd h (by omega) | simp)
    clear hw
    refine wpList_nil ?_
    (try simp only [Exit.inBlock, Exit.then, reduceIte])
    refine rt_vn F (rs_0 rfl) ?_
    exact ⟨rfl, (by rw [if_pos hc19]; exact qn), E⟩
  · skip
    refine wp_skip ?_
    (try simp only [Exit.inBlock, Exit.then, reduceIte])
    refine rt_vn F (rs_0 rfl) ?_
    exact ⟨rfl, (by rw [if_neg hc19]; exact qn), E⟩
end Go.Proofs.Ytdjeecgddbjbeaa
