/- The walk of solve: the bounds of tapes, narrowed; a contradiction is caught. Conditions: the tapes are valid. -/
import Derived.Test.YtholfdgebdlgjaaNar
import Derived.Test.YtholfdgebdlgjaaLooLaw
import Derived.Defers
import Derived.Recover
namespace Go.Proofs.Ytholfdgebdlgjaa
open Go.RowKit
set_option linter.unusedVariables false
theorem clash_yes (xT : TypeId) (w : World) : (Instr.typeAssert (.iface 163 (.agg #[])) xT 163 true).run Try.prog w = .ok (.tuple #[.agg #[], .bool true]) w := by
  simp [Instr.typeAssert, run_underlying Try.underlying163, go_sem, Result.andThen]
theorem clash_no (xT : TypeId) (w : World) : (Instr.typeAssert Value.nilIface xT 163 true).run Try.prog w = .ok (.tuple #[.agg #[], .bool false]) w := by
  simp [Instr.typeAssert, run_underlying Try.underlying163, Try.zeroValue163, go_sem, Result.andThen]
set_option maxRecDepth 20000 in
set_option maxHeartbeats 400000 in
theorem catch_clash (b : Nat) (x : Bool) (w : World) (hb : w.heap[b]? = some (.cells #[.bool x] 4 (0, 0))) :
    CallsD Try.prog 131 #[.pointer (some ⟨b, 0, none⟩)] (.panicking [{ v := .iface 163 (.agg #[]), recovered := false }]) w fun e u' w' =>
      e = .returned (.tuple #[]) ∧ u' = .panicking [{ v := .iface 163 (.agg #[]), recovered := true }] ∧ w' = (w.alloc (.cells #[] 163)).setCell ⟨b, 0, none⟩ (.bool false) := by
  have hc : (w.alloc (.cells #[] 163)).cell? ⟨b, 0, none⟩ = some (.bool x) := (cells_of_block (blk_old hb) 0).trans rfl
  have hz : (w.alloc (.cells #[] 163)).frozen? ⟨b, 0, none⟩ = false := free_of_block (blk_old hb) 0
  refine callsD_of_wpS Try.func131 rfl fun c₀ cs hu => ?_
  apply wpS_seq
  apply wpS_region
  simp [wpOpsS, go_sem, recoverD, hu, Try.ntmps131, Exit.thenS, clash_yes, Result.andThen]
  apply wpS_seq
  apply wpS_region
  simp [wpOpsS, go_sem, Exit.thenS, Array.replicate]
  refine wpS_cond (t := true) (by simp [Act.eval]) ?_
  simp only [if_true]
  apply wpS_region
  simp [wpOpsS, go_sem, hc, hz, bodyPostS, results, Try.results131]
set_option maxRecDepth 20000 in
set_option maxHeartbeats 400000 in
theorem catch_idle (p : Addr) (w : World) :
    CallsD Try.prog 131 #[.pointer (some p)] .returning w fun e u' w' => e = .returned (.tuple #[]) ∧ u' = .returning ∧ w' = w.alloc (.cells #[] 163) := by
  refine callsD_of_wpS Try.func131 rfl fun c₀ cs hu => ?_
  apply wpS_seq
  apply wpS_region
  simp [wpOpsS, go_sem, recoverD, hu, Try.ntmps131, Exit.thenS, clash_no, Result.andThen]
  apply wpS_seq
  apply wpS_region
  simp [wpOpsS, go_sem, Exit.thenS, Array.replicate]
  refine wpS_cond (t := false) (by simp [Act.eval]) ?_
  simp only [Bool.false_eq_true, if_false]
  refine wpS_of_wp (wp_skip ?_)
  cases c₀
  simp_all [bodyPostS, results, Try.results131]
theorem loadVar_cell {P : Program} {t : TypeId} {b off : Nat} {v : Value} {d : TypeDesc} {w : World} (hd : P.underlying t = some d) (ha : d.isRow = false) (hc : w.cell? ⟨b, off, none⟩ = some v) : (loadVar t ⟨b, off, none⟩).run P w = .ok v w := by
  cases d <;> first | (simp [TypeDesc.isRow] at ha; done) | simp [loadVar, isAgg, underlying, hd, load, hc, Sem.run, go_sem]
/-- A struct result and a plain one are read out of their blocks at the return. -/
theorem res_cell2 {P : Program} {fn : Func} {t t2 : Tmp} {ty ty2 : TypeId} {tmps : Array Value} {w : World} {b b2 : Nat} {cs : Array Value} {v2 : Value} {T : TypeId} {d : TypeDesc} {fz : Nat × Nat} (hr : fn.results = #[.cell t ty, .cell t2 ty2]) (ht : tmps.getD t undef = .pointer (some ⟨b, 0, none⟩)) (hd : P.underlying ty = some d) (ha : d.isRow = true) (hi : (P.info? ty).map (·.size) = some cs.size) (H : w.heap[b]? = some (.cells cs T fz)) (ht2 : tmps.getD t2 undef = .pointer (some ⟨b2, 0, none⟩)) (hl2 : (loadVar ty2 ⟨b2, 0, none⟩).run P w = .ok v2 w) :
    (results fn tmps).run P w = .ok (.tuple #[.agg cs, v2]) w := by
  have hc : w.rangeAt b 0 cs.toList := fun j v hv => by
    rw [Nat.zero_add, cells_of_block H]; simpa using hv
  have hl := run_loadVar_mid (P := P) w b 0 ty cs.toList d hc hd ha (by simpa using hi)
  have ht' : tmps[t]?.getD undef = .pointer (some ⟨b, 0, none⟩) := by simpa using ht
  have ht2' : tmps[t2]?.getD undef = .pointer (some ⟨b2, 0, none⟩) := by simpa using ht2
  simp [results, hr, ht', ht2', asAddr, hl, hl2, Sem.run_bind, Result.andThen]
theorem seq_callP {P : Program} {ops : Array Oper} {Q : Exit → Act → World → Prop} {o : Oper} {rest : List Oper} {w : World} {l : List Value} {ds : List Deferred} {d : Tmp} {f : FuncId} {args : Array Value} {R : Ending → World → Prop} (hd : o.dst = some d) (hw : Region.wanted o (yielded ops l.toArray) = true) (hr : (execOp (Act.eval ⟨l.toArray, ds⟩) o).run P w = .ok (.enter f args) w) (hc : Calls P f args w R) (h : ∀ e w', R e w' → (∃ v l', e = .returned v ∧ l.set d v = l' ∧ wpList P ops Q rest ⟨l'.toArray, ds⟩ w') ∨ ∃ ps, e = .panicked ps ∧ Q (.panic ps) ⟨l.toArray, ds⟩ w') : wpList P ops Q (o :: rest) ⟨l.toArray, ds⟩ w := by
  unfold wpList
  simp only [hw, if_true, Oper.wp, hr, Oper.upon]
  refine .inl (hc.mono fun e w' hR => ?_)
  rcases h e w' hR with ⟨v, l', rfl, hl, h1⟩ | ⟨ps, rfl, h1⟩
  · show wpList _ _ _ _ _ _
    rw [put_lit _ hd, hl]
    exact h1
  · exact h1
set_option maxRecDepth 20000 in
set_option maxHeartbeats 1000000 in
theorem solve_any (t : Tp) (ok : t.Ok) (gv rv lv : Value) (out : Int) (ho1 : 0 ≤ out) (ho2 : out < 65536) (w : World) (ht : IsTp w gv rv lv t) (hs : safeM (looseM t out)) (hs2 : ∀ m', kTo (looseM t out) 13 = some m' → safeM m' ∧ ∃ m'', kTo m' 13 = some m'' ∧ eqM m'' m' = true) :
    Calls Try.prog 80 #[tpV t gv rv lv, .int .u16 out] w fun e w' => Ext [] w w' ∧
      ((kTo (looseM t out) 13 = none ∧ e = .returned (.tuple #[.agg (matCells fun _ _ => 0), .bool false])) ∨ ∃ m', kTo (looseM t out) 13 = some m' ∧ e = .returned (.tuple #[.agg (matCells m'), .bool true])) := by
  have hmf : ∀ (fn : Fn) (first cap : Array Value) (w : World), (Instr.makeFunc fn first cap).run Try.prog w = .ok (.func fn first cap) w := fun _ _ _ _ => rfl
  unfold tpV
  go_enter_defers Try.func80, Try.ntmps80
  go_upto_region 2 with (fail)
  have q0 : (((w.alloc (.cells #[.int .i64 t.S, .int .i64 t.A, .int .i64 t.T, .int .i64 t.bl, .int .i64 t.bm, .int .i64 t.pl, .int .i64 t.pm, .int .i64 t.sl, gv, rv, lv] 100)).alloc (.cells Try.zeroCells105 105)).alloc (.cells #[.bool false] 4)).heap[w.heap.size]? = _ := blk_old (blk_old (blk_new rfl))
  have q1 : (((w.alloc (.cells #[.int .i64 t.S, .int .i64 t.A, .int .i64 t.T, .int .i64 t.bl, .int .i64 t.bm, .int .i64 t.pl, .int .i64 t.pm, .int .i64 t.sl, gv, rv, lv] 100)).alloc (.cells Try.zeroCells105 105)).alloc (.cells #[.bool false] 4)).heap[w.heap.size + 1]? = _ := blk_old (blk_new (size_alloc _ _).symm)
  have q2 : (((w.alloc (.cells #[.int .i64 t.S, .int .i64 t.A, .int .i64 t.T, .int .i64 t.bl, .int .i64 t.bm, .int .i64 t.pl, .int .i64 t.pm, .int .i64 t.sl, gv, rv, lv] 100)).alloc (.cells Try.zeroCells105 105)).alloc (.cells #[.bool false] 4)).heap[w.heap.size + 1 + 1]? = _ := blk_new (by rw [size_alloc, size_alloc])
  have E0 : Ext [] w (((w.alloc (.cells #[.int .i64 t.S, .int .i64 t.A, .int .i64 t.T, .int .i64 t.bl, .int .i64 t.bm, .int .i64 t.pl, .int .i64 t.pm, .int .i64 t.sl, gv, rv, lv] 100)).alloc (.cells Try.zeroCells105 105)).alloc (.cells #[.bool false] 4)) := (((Ext.refl _ _).alloc _).alloc _).alloc _
  generalize (((w.alloc (.cells #[.int .i64 t.S, .int .i64 t.A, .int .i64 t.T, .int .i64 t.bl, .int .i64 t.bm, .int .i64 t.pl, .int .i64 t.pm, .int .i64 t.sl, gv, rv, lv] 100)).alloc (.cells Try.zeroCells105 105)).alloc (.cells #[.bool false] 4)) = W at q0 q1 q2 E0 ⊢
  generalize hN0 : w.heap.size = N0 at q0 q1 q2 ⊢
  refine wp_region_lit ?_
  refine seq_val rfl rfl (R_loadRow (cs := [.int .i64 t.S, .int .i64 t.A, .int .i64 t.T, .int .i64 t.bl, .int .i64 t.bm, .int .i64 t.pl, .int .i64 t.pm, .int .i64 t.sl, gv, rv, lv]) rfl rfl Try.underlying100 rfl (by kernel_rfl) (range_of_block q0)) (by simp only [List.set_cons_succ, List.set_cons_zero]; exact rfl) ?_
  refine seq_val rfl rfl (R_move (v := .int .u16 _) rfl rfl) (by simp only [List.set_cons_succ, List.set_cons_zero]; exact rfl) ?_
  refine seq_call rfl rfl (by kernel_rfl) (loose_any t ok gv rv lv out ho1 ho2 _ (ht.ext E0 (by simp))) fun e w' hR => ?_; obtain ⟨rfl, e1⟩ := hR; refine ⟨_, _, rfl, (by simp only [List.set_cons_succ, List.set_cons_zero]; exact rfl), ?_⟩
  refine seq_callP rfl rfl (by kernel_rfl) (narrow_any (looseM t out) _ hs hs2) fun e w2 hR => ?_
  obtain ⟨e2, ⟨hn, rfl⟩ | ⟨m', hm, rfl⟩⟩ := hR
  · (refine .inr ⟨_, rfl, ?_⟩; refine leaves_cons (f := 131) (args := #[.pointer (some ⟨N0 + 1 + 1, 0, none⟩)]) (by simp) (by simp [go_sem]) ?_; refine (catch_clash (N0 + 1 + 1) false _ (e2.keep0 (e1.keep0 q2))).mono ?_; rintro e u' w3 ⟨rfl, rfl, rfl⟩; have r1 := e2.keep0 (e1.keep0 q1); have r2 := e2.keep0 (e1.keep0 q2); have E4 : Ext [N0 + 1 + 1] w ((w2.alloc (.cells #[] 163)).setCell ⟨N0 + 1 + 1, 0, none⟩ (.bool false)) := Ext.setCell (Ext.alloc (((E0.nil e1).nil e2).mono (by simp)) _) (by simp) _; have E5 : Ext [] w ((w2.alloc (.cells #[] 163)).setCell ⟨N0 + 1 + 1, 0, none⟩ (.bool false)) := (Ext.refl _ _).trans' E4 (by simp; omega); refine ⟨_, res_cell2 rfl rfl Try.underlying105 rfl (by rw [matCells_size]; kernel_rfl) (((Below.heap_setCell _ _ _ _ (by simp)).trans (blk_old r1)).trans (by rw [zeroMat])) rfl (loadVar_cell (v := .bool false) Try.underlying4 rfl ?_), E5, .inl ⟨hn, rfl⟩⟩; exact World.cell?_setCell_same _ _ _ (u := .bool false) ((cells_of_block (blk_old r2) 0).trans rfl))
  refine .inl ⟨_, _, rfl, (by simp only [List.set_cons_succ, List.set_cons_zero]; exact rfl), ?_⟩
  have q1' := e2.keep0 (e1.keep0 q1)
  have q2' := e2.keep0 (e1.keep0 q2)
  refine seq_to rfl rfl (R_storeRow (cs := matCells m') rfl rfl rfl (by rw [matCells_size]; kernel_rfl) (by rw [← matList_toArray]; exact all_oneCell_toArray (matList_one _)) q1' (by rw [Try.zeroCells105_size, matCells_size])) fun W4 hW4 => ?_
  have q24 : W4.heap[N0 + 1 + 1]? = some (.cells #[.bool false] 4 (0, 0)) := by rw [hW4, setCells_other _ _ _ _ _ (by omega)]; exact q2'
  refine seq_to rfl rfl (R_store (v := .bool _) rfl rfl rfl rfl (by kernel_rfl) ((cells_of_block q24 0).trans rfl) (free_of_block q24 0)) fun W5 hW5 => ?_
  refine wpList_nil ?_
  have q14 : W4.heap[N0 + 1]? = some (.cells (matCells m') 105 (0, 0)) := by rw [hW4, ← matList_toArray, stored_block q1' (by rw [Try.zeroCells105_size, matList_toArray, matCells_size])]
  have E4 : Ext [N0 + 1] W W4 := by rw [hW4]; exact ((e1.nil e2).mono (by simp)).setCells (fun _ => by simp) _ _
  have E6 : Ext [N0 + 1, N0 + 1 + 1] W W5 := by rw [hW5]; exact (E4.mono (by simp)).setCell (by simp) _
  have q15 : W5.heap[N0 + 1]? = some (.cells (matCells m') 105 (0, 0)) := by rw [hW5]; exact (Below.heap_setCell _ _ _ _ (by simp)).trans q14
  have q25b : N0 + 1 + 1 < W5.heap.size := by rw [hW5, size_setCell]; exact blk_lt q24
  have q25 : W5.cell? ⟨N0 + 1 + 1, 0, none⟩ = some (.bool true) := by rw [hW5]; exact World.cell?_setCell_same _ _ _ (u := .bool false) ((cells_of_block q24 0).trans rfl)
  clear hW5 hW4
  have E7 : Ext [] w W5 := E0.trans' E6 (by simp; omega)
  go_wp2
  refine leaves_cons (f := 131) (args := #[.pointer (some ⟨N0 + 1 + 1, 0, none⟩)]) (by simp) (by simp [go_sem]) ?_
  refine (catch_idle _ _).mono ?_
  rintro e u' w3 ⟨rfl, rfl, rfl⟩
  refine ⟨_, res_cell2 rfl rfl Try.underlying105 rfl (by rw [matCells_size]; kernel_rfl) (blk_old q15) rfl (loadVar_cell (v := .bool true) Try.underlying4 rfl ?_), E7.alloc _, .inr ⟨m', hm, rfl⟩⟩
  exact ((Ext.refl [] W5).alloc _).cell (a := ⟨N0 + 1 + 1, 0, none⟩) q25b (by simp) |>.trans q25
theorem solve_ok (t : Tp) (ok : t.Ok) (gv rv lv : Value) (out : Int) (ho1 : 0 ≤ out) (ho2 : out < 65536) (w : World) (ht : IsTp w gv rv lv t) :
    Calls Try.prog 80 #[tpV t gv rv lv, .int .u16 out] w fun e w' => Ext [] w w' ∧
      ((kTo (looseM t out) 13 = none ∧ e = .returned (.tuple #[.agg (matCells fun _ _ => 0), .bool false])) ∨ ∃ m', kTo (looseM t out) 13 = some m' ∧ e = .returned (.tuple #[.agg (matCells m'), .bool true])) :=
  solve_any t ok gv rv lv out ho1 ho2 w ht (safe_loose ok out) (again_loose ok out)
end Go.Proofs.Ytholfdgebdlgjaa
