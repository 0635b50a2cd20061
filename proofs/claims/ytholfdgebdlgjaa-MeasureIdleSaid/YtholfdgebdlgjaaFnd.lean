/- The walk of find, over the sets of readings, for Ring. Conditions: at most 15 readings. -/
import Derived.Test.YtholfdgebdlgjaaIt2
import Derived.Test.YtholfdgebdlgjaaOpn
import Derived.RangeFuncFrom
namespace Go.Proofs.Ytholfdgebdlgjaa
open Go.RowKit Go.Shelf
set_option linter.unusedVariables false
set_option linter.unusedSimpArgs false
attribute [local go_sem] Oper.semAt_some
theorem blk_grown {B : Nat} {W W' : World} {row : Option Nat} (hg : W.grownBy W' row) (hr : ∀ r, row = some r → B ≤ r ∧ ∃ o : Obj, W.heap[r]? = some o ∧ o.isCells = false) {k : Nat} {cs : Array Value} {T : TypeId} {fz : Nat × Nat} (h : W.heap[k]? = some (.cells cs T fz)) : W'.heap[k]? = some (.cells cs T fz) := by
  refine (hg.block k (blk_lt h) fun e => ?_).trans h
  obtain ⟨_, o, ho, hc⟩ := hr k e.symm
  rw [h] at ho; cases ho; cases hc
theorem ext_grown {B : Nat} {w W W' : World} {row : Option Nat} (hB : w.heap.size ≤ B) (hs : Ext [] w W) (hg : W.grownBy W' row) (hr : ∀ r, row = some r → B ≤ r ∧ ∃ o : Obj, W.heap[r]? = some o ∧ o.isCells = false) : Ext [] w W' :=
  Ext.of_below (hs.below.grown hg hs.size (fun k e => Nat.le_trans hB (hr k e).1))
theorem res_ss {P : Program} {fn : Func} {tmps : Array Value} {w : World} {t t2 : Tmp} {ty ty2 : TypeId} {b b2 : Nat} {v v2 : Value} {T T2 : TypeId} {d d2 : TypeDesc} {fz fz2 : Nat × Nat} (hr : fn.results = #[.cell t ty, .cell t2 ty2]) (ht : tmps.getD t undef = .pointer (some ⟨b, 0, none⟩)) (hd : P.underlying ty = some d) (ha : d.isRow = false) (H : w.heap[b]? = some (.cells #[v] T fz))
    (ht2 : tmps.getD t2 undef = .pointer (some ⟨b2, 0, none⟩)) (hd2 : P.underlying ty2 = some d2) (ha2 : d2.isRow = false) (H2 : w.heap[b2]? = some (.cells #[v2] T2 fz2)) :
    (results fn tmps).run P w = .ok (.tuple #[v, v2]) w := by
  have hl : (loadVar ty ⟨b, 0, none⟩).run P w = .ok v w := by
    have hc := (cells_of_block H 0).trans get0
    cases d <;> first | (simp [TypeDesc.isRow] at ha; done) | simp [loadVar, isAgg, underlying, hd, load, hc, Sem.run, go_sem]
  have hl2 : (loadVar ty2 ⟨b2, 0, none⟩).run P w = .ok v2 w := by
    have hc := (cells_of_block H2 0).trans get0
    cases d2 <;> first | (simp [TypeDesc.isRow] at ha2; done) | simp [loadVar, isAgg, underlying, hd2, load, hc, Sem.run, go_sem]
  have ht' : tmps[t]?.getD undef = .pointer (some ⟨b, 0, none⟩) := by simpa using ht
  have ht2' : tmps[t2]?.getD undef = .pointer (some ⟨b2, 0, none⟩) := by simpa using ht2
  simp [results, hr, ht', ht2', asAddr, hl, hl2, Sem.run_bind, Result.andThen]
theorem keep_put {W : World} {D k : Nat} {o o' : Obj} {cs : Array Value} {T : TypeId} {fz : Nat × Nat} (hD : W.heap[D]? = some o) (hc : o.isCells = false) (h : W.heap[k]? = some (.cells cs T fz)) : (W.putObj D o').heap[k]? = some (.cells cs T fz) := by
  have : k ≠ D := fun e => by subst e; rw [hD] at h; cases h; cases hc
  rw [World.putObj_heap_other this]; exact h
theorem ext_put {w W : World} {D : Nat} {o' : Obj} (h : Ext [] w W) (hD : w.heap.size ≤ D) : Ext [] w (W.putObj D o') :=
  ⟨h.os, h.tape, h.output, by simpa [World.putObj] using h.size, fun k hk hx => (World.putObj_heap_other (by omega)).trans (h.block k hk hx)⟩
set_option maxRecDepth 100000 in
set_option maxHeartbeats 4000000 in
theorem find_ring (many mb : Nat) (hm : many ≤ 15) (b1 b2 : Nat) (p : Nat → Bool) (w : World) (hmb : w.heap[mb]? = some (.cells #[.int .i64 many] 3 (0, 0)))
    (hso : ∀ (x : Nat) (W : World), x < 65536 → Ext [] w W → Calls Try.prog 112 #[.int .u16 x, .pointer (some ⟨b1, 0, none⟩), .pointer (some ⟨b2, 0, none⟩)] W fun e W' => e = .returned (.bool (p x)) ∧ Ext [] W W') :
    Calls Try.prog 110 #[.func (.func 138) #[] #[.pointer (some ⟨mb, 0, none⟩)], .func (.func 112) #[] #[.pointer (some ⟨b1, 0, none⟩), .pointer (some ⟨b2, 0, none⟩)]] w fun e w' =>
      e = .returned (.tuple #[.int .u16 (((setsL many).find? p).getD 0 : Nat), .bool ((setsL many).find? p).isSome]) ∧ Ext [] w w' := by
  have Hso := Lib.hid hso; clear hso
  refine (callsIn_wide (n := 3)).1 ?_
  refine callsIn_of_wp_marks Try.func110 rfl trivial ?_ rfl
  simp only [Try.ntmps110, List.size_toArray, List.length_cons, List.length_nil, Nat.reduceAdd, Nat.reduceSub, Array.replicate_succ, Array.replicate_zero, List.push_toArray, List.append_toArray, List.nil_append, List.cons_append]
  gi_wp2
  have q3 : (((w.alloc (.cells #[.func (.func 112) #[] #[.pointer (some ⟨b1, 0, none⟩), .pointer (some ⟨b2, 0, none⟩)]] 140)).alloc (.cells #[.int .u16 0] 109)).alloc (.cells #[.bool false] 4)).heap[w.heap.size]? = _ := blk_old (blk_old (blk_new rfl))
  have q4 : (((w.alloc (.cells #[.func (.func 112) #[] #[.pointer (some ⟨b1, 0, none⟩), .pointer (some ⟨b2, 0, none⟩)]] 140)).alloc (.cells #[.int .u16 0] 109)).alloc (.cells #[.bool false] 4)).heap[w.heap.size + 1]? = _ := blk_old (blk_new (size_alloc _ _).symm)
  have q5 : (((w.alloc (.cells #[.func (.func 112) #[] #[.pointer (some ⟨b1, 0, none⟩), .pointer (some ⟨b2, 0, none⟩)]] 140)).alloc (.cells #[.int .u16 0] 109)).alloc (.cells #[.bool false] 4)).heap[w.heap.size + 1 + 1]? = _ := blk_new (by rw [size_alloc, size_alloc])
  have E : Ext [] w (((w.alloc (.cells #[.func (.func 112) #[] #[.pointer (some ⟨b1, 0, none⟩), .pointer (some ⟨b2, 0, none⟩)]] 140)).alloc (.cells #[.int .u16 0] 109)).alloc (.cells #[.bool false] 4)) := (((Ext.refl _ _).alloc _).alloc _).alloc _
  generalize (((w.alloc (.cells #[.func (.func 112) #[] #[.pointer (some ⟨b1, 0, none⟩), .pointer (some ⟨b2, 0, none⟩)]] 140)).alloc (.cells #[.int .u16 0] 109)).alloc (.cells #[.bool false] 4)) = W0 at q3 q4 q5 E ⊢
  generalize hN0 : w.heap.size = N0 at q3 q4 q5 ⊢
  have hq5 := blk_lt q5
  have E0 := E
  refine wpIn_rangeFunc_ownF (α := SetN) rfl (by omega) (gf := 138) (lb := #[.pointer (some ⟨mb, 0, none⟩)]) rfl trivial (enters_of Try.func138 (by kernel_rfl) rfl)
    (sets1_stops _ many mb hm [N0 + 1, N0 + 1 + 1] W0 (by have := blk_lt hmb; simp; omega) (by simp; omega) (E.keep0 hmb)) KeepC.trans (fun W l o o' _ hl hc _ => KeepC.put W l o o' hl hc) (Below.refl _ _) (fun _ => rfl)
    (fun pre W => (∀ x ∈ pre, p x.1 = false) ∧ W.heap[N0]? = some (.cells #[.func (.func 112) #[] #[.pointer (some ⟨b1, 0, none⟩), .pointer (some ⟨b2, 0, none⟩)]] 140 (0, 0)) ∧ W.heap[N0 + 1]? = some (.cells #[.int .u16 0] 109 (0, 0)) ∧ W.heap[N0 + 1 + 1]? = some (.cells #[.bool false] 4 (0, 0)) ∧ Ext [] w W)
    (fun c pre W => c = .ret ∧ ∃ (q : List SetN) (x : SetN), pre = q ++ [x] ∧ (∀ y ∈ q, p y.1 = false) ∧ p x.1 = true ∧ W.heap[N0 + 1]? = some (.cells #[.int .u16 x.1] 109 (0, 0)) ∧ W.heap[N0 + 1 + 1]? = some (.cells #[.bool true] 4 (0, 0)) ∧ Ext [] w W)
    (fun s A B row hs hg hr => ⟨hs.1, blk_grown hg hr hs.2.1, blk_grown hg hr hs.2.2.1, blk_grown hg hr hs.2.2.2.1, ext_grown E.size hs.2.2.2.2 hg hr⟩)
    (fun c s A B row hs hg hr => by
      obtain ⟨hc, q, x, h1, h2, h3, h4, h5, h6⟩ := hs
      exact ⟨hc, q, x, h1, h2, h3, blk_grown hg hr h4, blk_grown hg hr h5, ext_grown E.size h6 hg hr⟩)
    ⟨by simp, q3, q4, q5, E⟩
    (fun x => { tmps := #[.func (.func 138) #[] #[.pointer (some ⟨mb, 0, none⟩)], .func (.func 112) #[] #[.pointer (some ⟨b1, 0, none⟩), .pointer (some ⟨b2, 0, none⟩)], undef, .pointer (some ⟨N0, 0, none⟩), .pointer (some ⟨N0 + 1, 0, none⟩), .pointer (some ⟨N0 + 1 + 1, 0, none⟩), .int .u16 x.1, undef, .func (.func 138) #[] #[.pointer (some ⟨mb, 0, none⟩)], .int .u16 x.1, undef, undef, undef, undef, undef], defers := [] }) ?assign ?body ?done ?stop
  case assign =>
    intro l x W K hK
    gi_wp2
    exact hK
  case body =>
    rintro l pre x W ⟨hp, q3, q4, q5, E⟩ _
    have c0 := (cells_of_block q3 0).trans get0
    have hc := Hso.out x.1 W x.2 E
    cases hpx : p x.1
    · rw [hpx] at hc
      gi_wp2_with ((try refine ⟨trivial, ?_⟩); gi_at_call 112; refine (CallsIn.inRound l (callsIn_wide.2 hc)).mono ?_; clear hc; rintro e W2 ⟨rfl, e2⟩)
      refine ⟨KeepsOthers.of_grownBy (grown_of_ext e2) (by simp), KeepC.of_ext (e2.mono (by simp)), fun y hy => ?_, e2.keep0 q3, e2.keep0 q4, e2.keep0 q5, E.nil e2⟩
      rcases List.mem_append.1 hy with h | h
      · exact hp y h
      · obtain rfl : y = x := by simpa using h
        exact hpx
    · rw [hpx] at hc
      gi_wp2_with ((try refine ⟨trivial, ?_⟩); gi_at_call 112; refine (CallsIn.inRound l (callsIn_wide.2 hc)).mono ?_; clear hc; rintro e W2 ⟨rfl, e2⟩; have r4 := e2.keep0 q4; have r5 := e2.keep0 q5; have d4 := (cells_of_block r4 0).trans get0; have d5 := (cells_of_block r5 0).trans get0; have f4 := free_of_block r4 0; have f5 := free_of_block r5 0)
      exact ⟨((KeepsOthers.of_grownBy (grown_of_ext e2) (by simp)).trans (KeepsOthers.setCell _ _ _)).trans (KeepsOthers.setCell _ _ _), rfl, pre, x, rfl, hp, hpx,
        keep_cell rfl (put_cell rfl r4 (by simp)) (by omega), put_cell rfl (keep_cell rfl r5 (by omega)) (by simp), ext_cell (ext_cell (E.nil e2) rfl (fun h => absurd h (by omega))) rfl (fun h => absurd h (by omega))⟩
  case done =>
    rintro D ys W hD hS ⟨hp, q3, q4, q5, E⟩ hK
    have hN : (setsL many).find? p = none := by
      rw [List.find?_eq_none]
      intro y hy
      rw [← hS] at hy
      obtain ⟨z, hz, rfl⟩ := List.mem_map.1 hy
      simp [hp z hz]
    have d4 := (cells_of_block q4 0).trans get0
    have d5 := (cells_of_block q5 0).trans get0
    have f4 := free_of_block q4 0
    have f5 := free_of_block q5 0
    gi_wp2
    have hK2 := ((KeepsOthers.setCell W ⟨N0 + 1, 0, none⟩ (.int .u16 0)).trans (KeepsOthers.setCell _ ⟨N0 + 1 + 1, 0, none⟩ (.bool false))).same D _ hK rfl
    have r4 := keep_cell (w2 := (W.setCell ⟨N0 + 1, 0, none⟩ (.int .u16 0)).setCell ⟨N0 + 1 + 1, 0, none⟩ (.bool false)) rfl (put_cell (cs' := #[.int .u16 0]) rfl q4 (by simp)) (by omega)
    have r5 := put_cell (w2 := (W.setCell ⟨N0 + 1, 0, none⟩ (.int .u16 0)).setCell ⟨N0 + 1 + 1, 0, none⟩ (.bool false)) (cs' := #[.bool false]) rfl (keep_cell rfl q5 (by omega)) (by simp)
    have E2 := ext_cell (w2 := (W.setCell ⟨N0 + 1, 0, none⟩ (.int .u16 0)).setCell ⟨N0 + 1 + 1, 0, none⟩ (.bool false)) (ext_cell E rfl (fun h => absurd h (by omega))) rfl (fun h => absurd h (by omega))
    refine ⟨by simp, .inl ⟨_, _, rfl, run_takeDeferred hK2, ?_⟩⟩
    exact ⟨_, res_ss rfl rfl Try.underlying109 rfl (keep_put hK2 rfl r4) rfl Try.underlying4 rfl (keep_put hK2 rfl r5), by rw [hN]; rfl, ext_put E2 (by have := E0.size; omega)⟩
  case stop =>
    rintro D c pre W hD hS ⟨rfl, q, x, rfl, h2, h3, h4, h5, h6⟩ hK
    have hF : (setsL many).find? p = some x.1 := by
      obtain ⟨rest, hr⟩ := hS
      rw [← hr, List.find?_append, List.map_append, List.find?_append]
      have : (q.map (·.1)).find? p = none := by
        rw [List.find?_eq_none]
        intro y hy
        obtain ⟨z, hz, rfl⟩ := List.mem_map.1 hy
        simp [h2 z hz]
      rw [this]
      simp [h3]
    gi_wp2
    refine ⟨by simp, .inl ⟨_, _, rfl, run_takeDeferred hK, ?_⟩⟩
    exact ⟨_, res_ss rfl rfl Try.underlying109 rfl (keep_put hK rfl h4) rfl Try.underlying4 rfl (keep_put hK rfl h5), by rw [hF]; rfl, ext_put h6 (by have := E0.size; omega)⟩
end Go.Proofs.Ytholfdgebdlgjaa
