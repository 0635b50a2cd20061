/- The law DyeSpare: just the dyes without which there is a recipe can be done without. No conditions. -/
import Derived.Test.YtdjeecgddbjbeaaDnl
import Derived.Maps.OwnSet
import Derived.Test.YtdjeecgddbjbeaaDwi
import Derived.Test.YtdjeecgddbjbeaaDdw
namespace Go.Proofs.Ytdjeecgddbjbeaa
open Go.RowKit Go.Maps Go.WideMaps Go.ChangeShapes
set_option linter.unusedVariables false
set_option linter.unusedSimpArgs false
section
variable {P : Program} {ops : Array Oper} {o : Oper} {rest : List Oper} {N : Nat} {D : List Deferred} {a : Act} {L : List (Nat × Value)} {w : World} {Q : Exit → Act → World → Prop}
theorem sq_exn {C : World → Prop} (hd : o.dst = none) (hw : Region.wanted o (yielded ops a.tmps) = true) (hr : ∃ w' v, (execOp a.eval o).run P w = .ok (.value v) w' ∧ C w') (h : ∀ w2, C w2 → wpList P ops Q rest a w2) : wpList P ops Q (o :: rest) a w := by
  obtain ⟨w', v, h1, h2⟩ := hr
  unfold wpList
  simp only [hw, if_true, Oper.wp, h1, Oper.upon, hd, Act.put]
  exact .inl (h _ h2)
end
namespace MI
/-- A map from numbers to what is told of them. -/
def MapI (w : World) (b m : Nat) (g : Nat → Bool) : Prop := ∃ D : DataW Unit, w.ownsMap Try.prog 3 (plainElem Try.prog 4) b m D ∧ ∀ k : Nat, D.atKey (.int .i64 k) (.lit (.bool false)) = .lit (.bool (g k))
theorem MapI.congr {w : World} {b m m' : Nat} {g g' : Nat → Bool} (h : MapI w b m g) (e : ∀ k, g k = g' k) (hm : m ≤ m') : MapI w b m' g' := by
  obtain ⟨D, h1, h2⟩ := h
  exact ⟨D, h1.mono hm, fun k => by rw [h2 k, e k]⟩
theorem MapI.kept {w w' : World} {b m : Nat} {g : Nat → Bool} {row : Option Nat} (h : MapI w b m g) (hg : w.grownBy w' row) (hr : some b ≠ row) : MapI w' b m g := by
  obtain ⟨D, h1, h2⟩ := h
  exact ⟨D, h1.kept hg hr, h2⟩
theorem MapI.obj {w : World} {b m : Nat} {g : Nat → Bool} (h : MapI w b m g) : ∃ es clock, w.heap[b]? = some (.map es clock) := by
  obtain ⟨D, ⟨es, clock, hb, -⟩, -⟩ := h
  exact ⟨es, clock, hb⟩
theorem MapI.ne {w : World} {b c m : Nat} {g : Nat → Bool} (h : MapI w b m g) {o : Obj} (H : w.heap[c]? = some o) (ho : ∀ es k, o ≠ .map es k) : b ≠ c := by
  intro e
  obtain ⟨es, k, hb⟩ := h.obj
  subst e
  rw [H] at hb
  exact ho es k (by simpa using hb)
theorem map_alloc {w w2 : World} {o : Obj} {b m : Nat} {g : Nat → Bool} (e : w2 = w.alloc o) (h : MapI w b m g) : MapI w2 b m g := by rw [e]; exact h.kept (World.grownBy_alloc w o none) (by simp)
theorem map_cells {w w2 : World} {b c off m : Nat} {l : List Value} {g : Nat → Bool} {cs : Array Value} {T : TypeId} {fz : Nat × Nat} (e : w2 = w.setCells c off l) (h : MapI w b m g) (H : w.heap[c]? = some (.cells cs T fz)) : MapI w2 b m g := by
  have hbc := h.ne H (fun _ _ h => by cases h)
  obtain ⟨D, ⟨es, clock, hb, h3, h4, h5⟩, h2⟩ := h
  exact ⟨D, ⟨es, clock, keep_cells e hb hbc, h3, h4, h5⟩, h2⟩
theorem map_cell {w w2 : World} {b c off m : Nat} {v : Value} {g : Nat → Bool} {cs : Array Value} {T : TypeId} {fz : Nat × Nat} (e : w2 = w.setCell ⟨c, off, none⟩ v) (h : MapI w b m g) (H : w.heap[c]? = some (.cells cs T fz)) : MapI w2 b m g := by
  have hbc := h.ne H (fun _ _ h => by cases h)
  obtain ⟨D, ⟨es, clock, hb, h3, h4, h5⟩, h2⟩ := h
  exact ⟨D, ⟨es, clock, keep_cell e hb hbc, h3, h4, h5⟩, h2⟩
theorem map_ext {w w2 : World} {b m : Nat} {g : Nat → Bool} (h : MapI w b m g) (e : Ext [] w w2) : MapI w2 b m g := h.kept (grown_of_ext e) (by simp)
theorem map_same {w w2 : World} {b m : Nat} {g : Nat → Bool} (e : w2.heap = w.heap) (h : MapI w b m g) : MapI w2 b m g := by
  obtain ⟨D, ⟨es, clock, hb, h3, h4, h5⟩, h2⟩ := h
  exact ⟨D, ⟨es, clock, by rw [e]; exact hb, h3, h4, h5⟩, h2⟩
theorem map_own {w w2 : World} {b base n size m : Nat} {e : TypeId} {v : Value} {xs : List Value} {g : Nat → Bool} (h : MapI w b m g) (ho : w.ownsRow base e size v n xs) (hg : w.grownBy w2 v.ownBlock) : MapI w2 b m g := by
  refine h.kept hg ?_
  rcases ho.2 with ⟨rfl, _⟩ | ⟨g, cap, cur, rfl, _, hgb, _⟩
  · simp [Value.ownBlock]
  · intro e
    exact h.ne hgb (fun _ _ h => by cases h) (by simpa [Value.ownBlock] using e)
theorem map_put {w w2 : World} {b D m : Nat} {g : Nat → Bool} {d : Option (List Deferred)} {o' : Obj} (e : w2 = w.putObj D o') (hD : w.heap[D]? = some (.deferred d)) (h : MapI w b m g) : MapI w2 b m g := by
  rw [e]
  exact h.kept (grownBy_putObj' w D o') (fun e => h.ne hD (fun _ _ h => by cases h) (by simpa using e))
theorem map_made (w : World) : MapI (w.alloc (.map #[] 0)) w.heap.size 0 (fun _ => false) := ⟨.map [], World.ownsMap_made w _ _ _, fun k => rfl⟩
theorem keep_map {w w2 : World} {b c m : Nat} {g : Nat → Bool} {cs : Array Value} {T : TypeId} {fz : Nat × Nat} (h : MapI w b m g) (hg : w.grownBy w2 (some b)) (q : w.heap[c]? = some (.cells cs T fz)) : w2.heap[c]? = some (.cells cs T fz) :=
  (hg.block c (blk_lt q) (fun e => h.ne q (fun _ _ h => by cases h) (by simpa using e.symm))).trans q
theorem owns_map {w w2 : World} {b base n size m : Nat} {e : TypeId} {v : Value} {xs : List Value} {g : Nat → Bool} (h : MapI w b m g) (hg : w.grownBy w2 (some b)) (ho : w.ownsRow base e size v n xs) : w2.ownsRow base e size v n xs := by
  refine ho.kept hg ?_
  rcases ho.2 with ⟨rfl, _⟩ | ⟨g, cap, cur, rfl, _, hgb, _⟩
  · exact .inl rfl
  · exact .inr fun e => h.ne hgb (fun _ _ h => by cases h) (by simpa [Value.ownBlock] using e.symm)
theorem lit_ne {j k : Nat} (e : ¬ j = k) : Lit.int .i64 (j : Nat) ≠ Lit.int .i64 (k : Nat) := fun h => e (by
  have h2 : ((j : Nat) : Int) = (k : Nat) := by injection h
  exact Int.ofNat.inj h2)
theorem keyedI : Keyed Try.prog 3 := int_keyed Try.underlying3
theorem keyI {k : Nat} (hk : k ≤ 1000) : keyOf Try.prog 3 (.int .i64 (k : Nat)) = some (.int .i64 (k : Nat)) := keyOf_int_mk Try.underlying3 (WalkArith.wf_i64 (by omega))
section
variable {ρ : Operand → Value} {o : Oper} {w : World}
theorem R_lookupI {x y : Operand} {b k m : Nat} {g : Nat → Bool} (ho : o.op = .lookup 121 x y false) (hx : ρ x = .map (some b)) (hy : ρ y = .int .i64 (k : Nat)) (hk : k ≤ 1000) (h : MapI w b m g) :
    (execOp ρ o).run Try.prog w = .ok (.value (.bool (g k))) w := by
  obtain ⟨D, h1, h2⟩ := h
  obtain ⟨v, ps, hr, hv⟩ := h1.lookup keyedI Try.underlying121 (z := .bool false) (zd := .lit (.bool false)) (zp := []) (by kernel_rfl) (plainElem_bool Try.underlying4 false) (keyI hk)
  obtain ⟨c, rfl, hc⟩ := plainElem_bool_inv Try.underlying4 hv
  rw [h2] at hc
  obtain rfl : g k = c := by simpa using congrArg Prod.fst hc
  unfold execOp
  simp [ho, hx, hy, hr, Result.andThen, go_sem]
theorem R_mapPutI {x y z : Operand} {b k m : Nat} {g : Nat → Bool} (ho : o.op = .mapUpdate 121 x y z) (hx : ρ x = .map (some b)) (hy : ρ y = .int .i64 (k : Nat)) (hz : ρ z = .bool true) (hk : k ≤ 1000) (hm : m ≤ 1000) (h : MapI w b m g) :
    ∃ w', (execOp ρ o).run Try.prog w = .ok .skip w' ∧ MapI w' b (m + 1) (fun j => if j = k then true else g j) ∧ w.grownBy w' (some b) := by
  obtain ⟨D, h1, h2⟩ := h
  obtain ⟨w', hr, h3, h4⟩ := h1.update keyedI Try.underlying121 (by simp only [maxLen]; omega) (keyI hk) (plainElem_bool Try.underlying4 true)
  refine ⟨w', ?_, ⟨_, h3, fun j => ?_⟩, h4⟩
  · unfold execOp
    simp [ho, hx, hy, hz, hr, Result.andThen, go_sem]
  · show _ = DataW.lit (Lit.bool (if j = k then _ else _))
    by_cases e : j = k
    · subst e; rw [if_pos rfl, atKey_put_same h1.isMap (show WideAt.IsKeyLit (Lit.int .i64 (j : Nat)) from trivial)]
    · rw [if_neg e, atKey_put_other (lit_ne e), h2]
theorem R_delI {x y : Operand} {b k m : Nat} {g : Nat → Bool} (ho : o.op = .call { callee := .builtin .delete, args := #[x, y], argTypes := #[121, 3] }) (hx : ρ x = .map (some b)) (hy : ρ y = .int .i64 (k : Nat)) (hk : k ≤ 1000) (h : MapI w b m g) :
    ∃ w' v, (execOp ρ o).run Try.prog w = .ok (.value v) w' ∧ MapI w' b m (fun j => if j = k then false else g j) ∧ w.grownBy w' (some b) := by
  obtain ⟨D, h1, h2⟩ := h
  obtain ⟨w', hr, h3, h4⟩ := h1.drop keyedI Try.underlying121 (keyI hk) o.type
  refine ⟨w', .tuple #[], ?_, ⟨_, h3, fun j => ?_⟩, ?_⟩
  · unfold execOp
    simp [ho, hx, hy, hr, Result.andThen, go_sem]
  · show _ = DataW.lit (Lit.bool (if j = k then _ else _))
    by_cases e : j = k
    · subst e; rw [if_pos rfl, atKey_del_same]
    · rw [if_neg e, atKey_del_other (lit_ne e), h2]
  · obtain ⟨es, clock, es', clock', hb, rfl⟩ := h4
    exact ⟨rfl, rfl, rfl, by simp [Go.ChangeMaps.setBlock], fun i _ hi => Go.ChangeMaps.heap_setBlock_other hb _ (fun e => hi (by rw [e]))⟩
end
end MI
end Go.Proofs.Ytdjeecgddbjbeaa
namespace Go.Proofs.Ytdjeecgddbjbeaa.MI
open Go.RowKit
set_option linter.unusedVariables false
set_option linter.unusedSimpArgs false
/-- Whether a dye is in each of some recipes. -/
def gB (nd : Nat) (L : List (List Int)) (k : Nat) : Bool := decide (k < nd) && L.all fun t => decide (val t k ≠ 0)
/-- The same, when so many dyes of one recipe more are looked at. -/
def gS (nd : Nat) (L : List (List Int)) (t : List Int) (d k : Nat) : Bool := gB nd L k && (decide (d ≤ k) || decide (val t k ≠ 0))
theorem gB_nil (nd k : Nat) : decide (k < nd) = gB nd [] k := by simp [gB]
theorem gB_put (i k : Nat) : (if k = i then true else decide (k < i)) = decide (k < i + 1) := by
  by_cases h : k = i
  · rw [if_pos h, decide_eq_true (by omega)]
  · rw [if_neg h, decide_eq_decide]; omega
theorem gS_zero (nd : Nat) (L : List (List Int)) (t : List Int) (k : Nat) : gB nd L k = gS nd L t 0 k := by simp [gS]
theorem gS_end (nd : Nat) (L : List (List Int)) (t : List Int) (k : Nat) : gS nd L t nd k = gB nd (L ++ [t]) k := by
  by_cases h : k < nd
  · simp [gS, gB, h, show ¬ nd ≤ k by omega]
  · simp [gS, gB, h]
theorem gS_del {nd : Nat} {L : List (List Int)} {t : List Int} {d : Nat} (h : val t d = 0) (k : Nat) : (if k = d then false else gS nd L t d k) = gS nd L t (d + 1) k := by
  by_cases e : k = d
  · subst e; rw [if_pos rfl]; simp [gS, h]
  · rw [if_neg e, gS, gS, show decide (d ≤ k) = decide (d + 1 ≤ k) from decide_eq_decide.2 (by omega)]
theorem gS_keep {nd : Nat} {L : List (List Int)} {t : List Int} {d : Nat} (h : val t d ≠ 0) (k : Nat) : gS nd L t d k = gS nd L t (d + 1) k := by
  by_cases e : k = d
  · subst e; simp [gS, h]
  · rw [gS, gS, show decide (d ≤ k) = decide (d + 1 ≤ k) from decide_eq_decide.2 (by omega)]
/-- The dyes that can be done without. -/
def spaT (g : Nat → Bool) (d : Nat) : List Int := ((List.range d).filter fun j => !g j).map fun j : Nat => ((j : Nat) : Int)
theorem spaT_put {g : Nat → Bool} {d : Nat} (h : g d = false) : spaT g d ++ [((d : Nat) : Int)] = spaT g (d + 1) := by
  rw [spaT, spaT, List.range_succ, List.filter_append, List.map_append, List.filter_cons_of_pos (by rw [h]; rfl)]; rfl
theorem spaT_skip {g : Nat → Bool} {d : Nat} (h : g d = true) : spaT g d = spaT g (d + 1) := by
  rw [spaT, spaT, List.range_succ, List.filter_append, List.map_append, List.filter_cons_of_neg (by rw [h]; simp)]; simp
theorem spaT_len (g : Nat → Bool) (d : Nat) : (spaT g d).length ≤ d := by
  rw [spaT, List.length_map]
  exact Nat.le_trans (List.length_filter_le _ _) (by simp)
def spaR (x : Vm) (s : Nat → Int) (ls : List Int) : List Int × Int := if matL x s ls = [] then ([], 11) else (spaT (gB x.D.length (matL x s ls)) x.D.length, 0)
set_option maxRecDepth 100000 in
set_option maxHeartbeats 2000000 in
theorem xSpare_ok (x : Vm) (hv : VOk x) (s : List Int) (hs : SmpOk x s) (ls : List Int) (hl : LmpsOk x ls) (hll : ls.length ≤ 1000) (a b : Option Addr) (c d : Nat) (w : World) (h : x.At w) (hr : IsRows w (.slice a s.length c) 1 (s.map intRow)) (hq : IsRows w (.slice b ls.length d) 1 (ls.map intRow)) :
    Calls Try.prog 42 #[.agg #[.int .i64 x.B, .slice x.da x.D.length x.dc, .slice x.la x.L.length x.lc, .int .i64 x.tol], .slice a s.length c, .slice b ls.length d] w (IntsPost (spaR x (val s) ls) w) := by
  have E : Ext [] w w := Ext.refl _ _
  have HX := Lib.hid h
  have HV := Lib.hid hv
  have HR := Lib.hid hr
  have HQ := Lib.hid hq
  have HL := Lib.hid hl
  have HS := Lib.hid hs
  have hd4 := hv.d4
  obtain ⟨T, hT⟩ : ∃ T, T = matL x (val s) ls := ⟨_, rfl⟩
  obtain ⟨r, hr0⟩ : ∃ r, r = spaR x (val s) ls := ⟨_, rfl⟩
  have hr1 := hr0
  rw [spaR, ← hT] at hr1
  have HM : RowKit.Hid (∀ t ∈ T, t.length = x.D.length ∧ TubS (val t)) := Lib.hid (fun t ht => mat_mem hv (by rw [← hT]; exact ht))
  have htl : T.length ≤ 500 := by rw [hT]; exact mat_len hv
  rw [← hr0]
  clear h hv hr hq hl hs hr0
  refine calls_hasM 80 Try.func42 rfl Try.ntmps42 (Nat.le_of_ble_eq_true rfl) ?_
  intro fa F
  refine wp_seq_k fun K1 hK1 => ?_
  refine wp_region_lit ?_
  refine sq_new F rfl (by decide) rfl (R_box rfl (F.at rfl)) ?_; clear F fa; intro fa w1 F hw
  obtain ⟨n3, hn⟩ : ∃ n, n = w.heap.size := ⟨_, rfl⟩
  rw [← hn] at F
  have s3 : w.heap.size ≤ n3 := Nat.le_of_eq hn.symm
  have l3_E : w.heap.size ≤ n3 := by rw [hn]; exact E.size
  replace E := ext_alloc E hw
  have q3 := new_row hw hn
  clear hw hn
  refine F.vl (R_assign rfl (ev_c fa _)) ?_; clear F fa; intro fa F
  refine sq_new F rfl (by decide) rfl (R_alloc rfl Try.zeroValue35) ?_; clear F fa; intro fa w2 F hw
  obtain ⟨n7, hn⟩ : ∃ n, n = w1.heap.size := ⟨_, rfl⟩
  rw [← hn] at F
  have s7 : w1.heap.size ≤ n7 := Nat.le_of_eq hn.symm
  have l7_E : w.heap.size ≤ n7 := by rw [hn]; exact E.size
  have m7_3 : n3 < n7 := by rw [hn]; exact blk_lt q3
  replace q3 := keep_alloc hw q3
  replace E := ext_alloc E hw
  have q7 := new_one hw rfl hn
  clear hw hn
  refine wpList_nil ?_
  refine hK1 _ _ ?_
  clear hK1
  refine wp_seq_k fun K2 hK2 => ?_
  refine wp_region_lit ?_
  refine sq_defer F rfl rfl (R_defer rfl rfl (mpS (F.at rfl) mp0)) ?_; clear F fa; intro fa F
  refine wpList_nil ?_
  refine hK2 _ _ ?_
  clear hK2
  refine wp_seq_k fun K3 hK3 => ?_
  refine wp_region_lit ?_
  refine F.vl (R_loadBlk rfl (F.at rfl) Try.underlying24 rfl (by kernel_rfl) q3) ?_; clear F fa; intro fa F
  refine sq_call F rfl (by decide) rfl (R_callV rfl rfl Try.call54 (mpS (F.at rfl) mp0)) (begin_ok x HV.out _ (HX.out.ext E)) fun e w3 hR => ?_
  obtain ⟨rfl, e9⟩ := hR
  refine ⟨_, rfl, ?_⟩; clear F fa; intro fa F
  replace q3 := (e9).keep0 q3
  replace q7 := (e9).keep0 q7
  replace E := ext_same E (e9)
  clear e9
  refine sq_new F rfl (by decide) rfl (R_alloc rfl Try.zeroValue80) ?_; clear F fa; intro fa w4 F hw
  obtain ⟨n8, hn⟩ : ∃ n, n = w3.heap.size := ⟨_, rfl⟩
  rw [← hn] at F
  have s8 : w3.heap.size ≤ n8 := Nat.le_of_eq hn.symm
  have l8_E : w.heap.size ≤ n8 := by rw [hn]; exact E.size
  have m8_3 : n3 < n8 := by rw [hn]; exact blk_lt q3
  have m8_7 : n7 < n8 := by rw [hn]; exact blk_lt q7
  replace q3 := keep_alloc hw q3
  replace q7 := keep_alloc hw q7
  replace E := ext_alloc E hw
  have q8 := new_row hw hn
  clear hw hn
  refine sq_to rfl rfl (R_storeRow rfl (F.at rfl) (F.at rfl) (by kernel_rfl) (by first | (simp [Value.oneCell']; done) | (simp [Value.oneCell', tubR]; done)) q8 rfl) ?_; intro w5 hw
  replace q3 := keep_cells hw q3 (by omega)
  replace q7 := keep_cells hw q7 (by omega)
  replace q8 := put_row hw q8 rfl
  replace E := ext_cells E hw (fun h => by first | exact absurd h (by omega) | simp)
  clear hw
  refine wpList_nil ?_
  refine hK3 _ _ ?_
  clear hK3
  refine wp_seq_k fun K4 hK4 => ?_
  refine wp_region_lit ?_
  refine F.vl (R_loadBlk rfl (F.at rfl) Try.underlying80 rfl (by kernel_rfl) q8) ?_; clear F fa; intro fa F
  refine F.mv ?_; clear F fa; intro fa F
  refine sq_call F rfl (by decide) rfl (R_callV rfl rfl Try.call56 (mpS (F.at rfl) (mpS (F.at rfl) mp0))) (sample_ok x HV.out s HS.out a c _ (HR.out.ext E (by simp))) fun e w6 hR => ?_
  obtain ⟨rfl, e9⟩ := hR
  refine ⟨_, rfl, ?_⟩; clear F fa; intro fa F
  replace q3 := (e9).keep0 q3
  replace q7 := (e9).keep0 q7
  replace q8 := (e9).keep0 q8
  replace E := ext_same E (e9)
  clear e9
  refine wpList_nil ?_
  refine hK4 _ _ ?_
  clear hK4
  refine wp_seq_k fun K5 hK5 => ?_
  refine wp_region_lit ?_
  refine F.vl (R_loadBlk rfl (F.at rfl) Try.underlying80 rfl (by kernel_rfl) q8) ?_; clear F fa; intro fa F
  refine F.mv ?_; clear F fa; intro fa F
  refine sq_call F rfl (by decide) rfl (R_callV rfl rfl Try.call57 (mpS (F.at rfl) (mpS (F.at rfl) mp0))) (lamps_ok x HV.out ls HL.out hll b d _ (HX.out.ext E) (HQ.out.ext E (by simp))) fun e w7 hR => ?_
  obtain ⟨rfl, e9⟩ := hR
  refine ⟨_, rfl, ?_⟩; clear F fa; intro fa F
  replace q3 := (e9).keep0 q3
  replace q7 := (e9).keep0 q7
  replace q8 := (e9).keep0 q8
  replace E := ext_same E (e9)
  clear e9
  refine wpList_nil ?_
  refine hK5 _ _ ?_
  clear hK5
  refine wp_seq_k fun K6 hK6 => ?_
  refine wp_region_lit ?_
  refine sq_new F rfl (by decide) rfl (R_makeMap rfl) ?_; clear F fa; intro fa w8 F hw
  obtain ⟨n24, hn⟩ : ∃ n, n = w7.heap.size := ⟨_, rfl⟩
  rw [← hn] at F
  have s24 : w7.heap.size ≤ n24 := Nat.le_of_eq hn.symm
  have l24_E : w.heap.size ≤ n24 := by rw [hn]; exact E.size
  have m24_3 : n3 < n24 := by rw [hn]; exact blk_lt q3
  have m24_7 : n7 < n24 := by rw [hn]; exact blk_lt q7
  have m24_8 : n8 < n24 := by rw [hn]; exact blk_lt q8
  replace q3 := keep_alloc hw q3
  replace q7 := keep_alloc hw q7
  replace q8 := keep_alloc hw q8
  replace E := ext_alloc E hw
  have map24 : MapI w8 n24 0 (fun _ => false) := by rw [hw, hn]; exact map_made _
  clear hw hn
  refine F.as ?_; clear F fa; intro fa F
  refine wpList_nil ?_
  refine hK6 _ _ ?_
  clear hK6
  refine wp_seq_k fun K7 hK7 => ?_
  refine wp_seq_k fun K8 hK8 => ?_
  refine wp_region_lit ?_
  refine F.vl (R_field rfl (F.at rfl) Try.underlying80 rfl (n := 0) (sz := 4) rfl (by kernel_rfl) (by decide)) ?_; clear F fa; intro fa F
  refine F.vl (R_field rfl (F.at rfl) Try.underlying24 rfl (n := 1) (sz := 1) rfl (by kernel_rfl) (by decide)) ?_; clear F fa; intro fa F
  refine F.vl (R_load rfl (F.at rfl) Try.underlying22 rfl ((cells_of_block q8 1).trans (getS (get0)))) ?_; clear F fa; intro fa F
  refine F.vl (R_len rfl rfl (F.at rfl) Try.underlying22) ?_; clear F fa; intro fa F
  refine F.vl (R_move rfl (ev_c fa _)) ?_; clear F fa; intro fa F
  refine wpList_nil ?_
  refine hK8 _ _ ?_
  clear hK8
  refine wp_block ?_
  have F0 := F.sub (.c 1 rfl (.c 2 rfl (.c 6 rfl (.c 7 rfl (.c 8 rfl (.c 9 rfl (.c 28 rfl .n)))))))
  refine lp_for F0 (x.D.length) (fun i Lv W => Lv = [(29, .int .i64 ((i : Nat) : Int))] ∧ Ext [] w W ∧ W.heap[n3]? = some (.cells #[.int .i64 x.B, .slice x.da x.D.length x.dc, .slice x.la x.L.length x.lc, .int .i64 x.tol] 24 (0, 0)) ∧ W.heap[n7]? = some (.cells #[.int .i64 0] 35 (0, 0)) ∧ W.heap[n8]? = some (.cells #[.int .i64 x.B, .slice x.da x.D.length x.dc, .slice x.la x.L.length x.lc, .int .i64 x.tol] 80 (0, 0)) ∧ MapI W n24 i (fun d => decide (d < i))) ⟨_, ⟨rfl, E, q3, q7, q8, (map24.congr (fun k => by simp) (Nat.le_refl _))⟩, F.sub (.c 29 rfl (.c 1 rfl (.c 2 rfl (.c 6 rfl (.c 7 rfl (.c 8 rfl (.c 9 rfl (.c 28 rfl .n))))))))⟩ ?_
  clear F F0
  clear E q3 q7 q8
  clear map24
  rintro i _ fa w9 hi1 ⟨rfl, E, q3, q7, q8, map24⟩ F
  refine wp_seq_k fun K9 hK9 => ?_
  refine wp_region_lit ?_
  refine F.vl (R_lss rfl (F.at rfl) (F.at rfl)) ?_; clear F fa; intro fa F
  refine wpList_nil ?_
  refine hK9 _ _ ?_
  clear hK9
  refine wp_seq_k fun K10 hK10 => ?_
  refine cd_if F rfl (fun hc30 => ?_) (fun hc30 => ?_)
  · skip
    refine wp_skip ?_
    refine hK10 _ _ ?_
    clear hK10
    refine wp_seq_k fun K11 hK11 => ?_
    refine wp_block ?_
    refine wp_seq_k fun K12 hK12 => ?_
    refine wp_region_lit ?_
    refine F.mv ?_; clear F fa; intro fa F
    refine F.as ?_; clear F fa; intro fa F
    refine wpList_nil ?_
    refine hK12 _ _ ?_
    clear hK12
    refine wp_region_lit ?_
    refine F.mv ?_; clear F fa; intro fa F
    refine F.mv ?_; clear F fa; intro fa F
    refine sq_exw rfl rfl (R_mapPutI (k := i) rfl (F.at rfl) (F.at rfl) (ev_c fa _) (by omega) (by omega) map24) ?_; rintro w10 ⟨hM', hg⟩
    replace q3 := keep_map map24 hg q3
    replace q7 := keep_map map24 hg q7
    replace q8 := keep_map map24 hg q8
    replace E := ext_mapX E hg (fun h => by first | exact absurd h (by omega) | simp)
    replace map24 := hM'
    clear hg
    refine wpList_nil ?_
    refine hK11 _ _ ?_
    clear hK11
    refine wp_region_lit ?_
    refine F.vl (R_add rfl (F.at rfl) (ev_c fa _) (by omega) (by omega)) ?_; clear F fa; intro fa F
    refine F.mv ?_; clear F fa; intro fa F
    refine wpList_nil ?_
    show _ ∧ _
    exact ⟨by omega, _, ⟨rfl, E, q3, q7, q8, (map24.congr (fun k => gB_put i k) (Nat.le_refl _))⟩, F.sub (.c 29 rfl (.c 1 rfl (.c 2 rfl (.c 6 rfl (.c 7 rfl (.c 8 rfl (.c 9 rfl (.c 28 rfl .n))))))))⟩
  · skip
    refine wp_exit ?_
    rw [show i = x.D.length by omega] at map24
    replace map24 := map24.congr (fun k => gB_nil x.D.length k) (Nat.le_refl _)
    refine hK7 _ _ ?_
    clear hK7
    refine wp_seq_k fun K13 hK13 => ?_
    refine wp_region_lit ?_
    refine F.vl (R_loadBlk rfl (F.at rfl) Try.underlying80 rfl (by kernel_rfl) q8) ?_; clear F fa; intro fa F
    refine F.mv ?_; clear F fa; intro fa F
    refine F.mv ?_; clear F fa; intro fa F
    have b24 : n24 < w9.heap.size := (by obtain ⟨es, ck, hm⟩ := map24.obj; exact blk_lt hm)
    refine sq_call F rfl (by decide) rfl (R_callV rfl rfl Try.call94 (mpS (F.at rfl) (mpS (F.at rfl) (mpS (F.at rfl) mp0)))) (matching_ok x HV.out s HS.out ls HL.out.2.1 hll a b c d _ (HX.out.ext E) (HR.out.ext E (by simp)) (HQ.out.ext E (by simp))) fun e w11 hR => ?_
    obtain ⟨ma, mc, rfl, om, e9⟩ := hR
    refine ⟨_, rfl, ?_⟩; clear F fa; intro fa F
    replace map24 := map_ext map24 (e9)
    replace q3 := (e9).keep0 q3
    replace q7 := (e9).keep0 q7
    replace q8 := (e9).keep0 q8
    replace E := ext_same E (e9)
    clear e9
    rw [← hT] at F om
    have HT := Lib.hid (slAt_of_tubs om rfl [n24] (by simpa using b24))
    clear om
    have E9 : Ext [n24] w11 w11 := Ext.refl _ _
    refine F.as ?_; clear F fa; intro fa F
    refine wpList_nil ?_
    refine hK13 _ _ ?_
    clear hK13
    refine wp_seq_k fun K14 hK14 => ?_
    refine wp_seq_k fun K15 hK15 => ?_
    refine wp_region_lit ?_
    refine F.mv ?_; clear F fa; intro fa F
    refine F.vl (R_len rfl rfl (F.at rfl) Try.underlying102) ?_; clear F fa; intro fa F
    refine F.vl (R_eqlD rfl (F.at rfl) (ev_c fa _)) ?_; clear F fa; intro fa F
    refine wpList_nil ?_
    refine hK15 _ _ ?_
    clear hK15
    refine cd_if F rfl (fun hc41 => ?_) (fun hc41 => ?_)
    · skip
      rw [if_pos (List.length_eq_zero_iff.1 (by omega))] at hr1
      refine wp_seq_k fun K16 hK16 => ?_
      refine wp_region_lit ?_
      refine F.vl (R_assign rfl (ev_c fa _)) ?_; clear F fa; intro fa F
      refine sq_to rfl rfl (R_store rfl (F.at rfl) (ev_c fa _) rfl (by kernel_rfl) ((cells_of_block q7 0).trans (get0)) (free_of_block q7 0)) ?_; intro w12 hw
      replace map24 := map_cell hw map24 q7
      replace q3 := keep_cell hw q3 (by omega)
      replace q7 := put_cell hw q7 (by simp only [List.setIfInBounds_toArray, List.set_cons_succ, List.set_cons_zero]; exact rfl)
      replace q8 := keep_cell hw q8 (by omega)
      replace E := ext_cell E hw (fun h => by first | exact absurd h (by omega) | simp)
      clear hw
      refine wpList_nil ?_
      refine hK16 _ _ ?_
      clear hK16
      refine wp_ret ?_
      (try simp only [Exit.inBlock, Exit.then, reduceIte])
      refine rtM_v F ?_
      refine lv_caught ?_
      refine lv_nil (rs_tc F rfl rfl rfl Try.underlying35 rfl q7) ?_
      rw [hr1]; exact ⟨none, 0, rfl, World.ownsRow_nil _ _ _ _, E⟩
    · skip
      rw [if_neg (fun h => by rw [h] at hc41; simp at hc41)] at hr1
      refine wp_skip ?_
      refine hK14 _ _ ?_
      clear hK14
      refine wp_seq_k fun K17 hK17 => ?_
      refine wp_seq_k fun K18 hK18 => ?_
      refine wp_region_lit ?_
      refine F.mv ?_; clear F fa; intro fa F
      refine F.vl (R_len rfl rfl (F.at rfl) Try.underlying102) ?_; clear F fa; intro fa F
      refine F.vl (R_move rfl (ev_c fa _)) ?_; clear F fa; intro fa F
      refine wpList_nil ?_
      refine hK18 _ _ ?_
      clear hK18
      refine wp_block ?_
      have F0 := F.sub (.c 6 rfl (.c 7 rfl (.c 8 rfl (.c 9 rfl (.c 42 rfl (.c 43 rfl .n))))))
      refine lp_for F0 (T.length) (fun i Lv W => Lv = [(44, .int .i64 ((i : Nat) : Int))] ∧ Ext [] w W ∧ Ext [n24] w11 W ∧ W.heap[n3]? = some (.cells #[.int .i64 x.B, .slice x.da x.D.length x.dc, .slice x.la x.L.length x.lc, .int .i64 x.tol] 24 (0, 0)) ∧ W.heap[n7]? = some (.cells #[.int .i64 0] 35 (0, 0)) ∧ W.heap[n8]? = some (.cells #[.int .i64 x.B, .slice x.da x.D.length x.dc, .slice x.la x.L.length x.lc, .int .i64 x.tol] 80 (0, 0)) ∧ MapI W n24 x.D.length (gB x.D.length (T.take i))) ⟨_, ⟨rfl, E, E9, q3, q7, q8, map24⟩, F.sub (.c 44 rfl (.c 6 rfl (.c 7 rfl (.c 8 rfl (.c 9 rfl (.c 42 rfl (.c 43 rfl .n)))))))⟩ ?_
      clear F F0
      clear E E9 q3 q7 q8
      clear map24
      rintro i _ fa w13 hi2 ⟨rfl, E, E9, q3, q7, q8, map24⟩ F
      refine wp_seq_k fun K19 hK19 => ?_
      refine wp_region_lit ?_
      refine F.vl (R_lss rfl (F.at rfl) (F.at rfl)) ?_; clear F fa; intro fa F
      refine wpList_nil ?_
      refine hK19 _ _ ?_
      clear hK19
      refine wp_seq_k fun K20 hK20 => ?_
      refine cd_if F rfl (fun hc45 => ?_) (fun hc45 => ?_)
      · skip
        refine wp_skip ?_
        refine hK20 _ _ ?_
        clear hK20
        refine wp_seq_k fun K21 hK21 => ?_
        refine wp_block ?_
        refine wp_seq_k fun K22 hK22 => ?_
        refine wp_region_lit ?_
        obtain ⟨xb23, xo23, xa23, xr23⟩ := HT.out i (by omega)
        refine F.vl (R_ixSlice (sz := 4) rfl ((F.at rfl).trans (xa23 _ _)) (F.at rfl) Try.underlying102 (by kernel_rfl) (by omega) (by omega)) ?_; clear F fa; intro fa F
        refine F.vl (R_loadRow rfl (F.at rfl) Try.underlying83 rfl (by kernel_rfl) (xr23 _ E9)) ?_; clear F fa; intro fa F
        refine sq_new F rfl (by decide) rfl (R_alloc rfl Try.zeroValue83) ?_; clear F fa; intro fa w14 F hw
        obtain ⟨n13, hn⟩ : ∃ n, n = w13.heap.size := ⟨_, rfl⟩
        rw [← hn] at F
        have s13 : w13.heap.size ≤ n13 := Nat.le_of_eq hn.symm
        have l13_E : w.heap.size ≤ n13 := by rw [hn]; exact E.size
        have l13_E9 : w11.heap.size ≤ n13 := by rw [hn]; exact E9.size
        have m13_3 : n3 < n13 := by rw [hn]; exact blk_lt q3
        have m13_7 : n7 < n13 := by rw [hn]; exact blk_lt q7
        have m13_8 : n8 < n13 := by rw [hn]; exact blk_lt q8
        replace map24 := map_alloc hw map24
        replace q3 := keep_alloc hw q3
        replace q7 := keep_alloc hw q7
        replace q8 := keep_alloc hw q8
        replace E := ext_alloc E hw
        replace E9 := ext_alloc E9 hw
        have q13 := new_row hw hn
        clear hw hn
        refine sq_to rfl rfl (R_storeRow rfl (F.at rfl) (F.at rfl) (by kernel_rfl) (by first | (simp [Value.oneCell']; done) | (simp [Value.oneCell', tubR]; done)) q13 rfl) ?_; intro w15 hw
        replace map24 := map_cells hw map24 q13
        replace q3 := keep_cells hw q3 (by omega)
        replace q7 := keep_cells hw q7 (by omega)
        replace q8 := keep_cells hw q8 (by omega)
        replace q13 := put_row hw q13 rfl
        replace E := ext_cells E hw (fun h => by first | exact absurd h (by omega) | simp)
        replace E9 := ext_cells E9 hw (fun h => by first | exact absurd h (by omega) | simp)
        clear hw
        refine wpList_nil ?_
        have hts := (HM.out (T.getD i []) (getD_memL [] (by omega))).2
        replace q13 : w15.heap[n13]? = some (.cells (tubC (val (T.getD i []))) 83 (0, 0)) := q13
        refine hK22 _ _ ?_
        clear hK22
        refine wp_seq_k fun K24 hK24 => ?_
        refine wp_region_lit ?_
        refine F.vl (R_field rfl (F.at rfl) Try.underlying80 rfl (n := 0) (sz := 4) rfl (by kernel_rfl) (by decide)) ?_; clear F fa; intro fa F
        refine F.vl (R_field rfl (F.at rfl) Try.underlying24 rfl (n := 1) (sz := 1) rfl (by kernel_rfl) (by decide)) ?_; clear F fa; intro fa F
        refine F.vl (R_load rfl (F.at rfl) Try.underlying22 rfl ((cells_of_block q8 1).trans (getS (get0)))) ?_; clear F fa; intro fa F
        refine F.vl (R_len rfl rfl (F.at rfl) Try.underlying22) ?_; clear F fa; intro fa F
        refine F.vl (R_move rfl (ev_c fa _)) ?_; clear F fa; intro fa F
        refine wpList_nil ?_
        refine hK24 _ _ ?_
        clear hK24
        refine wp_block ?_
        have F0 := F.sub (.c 6 rfl (.c 7 rfl (.c 8 rfl (.c 9 rfl (.c 13 rfl (.c 42 rfl (.c 43 rfl (.c 44 rfl (.c 51 rfl .n)))))))))
        refine lp_for F0 (x.D.length) (fun k Lv W => Lv = [(52, .int .i64 ((k : Nat) : Int))] ∧ Ext [] w W ∧ Ext [n24] w11 W ∧ W.heap[n3]? = some (.cells #[.int .i64 x.B, .slice x.da x.D.length x.dc, .slice x.la x.L.length x.lc, .int .i64 x.tol] 24 (0, 0)) ∧ W.heap[n7]? = some (.cells #[.int .i64 0] 35 (0, 0)) ∧ W.heap[n8]? = some (.cells #[.int .i64 x.B, .slice x.da x.D.length x.dc, .slice x.la x.L.length x.lc, .int .i64 x.tol] 80 (0, 0)) ∧ W.heap[n13]? = some (.cells (tubC (val (T.getD i []))) 83 (0, 0)) ∧ MapI W n24 x.D.length (gS x.D.length (T.take i) (T.getD i []) k)) ⟨_, ⟨rfl, E, E9, q3, q7, q8, q13, (map24.congr (fun k => gS_zero _ _ _ k) (Nat.le_refl _))⟩, F.sub (.c 52 rfl (.c 6 rfl (.c 7 rfl (.c 8 rfl (.c 9 rfl (.c 13 rfl (.c 42 rfl (.c 43 rfl (.c 44 rfl (.c 51 rfl .n))))))))))⟩ ?_
        clear F F0
        clear E E9 q3 q7 q8 q13
        clear map24
        rintro k _ fa w16 hi3 ⟨rfl, E, E9, q3, q7, q8, q13, map24⟩ F
        refine wp_seq_k fun K25 hK25 => ?_
        refine wp_region_lit ?_
        refine F.vl (R_lss rfl (F.at rfl) (F.at rfl)) ?_; clear F fa; intro fa F
        refine wpList_nil ?_
        refine hK25 _ _ ?_
        clear hK25
        refine wp_seq_k fun K26 hK26 => ?_
        refine cd_if F rfl (fun hc53 => ?_) (fun hc53 => ?_)
        · skip
          refine wp_skip ?_
          refine hK26 _ _ ?_
          clear hK26
          refine wp_seq_k fun K27 hK27 => ?_
          refine wp_block ?_
          refine wp_seq_k fun K28 hK28 => ?_
          refine wp_region_lit ?_
          refine F.mv ?_; clear F fa; intro fa F
          refine F.as ?_; clear F fa; intro fa F
          refine wpList_nil ?_
          refine hK28 _ _ ?_
          clear hK28
          refine wp_seq_k fun K29 hK29 => ?_
          refine wp_region_lit ?_
          refine F.mv ?_; clear F fa; intro fa F
          refine F.vl (R_ixArr (n := 4) (sz := 1) rfl (F.at rfl) (F.at rfl) Try.underlying83 (by kernel_rfl) (by omega) (by omega)) ?_; clear F fa; intro fa F
          refine F.vl (R_load rfl (F.at rfl) Try.underlying3 rfl (tub_at q13 (k := k) rfl (by omega))) ?_; clear F fa; intro fa F
          refine F.vl (R_eqlD rfl (F.at rfl) (ev_c fa _)) ?_; clear F fa; intro fa F
          refine wpList_nil ?_
          refine hK29 _ _ ?_
          clear hK29
          refine cd_if F rfl (fun hc58 => ?_) (fun hc58 => ?_)
          · skip
            refine wp_region_lit ?_
            refine F.mv ?_; clear F fa; intro fa F
            refine F.mv ?_; clear F fa; intro fa F
            refine sq_exn rfl rfl (R_delI (k := k) rfl (F.at rfl) (F.at rfl) (by omega) map24) ?_; rintro w17 ⟨hM', hg⟩
            replace q3 := keep_map map24 hg q3
            replace q7 := keep_map map24 hg q7
            replace q8 := keep_map map24 hg q8
            replace q13 := keep_map map24 hg q13
            replace E := ext_mapX E hg (fun h => by first | exact absurd h (by omega) | simp)
            replace E9 := ext_mapX E9 hg (fun h => by first | exact absurd h (by omega) | simp)
            replace map24 := hM'
            clear hg
            refine wpList_nil ?_
            replace map24 := map24.congr (fun j => gS_del (by omega) j) (Nat.le_refl _)
            refine hK27 _ _ ?_
            clear hK27
            refine wp_region_lit ?_
            refine F.vl (R_add rfl (F.at rfl) (ev_c fa _) (by omega) (by omega)) ?_; clear F fa; intro fa F
            refine F.mv ?_; clear F fa; intro fa F
            refine wpList_nil ?_
            show _ ∧ _
            exact ⟨by omega, _, ⟨rfl, E, E9, q3, q7, q8, q13, map24⟩, F.sub (.c 52 rfl (.c 6 rfl (.c 7 rfl (.c 8 rfl (.c 9 rfl (.c 13 rfl (.c 42 rfl (.c 43 rfl (.c 44 rfl (.c 51 rfl .n))))))))))⟩
          · skip
            replace map24 := map24.congr (fun j => gS_keep (by omega) j) (Nat.le_refl _)
            refine wp_skip ?_
            refine hK27 _ _ ?_
            clear hK27
            refine wp_region_lit ?_
            refine F.vl (R_add rfl (F.at rfl) (ev_c fa _) (by omega) (by omega)) ?_; clear F fa; intro fa F
            refine F.mv ?_; clear F fa; intro fa F
            refine wpList_nil ?_
            show _ ∧ _
            exact ⟨by omega, _, ⟨rfl, E, E9, q3, q7, q8, q13, map24⟩, F.sub (.c 52 rfl (.c 6 rfl (.c 7 rfl (.c 8 rfl (.c 9 rfl (.c 13 rfl (.c 42 rfl (.c 43 rfl (.c 44 rfl (.c 51 rfl .n))))))))))⟩
        · skip
          refine wp_exit ?_
          rw [show k = x.D.length by omega] at map24
          refine hK21 _ _ ?_
          clear hK21
          refine wp_region_lit ?_
          refine F.vl (R_add rfl (F.at rfl) (ev_c fa _) (by omega) (by omega)) ?_; clear F fa; intro fa F
          refine F.mv ?_; clear F fa; intro fa F
          refine wpList_nil ?_
          show _ ∧ _
          exact ⟨by omega, _, ⟨rfl, E, E9, q3, q7, q8, (map24.congr (fun k => by rw [gS_end, ← take_getD T [] (by omega)]) (Nat.le_refl _))⟩, F.sub (.c 44 rfl (.c 6 rfl (.c 7 rfl (.c 8 rfl (.c 9 rfl (.c 42 rfl (.c 43 rfl .n)))))))⟩
      · skip
        refine wp_exit ?_
        rw [List.take_of_length_le (show T.length ≤ i by omega)] at map24
        refine hK17 _ _ ?_
        clear hK17
        refine wp_seq_k fun K30 hK30 => ?_
        refine wp_seq_k fun K31 hK31 => ?_
        have oo : w13.ownsRow w.heap.size 3 1 (.slice none 0 0) 0 (ivs []) := World.ownsRow_nil _ _ _ _
        refine wp_region_lit ?_
        refine F.vl (R_field rfl (F.at rfl) Try.underlying80 rfl (n := 0) (sz := 4) rfl (by kernel_rfl) (by decide)) ?_; clear F fa; intro fa F
        refine F.vl (R_field rfl (F.at rfl) Try.underlying24 rfl (n := 1) (sz := 1) rfl (by kernel_rfl) (by decide)) ?_; clear F fa; intro fa F
        refine F.vl (R_load rfl (F.at rfl) Try.underlying22 rfl ((cells_of_block q8 1).trans (getS (get0)))) ?_; clear F fa; intro fa F
        refine F.vl (R_len rfl rfl (F.at rfl) Try.underlying22) ?_; clear F fa; intro fa F
        refine F.vl (R_move rfl (ev_c fa _)) ?_; clear F fa; intro fa F
        refine wpList_nil ?_
        refine hK31 _ _ ?_
        clear hK31
        refine wp_block ?_
        have F0 := F.sub (.c 7 rfl (.c 9 rfl (.c 66 rfl .n)))
        refine lp_for F0 (x.D.length) (fun i Lv W => ∃ va : Option Addr, ∃ vc : Nat, Lv = [(6, .slice va ((spaT (gB x.D.length T) i).length) vc), (67, .int .i64 ((i : Nat) : Int))] ∧ Ext [] w W ∧ W.heap[n3]? = some (.cells #[.int .i64 x.B, .slice x.da x.D.length x.dc, .slice x.la x.L.length x.lc, .int .i64 x.tol] 24 (0, 0)) ∧ W.heap[n7]? = some (.cells #[.int .i64 0] 35 (0, 0)) ∧ W.heap[n8]? = some (.cells #[.int .i64 x.B, .slice x.da x.D.length x.dc, .slice x.la x.L.length x.lc, .int .i64 x.tol] 80 (0, 0)) ∧ MapI W n24 x.D.length (gB x.D.length T) ∧ W.ownsRow w.heap.size 3 1 (.slice va (spaT (gB x.D.length T) i).length vc) (spaT (gB x.D.length T) i).length (ivs (spaT (gB x.D.length T) i))) ⟨_, ⟨none, 0, rfl, E, q3, q7, q8, map24, oo⟩, F.sub (.c 6 rfl (.c 67 rfl (.c 7 rfl (.c 9 rfl (.c 66 rfl .n)))))⟩ ?_
        clear F F0
        clear E q3 q7 q8 map24
        clear oo
        rintro i _ fa w18 hi4 ⟨va, vc, rfl, E, q3, q7, q8, map24, oo⟩ F
        have hsl := spaT_len (gB x.D.length T) i
        refine wp_seq_k fun K32 hK32 => ?_
        refine wp_region_lit ?_
        refine F.vl (R_lss rfl (F.at rfl) (F.at rfl)) ?_; clear F fa; intro fa F
        refine wpList_nil ?_
        refine hK32 _ _ ?_
        clear hK32
        refine wp_seq_k fun K33 hK33 => ?_
        refine cd_if F rfl (fun hc68 => ?_) (fun hc68 => ?_)
        · skip
          refine wp_skip ?_
          refine hK33 _ _ ?_
          clear hK33
          refine wp_seq_k fun K34 hK34 => ?_
          refine wp_block ?_
          refine wp_seq_k fun K35 hK35 => ?_
          refine wp_region_lit ?_
          refine F.mv ?_; clear F fa; intro fa F
          refine F.as ?_; clear F fa; intro fa F
          refine wpList_nil ?_
          refine hK35 _ _ ?_
          clear hK35
          refine wp_seq_k fun K36 hK36 => ?_
          refine wp_region_lit ?_
          refine F.mv ?_; clear F fa; intro fa F
          refine F.mv ?_; clear F fa; intro fa F
          refine F.vl ((R_lookupI (k := i) rfl (F.at rfl) (F.at rfl) (by omega) map24)) ?_; clear F fa; intro fa F
          refine F.vl (R_not rfl (F.at rfl)) ?_; clear F fa; intro fa F
          refine wpList_nil ?_
          refine hK36 _ _ ?_
          clear hK36
          refine cd_b F rfl (fun hc73 => ?_) (fun hc73 => ?_)
          · skip
            refine wp_region_lit ?_
            refine F.mv ?_; clear F fa; intro fa F
            refine F.mv ?_; clear F fa; intro fa F
            refine sq_new F rfl (by decide) rfl (R_buildSliceV rfl (prS (F.at rfl) pr0) Try.underlying25 (size := 1) (by kernel_rfl) (by decide) (by decide) Try.zeroValue3 (cells := #[.int .i64 ((i : Nat) : Int)]) (by kernel_rfl)) ?_; clear F fa; intro fa w19 F hw
            obtain ⟨n76, hn⟩ : ∃ n, n = w18.heap.size := ⟨_, rfl⟩
            rw [← hn] at F
            have s76 : w18.heap.size ≤ n76 := Nat.le_of_eq hn.symm
            have l76_E : w.heap.size ≤ n76 := by rw [hn]; exact E.size
            have m76_3 : n3 < n76 := by rw [hn]; exact blk_lt q3
            have m76_7 : n7 < n76 := by rw [hn]; exact blk_lt q7
            have m76_8 : n8 < n76 := by rw [hn]; exact blk_lt q8
            have o76_oo := Lib.hid (own_ne_new oo hn)
            replace map24 := map_alloc hw map24
            replace oo := owns_alloc hw oo
            replace q3 := keep_alloc hw q3
            replace q7 := keep_alloc hw q7
            replace q8 := keep_alloc hw q8
            replace E := ext_alloc E hw
            have q76 := new_block hw hn
            clear hw hn
            have hEs := E.size
            refine sq_some F rfl (by decide) rfl (append_run rfl (w.heap.size) (e := 3) (size := 1) (bytes := 8) Try.underlying25 (by kernel_rfl) (by decide) (F.at rfl) oo (F.at rfl) q76 rfl (by simp [Value.oneCell']) (by omega) (by omega) (by omega)) ?_; clear F fa; rintro fa v' w20 F ⟨hown', hg⟩
            obtain ⟨va77, vc77, rfl⟩ := owns_slice hown'
            replace q3 := keep_type oo hg q3 (by decide)
            replace q7 := keep_type oo hg q7 (by decide)
            replace q8 := keep_type oo hg q8 (by decide)
            replace map24 := map_own map24 oo hg
            replace E := ext_appendX E oo hg (by omega)
            replace oo := hown'
            clear hg
            rw [show ivs (spaT (gB x.D.length T) i) ++ [Value.int .i64 ((i : Nat) : Int)] = ivs (spaT (gB x.D.length T) (i + 1)) by rw [← spaT_put (by simpa using hc73)]; simp [ivs], show (spaT (gB x.D.length T) i).length + 1 = (spaT (gB x.D.length T) (i + 1)).length by rw [← spaT_put (by simpa using hc73), List.length_append]; rfl] at oo
            rw [show (spaT (gB x.D.length T) i).length + 1 = (spaT (gB x.D.length T) (i + 1)).length by rw [← spaT_put (by simpa using hc73), List.length_append]; rfl] at F
            refine F.as ?_; clear F fa; intro fa F
            refine wpList_nil ?_
            refine hK34 _ _ ?_
            clear hK34
            refine wp_region_lit ?_
            refine F.vl (R_add rfl (F.at rfl) (ev_c fa _) (by omega) (by omega)) ?_; clear F fa; intro fa F
            refine F.mv ?_; clear F fa; intro fa F
            refine wpList_nil ?_
            show _ ∧ _
            exact ⟨by omega, _, ⟨_, _, rfl, E, q3, q7, q8, map24, oo⟩, F.sub (.c 6 rfl (.c 67 rfl (.c 7 rfl (.c 9 rfl (.c 66 rfl .n)))))⟩
          · skip
            rw [spaT_skip (by simpa using hc73)] at oo F
            refine wp_skip ?_
            refine hK34 _ _ ?_
            clear hK34
            refine wp_region_lit ?_
            refine F.vl (R_add rfl (F.at rfl) (ev_c fa _) (by omega) (by omega)) ?_; clear F fa; intro fa F
            refine F.mv ?_; clear F fa; intro fa F
            refine wpList_nil ?_
            show _ ∧ _
            exact ⟨by omega, _, ⟨_, _, rfl, E, q3, q7, q8, map24, oo⟩, F.sub (.c 6 rfl (.c 67 rfl (.c 7 rfl (.c 9 rfl (.c 66 rfl .n)))))⟩
        · skip
          refine wp_exit ?_
          rw [show i = x.D.length by omega] at oo F
          refine hK30 _ _ ?_
          clear hK30
          refine wp_seq_k fun K37 hK37 => ?_
          refine wp_region_lit ?_
          refine F.mv ?_; clear F fa; intro fa F
          refine F.as ?_; clear F fa; intro fa F
          refine sq_to rfl rfl (R_store rfl (F.at rfl) (ev_c fa _) rfl (by kernel_rfl) ((cells_of_block q7 0).trans (get0)) (free_of_block q7 0)) ?_; intro w21 hw
          replace map24 := map_cell hw map24 q7
          replace oo := owns_cellX hw oo (own_ne_type oo q7 (by decide))
          replace q3 := keep_cell hw q3 (by omega)
          replace q7 := put_cell hw q7 (by simp only [List.setIfInBounds_toArray, List.set_cons_succ, List.set_cons_zero]; exact rfl)
          replace q8 := keep_cell hw q8 (by omega)
          replace E := ext_cell E hw (fun h => by first | exact absurd h (by omega) | simp)
          clear hw
          refine wpList_nil ?_
          refine hK37 _ _ ?_
          clear hK37
          refine wp_ret ?_
          (try simp only [Exit.inBlock, Exit.then, reduceIte])
          refine rtM_v F ?_
          refine lv_caught ?_
          refine lv_nil (rs_tc F rfl rfl rfl Try.underlying35 rfl q7) ?_
          rw [hr1]; exact ⟨va, vc, rfl, oo, E⟩
end Go.Proofs.Ytdjeecgddbjbeaa.MI
namespace Go.Proofs.Ytdjeecgddbjbeaa.MI
open Go.RowKit
set_option linter.unusedVariables false
set_option linter.unusedSimpArgs false
def insL (t : List Int) (d : Nat) : List Int := t.take d ++ (0 : Int) :: t.drop d
def outL {α : Type} (t : List α) (d : Nat) : List α := t.take d ++ t.drop (d + 1)
theorem ins_rec : ∀ n, n < 4 → ∀ d, d < n + 1 → ∀ t ∈ recL n, insL t d ∈ recL (n + 1) ∧ gcE (val (insL t d)) = gcE (val t) ∧ prt (val (insL t d)) = prt (val t) ∧ val (insL t d) d = 0 := by decide +kernel
theorem out_rec0 : ∀ n, n < 4 → ∀ d, d < n + 1 → ∀ t ∈ recL (n + 1), val t d ≠ 0 ∨ (outL t d ∈ recL n ∧ insL (outL t d) d = t) := by decide +kernel
theorem out_rec (n : Nat) (hn : n < 4) (d : Nat) (hd : d < n + 1) (t : List Int) (ht : t ∈ recL (n + 1)) (h : val t d = 0) : outL t d ∈ recL n ∧ insL (outL t d) d = t := (out_rec0 n hn d hd t ht).resolve_left (fun e => e h)
theorem one_rec : ∀ t ∈ recL 1, val t 0 ≠ 0 := by decide +kernel
theorem out_len {α : Type} {l : List α} {d : Nat} (h : d < l.length) : (outL l d).length = l.length - 1 := by simp [outL]; omega
theorem out_get {α : Type} (z : α) {l : List α} {d i : Nat} (h : d < l.length) : (outL l d).getD i z = if i < d then l.getD i z else l.getD (i + 1) z := by
  simp only [outL, List.getD_eq_getElem?_getD, List.getElem?_append, List.length_take, Nat.min_eq_left (Nat.le_of_lt h), List.getElem?_take, List.getElem?_drop]
  by_cases e : i < d
  · simp [e]
  · rw [if_neg e, if_neg e, show d + 1 + (i - d) = i + 1 by omega]
theorem ins_low {t : List Int} {d i : Nat} (h : d ≤ t.length) (hi : i < d) : val (insL t d) i = val t i := by
  simp only [val, insL, List.getD_eq_getElem?_getD, List.getElem?_append, List.length_take, Nat.min_eq_left h, List.getElem?_take]
  simp [hi]
theorem ins_high {t : List Int} {d i : Nat} (h : d ≤ t.length) (hi : d ≤ i) : val (insL t d) (i + 1) = val t i := by
  simp only [val, insL, List.getD_eq_getElem?_getD, List.getElem?_append, List.length_take, Nat.min_eq_left h]
  rw [if_neg (by omega), show i + 1 - d = (i - d) + 1 by omega, List.getElem?_cons_succ, List.getElem?_drop, show d + (i - d) = i by omega]
theorem sum_skip {F G : Nat → Int} {d : Nat} (h0 : F d = 0) (hl : ∀ i, i < d → F i = G i) (hh : ∀ i, d ≤ i → F (i + 1) = G i) : ∀ n, d ≤ n → sumTo F (n + 1) = sumTo G n
  | 0, h => by
    obtain rfl : d = 0 := by omega
    simp [sumTo, h0]
  | n + 1, h => by
    by_cases e : d = n + 1
    · subst e
      rw [sumTo, h0, Int.add_zero]
      exact sumTo_congr fun i hi => hl i hi
    · rw [sumTo, sum_skip h0 hl hh n (by omega), hh n (by omega), sumTo]
/-- A vat without one of its dyes. -/
structure DropV (z x : Vm) (d : Nat) : Prop where
  B : z.B = x.B
  tol : z.tol = x.tol
  L : z.L.map (·.2) = x.L.map (·.2)
  D : z.D.map (·.2) = outL (x.D.map (·.2)) d
  d1 : d < x.D.length
  d2 : 2 ≤ x.D.length
theorem DropV.dl {z x : Vm} {d : Nat} (h : DropV z x d) : z.D.length + 1 = x.D.length := by
  have e := congrArg List.length h.D
  rw [out_len (by rw [List.length_map]; exact h.d1), List.length_map, List.length_map] at e
  have := h.d2
  omega
theorem DropV.ll {z x : Vm} {d : Nat} (h : DropV z x d) : z.L.length = x.L.length := by have := congrArg List.length h.L; simpa using this
theorem DropV.lamp {z x : Vm} {d : Nat} (h : DropV z x d) (k : Nat) : z.lamp k = x.lamp k := by rw [Vm.lamp, Vm.lamp, snd_getD, snd_getD, h.L]
theorem DropV.dye {z x : Vm} {d : Nat} (h : DropV z x d) (i : Nat) : z.dye i = if i < d then x.dye i else x.dye (i + 1) := by
  rw [Vm.dye, Vm.dye, Vm.dye, snd_getD, snd_getD, snd_getD, h.D, out_get [] (by rw [List.length_map]; exact h.d1)]
theorem dyeE_nodup {B : Int} : ∀ (ds met : List (List Int)), dyeE B met ds = 0 → met.Nodup → (met ++ ds).Nodup
  | [], met, _, hn => by simpa using hn
  | d :: ds, met, h, hn => by
    rw [dyeE] at h
    split at h
    · rename_i h1; exact absurd h h1
    · split at h
      · cases h
      · rename_i h2
        have := dyeE_nodup ds (met ++ [d]) h (List.nodup_append.2 ⟨hn, by simp, fun a ha b hb => by
          obtain rfl : b = d := by simpa using hb
          intro e; exact h2 (by rw [← e]; exact ha)⟩)
        simpa using this
theorem lampE_sum {B : Int} : ∀ (ls : List (List Int)), lampE B ls = 0 → ∀ l ∈ ls, l.sum ≠ 0
  | [], _, _, hl => by simp at hl
  | m :: ls, h, l, hl => by
    rw [lampE] at h
    split at h
    · rename_i h1; exact absurd h h1
    · split at h
      · cases h
      · rename_i h2
        rcases List.mem_cons.1 hl with rfl | hl
        · exact h2
        · exact lampE_sum ls h l hl
theorem chk_parts {x : Vm} (hv : VOk x) : (x.D.map (·.2)).Nodup ∧ ∀ p ∈ x.L, p.2.sum ≠ 0 := by
  have h := hv.chk
  unfold chkE at h
  rw [outB_no.2 ⟨hv.b1, hv.b3⟩, if_neg (by simp)] at h
  split at h
  · rename_i e; exact absurd h e
  split at h
  · rename_i e; exact absurd h e
  rename_i e1
  split at h
  · rename_i e; exact absurd h e
  split at h
  · rename_i e; exact absurd h e
  rename_i e2
  refine ⟨?_, fun p hp => lampE_sum _ (Classical.not_not.1 e2) _ (List.mem_map.2 ⟨p, hp, rfl⟩)⟩
  have := dyeE_nodup _ _ (Classical.not_not.1 e1) (by simp)
  simpa using this
theorem mem_out {α : Type} {l : List α} {d : Nat} {a : α} (h : a ∈ outL l d) : a ∈ l := by
  rcases List.mem_append.1 h with h | h
  · exact List.mem_of_mem_take h
  · exact List.mem_of_mem_drop h
theorem out_nodup {α : Type} {l : List α} {d : Nat} (h : l.Nodup) : (outL l d).Nodup := by
  refine h.sublist ?_
  have : (l.take d ++ l.drop (d + 1)).Sublist (l.take d ++ l.drop d) := (List.Sublist.refl _).append (by rw [← List.drop_drop]; exact List.drop_sublist _ _)
  rwa [List.take_append_drop] at this
theorem DropV.ok {z x : Vm} {d : Nat} (h : DropV z x d) (hv : VOk x) : VOk z := by
  have hl := h.dl
  have h2 := h.d2
  have h4 := hv.d4
  obtain ⟨c1, c2⟩ := chk_parts hv
  have key : ∀ p ∈ z.L, ∃ q ∈ x.L, q.2 = p.2 := fun p hp => by
    have hm : p.2 ∈ z.L.map (·.2) := List.mem_map.2 ⟨p, hp, rfl⟩
    rw [h.L] at hm
    obtain ⟨q, hq, he⟩ := List.mem_map.1 hm
    exact ⟨q, hq, he⟩
  refine vok_of (by rw [h.B]; exact hv.b1) (by rw [h.B]; exact hv.b3) (by omega) (by omega) (fun p hp => ?_) (by rw [h.D]; exact out_nodup c1) (by rw [h.ll]; exact hv.l1) (by rw [h.ll]; exact hv.l3) (fun p hp => ?_) (fun p hp => ?_) (by rw [h.tol]; exact hv.t0) (by rw [h.tol]; exact hv.t12)
  · have hm : p.2 ∈ z.D.map (·.2) := List.mem_map.2 ⟨p, hp, rfl⟩
    rw [h.D] at hm
    obtain ⟨q, hq, he⟩ := List.mem_map.1 (mem_out hm)
    rw [← he, h.B]; exact hv.dl q hq
  · obtain ⟨q, hq, he⟩ := key p hp
    rw [← he, h.B]; exact hv.ll q hq
  · obtain ⟨q, hq, he⟩ := key p hp
    rw [← he]; exact c2 q hq
theorem DropV.smp {z x : Vm} {d : Nat} (h : DropV z x d) {s : List Int} (hs : SmpOk x s) : SmpOk z s := ⟨by rw [h.B]; exact hs.1, hs.2⟩
theorem DropV.lmp {z x : Vm} {d : Nat} (h : DropV z x d) {s : List Int} (hs : LmpsOk x s) : LmpsOk z s := ⟨hs.1, fun n hn => by rw [h.ll]; exact hs.2.1 n hn, hs.2.2⟩
theorem DropV.cnd {z x : Vm} {d : Nat} (h : DropV z x d) (h4 : x.D.length ≤ 4) {t : List Int} (ht : t ∈ recL z.D.length) (s : Nat → Int) (ls : List Int) : cndE z s ls t = cndE x s ls (insL t d) := by
  have hl := h.dl
  have h1 := h.d1
  obtain ⟨-, f2, f3, f4⟩ := ins_rec z.D.length (by omega) d (by omega) t ht
  have hlen : t.length = z.D.length := ((recL_all z.D.length (by omega)).2 t ht).1
  have htn : tnE z (val t) = tnE x (val (insL t d)) := funext fun j => by
    show sumTo (fun i => val t i * val (z.dye i) j) z.D.length = sumTo (fun i => val (insL t d) i * val (x.dye i) j) x.D.length
    rw [← hl]
    refine (sum_skip (d := d) (by simp only [f4, Int.zero_mul]) (fun i hi => ?_) (fun i hi => ?_) _ (by omega)).symm
    · simp only [ins_low (show d ≤ t.length by omega) hi, h.dye, if_pos hi]
    · simp only [ins_high (show d ≤ t.length by omega) hi, h.dye, if_neg (show ¬ i < d by omega)]
  rw [cndE, cndE, f2, matE, matE, f3, h.tol]
  congr 2
  funext l
  rw [offE, offE, htn, h.lamp, h.B, f3]
theorem DropV.iff {z x : Vm} {d : Nat} (h : DropV z x d) (h4 : x.D.length ≤ 4) (s : Nat → Int) (ls : List Int) : matL z s ls ≠ [] ↔ ∃ t ∈ matL x s ls, val t d = 0 := by
  have hl := h.dl
  have h1 := h.d1
  constructor
  · intro hne
    obtain ⟨t, ht⟩ := List.exists_mem_of_ne_nil _ hne
    obtain ⟨k1, k2⟩ := List.mem_filter.1 ht
    obtain ⟨f1, -, -, f4⟩ := ins_rec z.D.length (by omega) d (by omega) t k1
    exact ⟨insL t d, List.mem_filter.2 ⟨by rw [← hl]; exact f1, by rw [← h.cnd h4 k1]; exact k2⟩, f4⟩
  · rintro ⟨t, ht, h0⟩
    obtain ⟨k1, k2⟩ := List.mem_filter.1 ht
    rw [← hl] at k1
    obtain ⟨f1, f2⟩ := out_rec z.D.length (by omega) d (by omega) t k1 h0
    exact List.ne_nil_of_mem (List.mem_filter.2 ⟨f1, by rw [h.cnd h4 f1, f2]; exact k2⟩)
theorem spa_mem {nd : Nat} {L : List (List Int)} {d : Nat} (hd : d < nd) : ((d : Nat) : Int) ∈ spaT (gB nd L) nd ↔ ∃ t ∈ L, val t d = 0 := by
  rw [spaT, List.mem_map]
  constructor
  · rintro ⟨j, hj, he⟩
    obtain rfl : j = d := by omega
    obtain ⟨-, h2⟩ := List.mem_filter.1 hj
    simp [gB, hd] at h2
    exact h2
  · rintro ⟨t, ht, h0⟩
    refine ⟨d, List.mem_filter.2 ⟨List.mem_range.2 hd, ?_⟩, rfl⟩
    simp [gB, hd]
    exact ⟨t, ht, h0⟩
theorem atI_mem (xs : List Int) (n : Int) : 0 ≤ atI xs n ↔ n ∈ xs := by
  by_cases h : n ∈ xs
  · refine ⟨fun _ => h, fun _ => ?_⟩
    rw [atI]
    split
    · omega
    · rename_i e
      rw [List.findIdx?_eq_none_iff] at e
      simpa using e n h
  · refine ⟨fun h0 => ?_, fun h2 => absurd h2 h⟩
    rw [atI_none (fun j hj e => h (by rw [← e]; exact getD_mem 0 hj))] at h0
    omega
theorem spa_one {x : Vm} (h : x.D.length = 1) (s : Nat → Int) (ls : List Int) : spaT (gB x.D.length (matL x s ls)) x.D.length = [] := by
  have hg : gB 1 (matL x s ls) 0 = true := by
    simp only [gB, Nat.lt_one_iff, decide_true, Bool.true_and, List.all_eq_true, decide_eq_true_eq]
    intro t ht
    exact one_rec t (by have := (List.mem_filter.1 ht).1; rwa [h] at this)
  rw [h]
  simp [spaT, hg]
-- parts of a list of lists
theorem lol_take {w : World} {a : Option Addr} {L : List (Value × List Int)} (h : LolAt w a L) (k : Nat) : LolAt w a (L.take k) := by
  refine ⟨fun i hi => ?_, fun p hp => h.2 p (List.mem_of_mem_take hp)⟩
  have hi2 : i < k ∧ i < L.length := by simpa [Nat.lt_min] using hi
  obtain ⟨b, off, h1, h2⟩ := h.1 i hi2.2
  refine ⟨b, off, h1, ?_⟩
  have e : (L.take k).getD i (.bool true, []) = L.getD i (.bool true, []) := by
    simp only [List.getD_eq_getElem?_getD, List.getElem?_take]
    rw [if_pos hi2.1]
  intro W E
  have := h2 W E
  simp only [e]
  exact this
theorem lol_drop {w : World} {a : Option Addr} {L : List (Value × List Int)} {cap k : Nat} (h : LolAt w a L) (hc : L.length ≤ cap) : LolAt w (subA a k cap 1) (L.drop k) := by
  refine ⟨fun i hi => ?_, fun p hp => h.2 p (List.mem_of_mem_drop hp)⟩
  rw [List.length_drop] at hi
  obtain ⟨b, off, h1, h2⟩ := h.1 (k + i) (by omega)
  obtain rfl : a = some ⟨b, off, none⟩ := by have := h1 0 0; injection this
  refine ⟨b, off + k * 1, fun m c => by rw [subA, if_neg (by omega)]; show Value.slice (some (Addr.add _ _)) _ _ = _; rw [Addr.add_lit], ?_⟩
  have e : (L.drop k).getD i (.bool true, []) = L.getD (k + i) (.bool true, []) := by
    simp only [List.getD_eq_getElem?_getD, List.getElem?_drop]
  intro W E
  have := h2 W E
  simp only [e]
  rwa [Nat.add_mul, ← Nat.add_assoc] at this
theorem src_outer {w : World} {base c : Nat} {e : TypeId} {a : Option Addr} {M : List (Value × List Int)} (oo : w.ownsRow base e 1 (.slice a M.length c) M.length (M.map (·.1))) (h1 : ∀ p ∈ M, p.1.oneCell' = true) : SrcAt w 1 a M.length (M.map (·.1)) := by
  have h : IsRows w (.slice a M.length c) 1 (M.map pRow) := rows_of_owns (by rw [← pRow_flat]; exact oo) (fun _ => rfl)
  rw [pRow_flat]
  refine ⟨by rw [← pRow_flat]; simp, fun ha => ?_, rows_flat (by decide) (fun _ => rfl) h, fun u hu => ?_⟩
  · by_cases hne : M.map pRow = []
    · simpa using hne
    · obtain ⟨b, off, h1, -⟩ := h.range rfl hne
      rw [ha] at h1; cases h1
  · obtain ⟨l, hl, hu⟩ := List.mem_flatten.1 hu
    obtain ⟨x, hx, rfl⟩ := List.mem_map.1 hl
    obtain rfl : u = x.1 := by simpa [pRow] using hu
    exact h1 x hx
theorem fam_one {w : World} {b : Nat} {M : List (Value × List Int)} (h : FamT w b M) : ∀ p ∈ M, p.1.oneCell' = true := fun p hp => by
  obtain ⟨a, c, e, -⟩ := fam_row h hp
  rw [e]; rfl
section
variable {P : Program} {ρ : Operand → Value} {o : Oper} {w : World}
theorem R_neqBl {x y : Operand} {t t' : TypeId} {p q b : Bool} (ho : o.op = .binOp .neq t x y t') (hx : ρ x = .bool p) (hy : ρ y = .bool q) (hu : P.underlying t = some .bool) (hb : (p != q) = b) : (execOp ρ o).run P w = .ok (.value (.bool b)) w := by
  subst hb
  unfold execOp
  cases p <;> cases q <;> simp [ho, hx, hy, run_neq_bool (h := hu), go_sem]
end
end Go.Proofs.Ytdjeecgddbjbeaa.MI
namespace Go.Proofs.Ytdjeecgddbjbeaa
open Go.RowKit MI
set_option linter.unusedVariables false
set_option linter.unusedSimpArgs false
set_option maxRecDepth 100000 in
set_option maxHeartbeats 4000000 in
theorem dyeSpare_walk (a0 : Option Addr) (len0 cap0 : Nat) (z0 : List Int) (w : World) (h : IsRow .i64 w a0 len0 cap0 z0) : Calls Try.prog 10 #[.slice a0 len0 cap0] w fun e w' => e = .returned (.bool true) ∧ Ext [] w w' := by
  have E : Ext [] w w := Ext.refl _ _
  refine calls_has 122 Try.func10 rfl Try.ntmps10 (Nat.le_of_ble_eq_true rfl) ?_
  intro fa F
  refine wp_seq_k fun K1 hK1 => ?_
  refine wp_region_lit ?_
  refine F.vl (R_assign rfl (ev_c fa _)) ?_; clear F fa; intro fa F
  refine wpList_nil ?_
  refine hK1 _ _ ?_
  clear hK1
  refine wp_seq_k fun K2 hK2 => ?_
  refine wp_region_lit ?_
  refine F.mv ?_; clear F fa; intro fa F
  refine sq_call F rfl (by decide) rfl (R_callV rfl rfl Try.call13 (mpS (F.at rfl) mp0)) (newLots_any w a0 len0 cap0 z0 h) fun e w1 hR => ?_
  obtain ⟨b, rfl, hbw0, hbw1, HL, e9⟩ := hR
  refine ⟨_, rfl, ?_⟩; clear F fa; intro fa F
  replace E := ext_same E (e9)
  clear e9
  refine F.as ?_; clear F fa; intro fa F
  refine wpList_nil ?_
  refine hK2 _ _ ?_
  clear hK2
  refine wp_seq_k fun K3 hK3 => ?_
  refine wp_region_lit ?_
  refine F.mv ?_; clear F fa; intro fa F
  refine sq_call F rfl (by decide) rfl (R_callV rfl rfl Try.call33 (mpS (F.at rfl) (mpS (ev_c fa _) mp0))) (vatOf_any 4 (by decide) (by decide) w _ b _ _ HL (by omega)) fun e w2 hR => ?_
  obtain ⟨x, rfl, hv, hd3, hxb, HL, e9⟩ := hR
  refine ⟨_, rfl, ?_⟩; clear F fa; intro fa F
  replace E := E.trans' e9 (fun i hi hl => by simp only [List.mem_cons, List.not_mem_nil, or_false] at hi ⊢; omega)
  have HV := Lib.hid hv
  have HXB := Lib.hid hxb
  obtain ⟨wV, hwV⟩ : ∃ wV, wV = w2 := ⟨_, rfl⟩
  have EV : Ext [b] wV w2 := by rw [hwV]; exact Ext.refl _ _
  rw [← hwV] at HXB
  clear hv hxb
  refine sq_new F rfl (by decide) rfl (R_alloc rfl Try.zeroValue24) ?_; clear F fa; intro fa w3 F hw
  obtain ⟨n4, hn⟩ : ∃ n, n = w2.heap.size := ⟨_, rfl⟩
  rw [← hn] at F
  have s4 : w2.heap.size ≤ n4 := Nat.le_of_eq hn.symm
  have l4_E : w.heap.size ≤ n4 := by rw [hn]; exact E.size
  have l4_EV : wV.heap.size ≤ n4 := by rw [hn]; exact EV.size
  have b4_HL := Nat.lt_of_lt_of_eq (lots_lt HL) hn.symm
  replace E := ext_alloc E hw
  replace EV := ext_alloc EV hw
  replace HL := lots_alloc hw HL
  have q4 := new_row hw hn
  clear hw hn
  refine sq_to rfl rfl (R_storeRow rfl (F.at rfl) (F.at rfl) (by kernel_rfl) (by first | (simp [Value.oneCell']; done) | (simp [Value.oneCell', id]; done)) q4 rfl) ?_; intro w4 hw
  replace q4 := put_row hw q4 rfl
  replace E := ext_cells E hw (fun h => by first | exact absurd h (by omega) | simp)
  replace EV := ext_cells EV hw (fun h => by first | exact absurd h (by omega) | simp)
  replace HL := lots_cells hw HL (by omega) (by omega)
  clear hw
  refine wpList_nil ?_
  refine hK3 _ _ ?_
  clear hK3
  refine wp_seq_k fun K4 hK4 => ?_
  refine region_x (Ext [b] w4) none follows fun w5 hh eh => ?_
  have q4_ := q4
  replace q4 := keep_same hh q4
  have E_ := E
  have zEw5 := E.size
  replace E := ext_same E eh
  have EV_ := EV
  have zEVw5 := EV.size
  replace EV := ext_same EV eh
  have zbw5 := lots_lt HL
  replace HL := lots_ext eh HL
  have eT := eh.mono (Y := [b]) (by simp)
  clear hh eh
  refine F.x (i := 0) rfl (fun w' => R_move rfl (F.at rfl)) (fun _ => eT) ?_; clear F fa; intro fa F
  refine F.xr (i := 1) rfl (fun w' hS => R_loadBlk rfl (F.at rfl) Try.underlying24 rfl (by kernel_rfl) (hS.keep q4_ (by simp; omega))) (fun _ => eT) ?_; clear F fa; intro fa F
  refine F.x (i := 3) rfl (fun w' => R_move rfl (F.at rfl)) (fun _ => eT) ?_; clear F fa; intro fa F
  refine F.xr (i := 4) rfl (fun w' hS => R_loadBlk rfl (F.at rfl) Try.underlying24 rfl (by kernel_rfl) (hS.keep q4_ (by simp; omega))) (fun _ => eT) ?_; clear F fa; intro fa F
  obtain ⟨B2, hB2⟩ : ∃ B2, B2 = w5.heap.size := ⟨_, rfl⟩
  have hb2 : b < B2 := by rw [hB2]; exact lots_lt HL
  refine ax_only (i := 2) (by kernel_rfl) (op_call F rfl rfl (by decide) rfl (R_callV rfl rfl Try.call16 (mpS (F.at rfl) (mpS (F.at rfl) mp0))) (sampleOf_any x HV.out w _ b _ _ HL (by omega) (HXB.out.ext EV)) fun e w6 hR => ?_)
  obtain ⟨sa, sc, s, rfl, hs, so, HL, e9⟩ := hR
  refine ⟨_, rfl, ?_⟩; clear F fa; intro fa F
  replace q4 := (e9).keep q4 (by simp; omega)
  replace E := E.trans' e9 (fun i hi hl => by simp only [List.mem_cons, List.not_mem_nil, or_false] at hi ⊢; omega)
  replace EV := EV.trans' e9 (fun i hi hl => by simp only [List.mem_cons, List.not_mem_nil, or_false] at hi ⊢; omega)
  replace eT := eT.trans' e9 (fun i hi hl => by simp only [List.mem_cons, List.not_mem_nil, or_false] at hi ⊢; omega)
  refine ⟨fun _ => eT, ?_⟩
  rw [← hB2] at so
  obtain ⟨B3, hB3⟩ : ∃ B3, B3 = w6.heap.size := ⟨_, rfl⟩
  have hb3 : b < B3 := by rw [hB3]; exact lots_lt HL
  refine ax_only (i := 5) (by kernel_rfl) (op_call F rfl rfl (by decide) rfl (R_callV rfl rfl Try.call17 (mpS (F.at rfl) (mpS (F.at rfl) mp0))) (lampsOf_any x HV.out w _ b _ _ HL (by omega)) fun e w7 hR => ?_)
  obtain ⟨la, lc, ls, rfl, hl, hl3, lo, HL, e9⟩ := hR
  refine ⟨_, rfl, ?_⟩; clear F fa; intro fa F
  replace so := owns_ext so (e9) (by simp; omega)
  replace q4 := (e9).keep q4 (by simp; omega)
  replace E := E.trans' e9 (fun i hi hl => by simp only [List.mem_cons, List.not_mem_nil, or_false] at hi ⊢; omega)
  replace EV := EV.trans' e9 (fun i hi hl => by simp only [List.mem_cons, List.not_mem_nil, or_false] at hi ⊢; omega)
  replace eT := eT.trans' e9 (fun i hi hl => by simp only [List.mem_cons, List.not_mem_nil, or_false] at hi ⊢; omega)
  refine ⟨fun _ => eT, ?_⟩
  rw [← hB3] at lo
  refine F.x (i := 6) rfl (fun w' => R_assign rfl (F.at rfl)) (fun _ => eT) ?_; clear F fa; intro fa F
  refine F.x (i := 7) rfl (fun w' => R_assign rfl (F.at rfl)) (fun _ => eT) ?_; clear F fa; intro fa F
  refine ax_done (by kernel_rfl) ?_ _
  clear eT q4_ E_ EV_
  have hxd := HXB.out _ EV
  have HSR := Lib.hid (rows_of_ivs so rfl)
  have HLR := Lib.hid (rows_of_ivs lo rfl)
  have HXD := Lib.hid hxd
  obtain ⟨wD, hwD⟩ : ∃ wD, wD = w7 := ⟨_, rfl⟩
  have ED : Ext [] wD w7 := by rw [hwD]; exact Ext.refl _ _
  rw [← hwD] at HXD HSR HLR
  clear hxd so lo HL EV
  have HSO := Lib.hid hs
  have HLO := Lib.hid hl
  clear hs hl
  refine hK4 _ _ ?_
  clear hK4
  refine wp_seq_k fun K5 hK5 => ?_
  refine wp_region_lit ?_
  refine F.vl (R_loadBlk rfl (F.at rfl) Try.underlying24 rfl (by kernel_rfl) q4) ?_; clear F fa; intro fa F
  refine F.mv ?_; clear F fa; intro fa F
  refine F.mv ?_; clear F fa; intro fa F
  obtain ⟨g, hg⟩ : ∃ g, g = spaR x (val s) ls := ⟨_, rfl⟩
  have hsp := xSpare_ok x HV.out s HSO.out ls HLO.out (by omega) sa la sc lc w7 (HXD.out.ext ED) (HSR.out.ext ED (by simp)) (HLR.out.ext ED (by simp))
  rw [← hg] at hsp
  refine sq_call F rfl (by decide) rfl (R_callV rfl rfl Try.call42 (mpS (F.at rfl) (mpS (F.at rfl) (mpS (F.at rfl) mp0)))) (hsp) fun e w8 hR => ?_
  obtain ⟨ga, gc, rfl, og, e9⟩ := hR
  refine ⟨_, rfl, ?_⟩; clear F fa; intro fa F
  replace q4 := (e9).keep0 q4
  replace E := ext_same E (e9)
  replace ED := ext_same ED (e9)
  clear e9
  have HG := Lib.hid (rows_of_ivs og rfl)
  obtain ⟨wG, hwG⟩ : ∃ wG, wG = w8 := ⟨_, rfl⟩
  have EG : Ext [] wG w8 := by rw [hwG]; exact Ext.refl _ _
  rw [← hwG] at HG
  clear og hsp
  refine F.mv ?_; clear F fa; intro fa F
  refine F.vl (R_extract rfl (F.at rfl) (get0)) ?_; clear F fa; intro fa F
  refine F.vl (R_extract rfl (F.at rfl) (getS (get0))) ?_; clear F fa; intro fa F
  refine F.as ?_; clear F fa; intro fa F
  refine F.as ?_; clear F fa; intro fa F
  refine wpList_nil ?_
  refine hK5 _ _ ?_
  clear hK5
  refine wp_seq_k fun K6 hK6 => ?_
  refine wp_region_lit ?_
  refine F.vl (R_loadBlk rfl (F.at rfl) Try.underlying24 rfl (by kernel_rfl) q4) ?_; clear F fa; intro fa F
  refine F.mv ?_; clear F fa; intro fa F
  refine F.mv ?_; clear F fa; intro fa F
  refine sq_call F rfl (by decide) rfl (R_callV rfl rfl Try.call37 (mpS (F.at rfl) (mpS (F.at rfl) (mpS (F.at rfl) mp0)))) (xRecipes_ok x HV.out s HSO.out ls HLO.out (by omega) sa la sc lc _ (HXD.out.ext ED) (HSR.out.ext ED (by simp)) (HLR.out.ext ED (by simp))) fun e w9 hR => ?_
  obtain ⟨M, mb, mc, rfl, hM, om, fam, e9⟩ := hR
  refine ⟨_, rfl, ?_⟩; clear F fa; intro fa F
  replace q4 := (e9).keep0 q4
  replace E := ext_same E (e9)
  replace ED := ext_same ED (e9)
  replace EG := ext_same EG (e9)
  clear e9
  have HM := Lib.hid (lol_of_own om fam)
  have HMS := Lib.hid (lol_of_own om fam).1
  obtain ⟨wM, hwM⟩ : ∃ wM, wM = w9 := ⟨_, rfl⟩
  have EM : Ext [] wM w9 := by rw [hwM]; exact Ext.refl _ _
  rw [← hwM] at HM HMS
  clear om fam
  have hMl : M.length ≤ 500 := by rw [← List.length_map (f := fun p : Value × List Int => p.2), hM]; exact mat_len HV.out
  obtain ⟨L, hLd⟩ : ∃ L, L = matL x (val s) ls := ⟨_, rfl⟩
  rw [← hLd] at hM
  have hML : M.length = L.length := by rw [← hM, List.length_map]
  have hd4 := HV.out.d4
  have hd1 := HV.out.d1
  refine F.mv ?_; clear F fa; intro fa F
  refine F.vl (R_extract rfl (F.at rfl) (get0)) ?_; clear F fa; intro fa F
  refine F.vl (R_extract rfl (F.at rfl) (getS (get0))) ?_; clear F fa; intro fa F
  refine F.as ?_; clear F fa; intro fa F
  refine F.as ?_; clear F fa; intro fa F
  refine wpList_nil ?_
  refine hK6 _ _ ?_
  clear hK6
  refine wp_seq_k fun K7 hK7 => ?_
  refine wp_seq_k fun K8 hK8 => ?_
  by_cases h0 : L = []
  · skip
    have hL0 : L.length = 0 := (by rw [h0]; rfl)
    have hge : g = ([], 11) := (by rw [hg, spaR, if_pos (by rw [← hLd]; exact h0)])
    have hg2 : g.2 = 11 := (by rw [hge])
    have hgl : g.1.length = 0 := (by rw [hge]; rfl)
    refine wp_region_lit ?_
    refine F.mv ?_; clear F fa; intro fa F
    refine F.vl (R_neqB (b := false) rfl (F.at rfl) (ev_c fa _) (decide_eq_true (by omega))) ?_; clear F fa; intro fa F
    refine F.mv ?_; clear F fa; intro fa F
    refine F.mv ?_ (hw := (wantT F rfl rfl (by decide) rfl)); clear F fa; intro fa F
    refine F.vl (R_eqlB (b := false) rfl (F.at rfl) (ev_c fa _) (decide_eq_false (by omega))) ?_ (hw := (wantT F rfl rfl (by decide) rfl)); clear F fa; intro fa F
    refine F.mv ?_ (hw := (wantT F rfl rfl (by decide) rfl)); clear F fa; intro fa F
    refine F.vl (R_len rfl rfl (F.at rfl) Try.underlying22) ?_ (hw := (wantT F rfl rfl (by decide) rfl)); clear F fa; intro fa F
    refine F.vl (R_gtrB (b := false) rfl (F.at rfl) (ev_c fa _) (decide_eq_false (by omega))) ?_ (hw := (wantT F rfl rfl (by decide) rfl)); clear F fa; intro fa F
    refine F.vl ((R_neqBl rfl (F.at rfl) (F.at rfl) Try.underlying4 (b := false) rfl)) ?_ (hw := (wantT F rfl rfl (by decide) rfl)); clear F fa; intro fa F
    refine F.vl (R_pickF rfl (F.at rfl) (F.at rfl)) ?_; clear F fa; intro fa F
    refine F.mv ?_; clear F fa; intro fa F
    refine F.mv ?_ (hw := (wantT F rfl rfl (by decide) rfl)); clear F fa; intro fa F
    refine F.vl (R_neqB (b := true) rfl (F.at rfl) (ev_c fa _) (decide_eq_false (by omega))) ?_ (hw := (wantT F rfl rfl (by decide) rfl)); clear F fa; intro fa F
    refine F.mv ?_ (hw := (wantT F rfl rfl (by decide) rfl)); clear F fa; intro fa F
    refine F.mv ?_ (hw := (wantT F rfl rfl (by decide) rfl)); clear F fa; intro fa F
    refine F.vl (R_neqB (b := false) rfl (F.at rfl) (ev_c fa _) (decide_eq_true (by omega))) ?_ (hw := (wantT F rfl rfl (by decide) rfl)); clear F fa; intro fa F
    refine F.mv ?_ (hw := (wantT F rfl rfl (by decide) rfl)); clear F fa; intro fa F
    refine F.mv ?_ (hw := (wantT F rfl rfl (by decide) rfl)); clear F fa; intro fa F
    refine F.vl (R_len rfl rfl (F.at rfl) Try.underlying25) ?_ (hw := (wantT F rfl rfl (by decide) rfl)); clear F fa; intro fa F
    refine F.vl (R_gtrB (b := false) rfl (F.at rfl) (ev_c fa _) (decide_eq_false (by omega))) ?_ (hw := (wantT F rfl rfl (by decide) rfl)); clear F fa; intro fa F
    refine F.vl (R_pickF rfl (F.at rfl) (F.at rfl)) ?_ (hw := (wantT F rfl rfl (by decide) rfl)); clear F fa; intro fa F
    refine F.vl (R_pickT rfl (F.at rfl) (F.at rfl)) ?_ (hw := (wantT F rfl rfl (by decide) rfl)); clear F fa; intro fa F
    refine F.vl (R_pickF rfl (F.at rfl) (F.at rfl)) ?_; clear F fa; intro fa F
    refine wpList_nil ?_
    refine hK8 _ _ ?_
    clear hK8
    refine cd_F F rfl ?_
    refine wp_skip ?_
    refine hK7 _ _ ?_
    clear hK7
    refine wp_seq_k fun K9 hK9 => ?_
    refine wp_seq_k fun K10 hK10 => ?_
    refine wp_region_lit ?_
    refine F.vl (R_field rfl (F.at rfl) Try.underlying24 rfl (n := 1) (sz := 1) rfl (by kernel_rfl) (by decide)) ?_; clear F fa; intro fa F
    refine F.vl (R_load rfl (F.at rfl) Try.underlying22 rfl ((cells_of_block q4 1).trans (getS (get0)))) ?_; clear F fa; intro fa F
    refine F.vl (R_len rfl rfl (F.at rfl) Try.underlying22) ?_; clear F fa; intro fa F
    refine F.vl (R_lss rfl (F.at rfl) (ev_c fa _)) ?_; clear F fa; intro fa F
    refine wpList_nil ?_
    refine hK10 _ _ ?_
    clear hK10
    refine cd_if F rfl (fun hc65 => ?_) (fun hc65 => ?_)
    · skip
      refine wp_seq_k fun K11 hK11 => ?_
      replace F := F.sub (.c 7 rfl (.c 8 rfl .n))
      refine wp_region_lit ?_
      refine F.mv ?_; clear F fa; intro fa F
      refine F.vl (R_neqB (b := true) rfl (F.at rfl) (ev_c fa _) (decide_eq_false (by omega))) ?_; clear F fa; intro fa F
      refine F.mv ?_; clear F fa; intro fa F
      refine sq_no F rfl (by decide) (wantF F rfl rfl (by decide) rfl (by decide)) ?_; clear F fa; intro fa F
      refine sq_no F rfl (by decide) (wantF F rfl rfl (by decide) rfl (by decide)) ?_; clear F fa; intro fa F
      refine sq_no F rfl (by decide) (wantF F rfl rfl (by decide) rfl (by decide)) ?_; clear F fa; intro fa F
      refine F.vl (R_pickT rfl (F.at rfl) (ev_c fa _)) ?_; clear F fa; intro fa F
      refine F.mv ?_; clear F fa; intro fa F
      refine sq_call F rfl (by decide) (wantT F rfl rfl (by decide) rfl) (R_callV rfl rfl Try.call12 mp0) (dyed_any _) fun e w10 hR => ?_
      obtain ⟨rfl, e9⟩ := hR
      refine ⟨_, rfl, ?_⟩; clear F fa; intro fa F
      replace q4 := (e9).keep0 q4
      replace E := ext_same E (e9)
      replace ED := ext_same ED (e9)
      replace EG := ext_same EG (e9)
      replace EM := ext_same EM (e9)
      clear e9
      refine F.vl (R_pickT rfl (F.at rfl) (F.at rfl)) ?_; clear F fa; intro fa F
      refine F.as ?_; clear F fa; intro fa F
      refine wpList_nil ?_
      refine hK11 _ _ ?_
      clear hK11
      refine wp_ret ?_
      (try simp only [Exit.inBlock, Exit.then, reduceIte])
      refine rt_v F (rs_1 F rfl rfl) ?_
      exact ⟨rfl, E⟩
    · skip
      refine wp_skip ?_
      refine hK9 _ _ ?_
      clear hK9
      refine wp_seq_k fun K12 hK12 => ?_
      refine wp_seq_k fun K13 hK13 => ?_
      replace F := F.sub (.c 4 rfl (.c 5 rfl (.c 6 rfl (.c 7 rfl (.c 8 rfl .n)))))
      refine wp_region_lit ?_
      refine F.vl (R_assign rfl (ev_c fa _)) ?_; clear F fa; intro fa F
      refine wpList_nil ?_
      refine hK13 _ _ ?_
      clear hK13
      refine wp_block ?_
      have F0 := F.sub (.c 4 rfl (.c 5 rfl (.c 6 rfl (.c 7 rfl (.c 8 rfl .n)))))
      refine lp_for F0 (x.D.length) (fun i Lv W => Lv = [(11, .int .i64 ((i : Nat) : Int))] ∧ Ext [] w W ∧ Ext [] wD W ∧ Ext [] wG W ∧ Ext [] wM W ∧ W.heap[n4]? = some (.cells #[.int .i64 x.B, .slice x.da x.D.length x.dc, .slice x.la x.L.length x.lc, .int .i64 x.tol] 24 (0, 0))) ⟨_, ⟨rfl, E, ED, EG, EM, q4⟩, F.sub (.c 11 rfl (.c 4 rfl (.c 5 rfl (.c 6 rfl (.c 7 rfl (.c 8 rfl .n))))))⟩ ?_
      clear F F0
      clear E ED EG EM q4
      rintro i _ fa w11 hi1 ⟨rfl, E, ED, EG, EM, q4⟩ F
      refine wp_seq_k fun K14 hK14 => ?_
      refine wp_seq_k fun K15 hK15 => ?_
      by_cases hid : i < x.D.length
      · skip
        refine wp_region_lit ?_
        refine F.mv ?_; clear F fa; intro fa F
        refine F.vl (R_field rfl (F.at rfl) Try.underlying24 rfl (n := 1) (sz := 1) rfl (by kernel_rfl) (by decide)) ?_; clear F fa; intro fa F
        refine F.vl (R_load rfl (F.at rfl) Try.underlying22 rfl ((cells_of_block q4 1).trans (getS (get0)))) ?_; clear F fa; intro fa F
        refine F.vl (R_len rfl rfl (F.at rfl) Try.underlying22) ?_; clear F fa; intro fa F
        refine F.vl (R_lssB (b := true) rfl (F.at rfl) (F.at rfl) (decide_eq_true (by omega))) ?_; clear F fa; intro fa F
        refine F.mv ?_; clear F fa; intro fa F
        refine F.mv ?_ (hw := (wantT F rfl rfl (by decide) rfl)); clear F fa; intro fa F
        refine F.vl (R_eqlB (b := false) rfl (F.at rfl) (ev_c fa _) (decide_eq_false (by omega))) ?_ (hw := (wantT F rfl rfl (by decide) rfl)); clear F fa; intro fa F
        refine F.vl (R_pickT rfl (F.at rfl) (F.at rfl)) ?_; clear F fa; intro fa F
        refine wpList_nil ?_
        refine hK15 _ _ ?_
        clear hK15
        refine cd_F F rfl ?_
        refine wp_exit ?_
        refine hK12 _ _ ?_
        clear hK12
        refine wp_seq_k fun K16 hK16 => ?_
        refine wp_region_lit ?_
        refine sq_call F rfl (by decide) rfl (R_callV rfl rfl Try.call12 mp0) (dyed_any _) fun e w12 hR => ?_
        obtain ⟨rfl, e9⟩ := hR
        refine ⟨_, rfl, ?_⟩; clear F fa; intro fa F
        replace q4 := (e9).keep0 q4
        replace E := ext_same E (e9)
        replace ED := ext_same ED (e9)
        replace EG := ext_same EG (e9)
        replace EM := ext_same EM (e9)
        clear e9
        refine F.as ?_; clear F fa; intro fa F
        refine wpList_nil ?_
        refine hK16 _ _ ?_
        clear hK16
        refine wp_ret ?_
        (try simp only [Exit.inBlock, Exit.then, reduceIte])
        refine rt_v F (rs_1 F rfl rfl) ?_
        exact ⟨rfl, E⟩
      · skip
        refine wp_region_lit ?_
        refine F.mv ?_; clear F fa; intro fa F
        refine F.vl (R_field rfl (F.at rfl) Try.underlying24 rfl (n := 1) (sz := 1) rfl (by kernel_rfl) (by decide)) ?_; clear F fa; intro fa F
        refine F.vl (R_load rfl (F.at rfl) Try.underlying22 rfl ((cells_of_block q4 1).trans (getS (get0)))) ?_; clear F fa; intro fa F
        refine F.vl (R_len rfl rfl (F.at rfl) Try.underlying22) ?_; clear F fa; intro fa F
        refine F.vl (R_lssB (b := false) rfl (F.at rfl) (F.at rfl) (decide_eq_false (by omega))) ?_; clear F fa; intro fa F
        refine F.mv ?_; clear F fa; intro fa F
        refine sq_no F rfl (by decide) (wantF F rfl rfl (by decide) rfl (by decide)) ?_; clear F fa; intro fa F
        refine sq_no F rfl (by decide) (wantF F rfl rfl (by decide) rfl (by decide)) ?_; clear F fa; intro fa F
        refine F.vl (R_pickF rfl (F.at rfl) (ev_c fa _)) ?_; clear F fa; intro fa F
        refine wpList_nil ?_
        refine hK15 _ _ ?_
        clear hK15
        refine cd_F F rfl ?_
        refine wp_exit ?_
        refine hK12 _ _ ?_
        clear hK12
        refine wp_seq_k fun K17 hK17 => ?_
        refine wp_region_lit ?_
        refine sq_call F rfl (by decide) rfl (R_callV rfl rfl Try.call12 mp0) (dyed_any _) fun e w13 hR => ?_
        obtain ⟨rfl, e9⟩ := hR
        refine ⟨_, rfl, ?_⟩; clear F fa; intro fa F
        replace q4 := (e9).keep0 q4
        replace E := ext_same E (e9)
        replace ED := ext_same ED (e9)
        replace EG := ext_same EG (e9)
        replace EM := ext_same EM (e9)
        clear e9
        refine F.as ?_; clear F fa; intro fa F
        refine wpList_nil ?_
        refine hK17 _ _ ?_
        clear hK17
        refine wp_ret ?_
        (try simp only [Exit.inBlock, Exit.then, reduceIte])
        refine rt_v F (rs_1 F rfl rfl) ?_
        exact ⟨rfl, E⟩
  · skip
    have hL0 : L.length ≠ 0 := (fun h => h0 (List.length_eq_zero_iff.1 h))
    have hge : g = (spaT (gB x.D.length L) x.D.length, 0) := (by rw [hg, spaR, if_neg (by rw [← hLd]; exact h0), ← hLd])
    have hg2 : g.2 = 0 := (by rw [hge])
    refine wp_region_lit ?_
    refine F.mv ?_; clear F fa; intro fa F
    refine F.vl (R_neqB (b := false) rfl (F.at rfl) (ev_c fa _) (decide_eq_true (by omega))) ?_; clear F fa; intro fa F
    refine F.mv ?_; clear F fa; intro fa F
    refine F.mv ?_ (hw := (wantT F rfl rfl (by decide) rfl)); clear F fa; intro fa F
    refine F.vl (R_eqlB (b := true) rfl (F.at rfl) (ev_c fa _) (decide_eq_true (by omega))) ?_ (hw := (wantT F rfl rfl (by decide) rfl)); clear F fa; intro fa F
    refine F.mv ?_ (hw := (wantT F rfl rfl (by decide) rfl)); clear F fa; intro fa F
    refine F.vl (R_len rfl rfl (F.at rfl) Try.underlying22) ?_ (hw := (wantT F rfl rfl (by decide) rfl)); clear F fa; intro fa F
    refine F.vl (R_gtrB (b := true) rfl (F.at rfl) (ev_c fa _) (decide_eq_true (by omega))) ?_ (hw := (wantT F rfl rfl (by decide) rfl)); clear F fa; intro fa F
    refine F.vl ((R_neqBl rfl (F.at rfl) (F.at rfl) Try.underlying4 (b := false) rfl)) ?_ (hw := (wantT F rfl rfl (by decide) rfl)); clear F fa; intro fa F
    refine F.vl (R_pickF rfl (F.at rfl) (F.at rfl)) ?_; clear F fa; intro fa F
    refine F.mv ?_; clear F fa; intro fa F
    refine F.mv ?_ (hw := (wantT F rfl rfl (by decide) rfl)); clear F fa; intro fa F
    refine F.vl (R_neqB (b := false) rfl (F.at rfl) (ev_c fa _) (decide_eq_true (by omega))) ?_ (hw := (wantT F rfl rfl (by decide) rfl)); clear F fa; intro fa F
    refine F.mv ?_ (hw := (wantT F rfl rfl (by decide) rfl)); clear F fa; intro fa F
    refine sq_no F rfl (by decide) (wantF F rfl rfl (by decide) rfl (by decide)) ?_; clear F fa; intro fa F
    refine sq_no F rfl (by decide) (wantF F rfl rfl (by decide) rfl (by decide)) ?_; clear F fa; intro fa F
    refine sq_no F rfl (by decide) (wantF F rfl rfl (by decide) rfl (by decide)) ?_; clear F fa; intro fa F
    refine sq_no F rfl (by decide) (wantU F rfl rfl (by decide) rfl) ?_; clear F fa; intro fa F
    refine sq_no F rfl (by decide) (wantU F rfl rfl (by decide) rfl) ?_; clear F fa; intro fa F
    refine sq_no F rfl (by decide) (wantU F rfl rfl (by decide) rfl) ?_; clear F fa; intro fa F
    refine sq_no F rfl (by decide) (wantF F rfl rfl (by decide) rfl (by decide)) ?_; clear F fa; intro fa F
    refine F.vl (R_pickF rfl (F.at rfl) (ev_c fa _)) ?_ (hw := (wantT F rfl rfl (by decide) rfl)); clear F fa; intro fa F
    refine F.vl (R_pickF rfl (F.at rfl) (F.at rfl)) ?_; clear F fa; intro fa F
    refine wpList_nil ?_
    refine hK8 _ _ ?_
    clear hK8
    refine cd_F F rfl ?_
    refine wp_skip ?_
    refine hK7 _ _ ?_
    clear hK7
    refine wp_seq_k fun K18 hK18 => ?_
    refine wp_seq_k fun K19 hK19 => ?_
    refine wp_region_lit ?_
    refine F.vl (R_field rfl (F.at rfl) Try.underlying24 rfl (n := 1) (sz := 1) rfl (by kernel_rfl) (by decide)) ?_; clear F fa; intro fa F
    refine F.vl (R_load rfl (F.at rfl) Try.underlying22 rfl ((cells_of_block q4 1).trans (getS (get0)))) ?_; clear F fa; intro fa F
    refine F.vl (R_len rfl rfl (F.at rfl) Try.underlying22) ?_; clear F fa; intro fa F
    refine F.vl (R_lss rfl (F.at rfl) (ev_c fa _)) ?_; clear F fa; intro fa F
    refine wpList_nil ?_
    refine hK19 _ _ ?_
    clear hK19
    refine cd_if F rfl (fun hc65 => ?_) (fun hc65 => ?_)
    · skip
      have hgl : g.1.length = 0 := (by rw [hge]; show (spaT _ _).length = 0; rw [hLd, spa_one (by omega)]; rfl)
      refine wp_seq_k fun K20 hK20 => ?_
      replace F := F.sub (.c 7 rfl (.c 8 rfl .n))
      refine wp_region_lit ?_
      refine F.mv ?_; clear F fa; intro fa F
      refine F.vl (R_neqB (b := false) rfl (F.at rfl) (ev_c fa _) (decide_eq_true (by omega))) ?_; clear F fa; intro fa F
      refine F.mv ?_; clear F fa; intro fa F
      refine F.mv ?_ (hw := (wantT F rfl rfl (by decide) rfl)); clear F fa; intro fa F
      refine F.vl (R_len rfl rfl (F.at rfl) Try.underlying25) ?_ (hw := (wantT F rfl rfl (by decide) rfl)); clear F fa; intro fa F
      refine F.vl (R_eqlB (b := true) rfl (F.at rfl) (ev_c fa _) (decide_eq_true (by omega))) ?_ (hw := (wantT F rfl rfl (by decide) rfl)); clear F fa; intro fa F
      refine F.vl (R_pickF rfl (F.at rfl) (F.at rfl)) ?_; clear F fa; intro fa F
      refine F.mv ?_; clear F fa; intro fa F
      refine sq_call F rfl (by decide) (wantT F rfl rfl (by decide) rfl) (R_callV rfl rfl Try.call12 mp0) (dyed_any _) fun e w14 hR => ?_
      obtain ⟨rfl, e9⟩ := hR
      refine ⟨_, rfl, ?_⟩; clear F fa; intro fa F
      replace q4 := (e9).keep0 q4
      replace E := ext_same E (e9)
      replace ED := ext_same ED (e9)
      replace EG := ext_same EG (e9)
      replace EM := ext_same EM (e9)
      clear e9
      refine F.vl (R_pickT rfl (F.at rfl) (F.at rfl)) ?_; clear F fa; intro fa F
      refine F.as ?_; clear F fa; intro fa F
      refine wpList_nil ?_
      refine hK20 _ _ ?_
      clear hK20
      refine wp_ret ?_
      (try simp only [Exit.inBlock, Exit.then, reduceIte])
      refine rt_v F (rs_1 F rfl rfl) ?_
      exact ⟨rfl, E⟩
    · skip
      refine wp_skip ?_
      refine hK18 _ _ ?_
      clear hK18
      refine wp_seq_k fun K21 hK21 => ?_
      refine wp_seq_k fun K22 hK22 => ?_
      replace F := F.sub (.c 4 rfl (.c 5 rfl (.c 6 rfl (.c 7 rfl (.c 8 rfl .n)))))
      refine wp_region_lit ?_
      refine F.vl (R_assign rfl (ev_c fa _)) ?_; clear F fa; intro fa F
      refine wpList_nil ?_
      refine hK22 _ _ ?_
      clear hK22
      refine wp_block ?_
      have F0 := F.sub (.c 4 rfl (.c 5 rfl (.c 6 rfl (.c 7 rfl (.c 8 rfl .n)))))
      refine lp_for F0 (x.D.length) (fun i Lv W => Lv = [(11, .int .i64 ((i : Nat) : Int))] ∧ Ext [] w W ∧ Ext [] wD W ∧ Ext [] wG W ∧ Ext [] wM W ∧ W.heap[n4]? = some (.cells #[.int .i64 x.B, .slice x.da x.D.length x.dc, .slice x.la x.L.length x.lc, .int .i64 x.tol] 24 (0, 0))) ⟨_, ⟨rfl, E, ED, EG, EM, q4⟩, F.sub (.c 11 rfl (.c 4 rfl (.c 5 rfl (.c 6 rfl (.c 7 rfl (.c 8 rfl .n))))))⟩ ?_
      clear F F0
      clear E ED EG EM q4
      rintro i _ fa w15 hi1 ⟨rfl, E, ED, EG, EM, q4⟩ F
      refine wp_seq_k fun K23 hK23 => ?_
      refine wp_seq_k fun K24 hK24 => ?_
      by_cases hid : i < x.D.length
      · skip
        refine wp_region_lit ?_
        refine F.mv ?_; clear F fa; intro fa F
        refine F.vl (R_field rfl (F.at rfl) Try.underlying24 rfl (n := 1) (sz := 1) rfl (by kernel_rfl) (by decide)) ?_; clear F fa; intro fa F
        refine F.vl (R_load rfl (F.at rfl) Try.underlying22 rfl ((cells_of_block q4 1).trans (getS (get0)))) ?_; clear F fa; intro fa F
        refine F.vl (R_len rfl rfl (F.at rfl) Try.underlying22) ?_; clear F fa; intro fa F
        refine F.vl (R_lssB (b := true) rfl (F.at rfl) (F.at rfl) (decide_eq_true (by omega))) ?_; clear F fa; intro fa F
        refine F.mv ?_; clear F fa; intro fa F
        refine F.mv ?_ (hw := (wantT F rfl rfl (by decide) rfl)); clear F fa; intro fa F
        refine F.vl (R_eqlB (b := true) rfl (F.at rfl) (ev_c fa _) (decide_eq_true (by omega))) ?_ (hw := (wantT F rfl rfl (by decide) rfl)); clear F fa; intro fa F
        refine F.vl (R_pickT rfl (F.at rfl) (F.at rfl)) ?_; clear F fa; intro fa F
        refine wpList_nil ?_
        refine hK24 _ _ ?_
        clear hK24
        refine cd_T F rfl ?_
        refine wp_skip ?_
        refine hK23 _ _ ?_
        clear hK23
        refine wp_seq_k fun K25 hK25 => ?_
        refine wp_block ?_
        refine wp_seq_k fun K26 hK26 => ?_
        refine wp_region_lit ?_
        refine F.vl (R_loadBlk rfl (F.at rfl) Try.underlying24 rfl (by kernel_rfl) q4) ?_; clear F fa; intro fa F
        have hbY := ED.size
        refine sq_call F rfl (by decide) rfl (R_callV rfl rfl Try.call18 (mpS (F.at rfl) mp0)) (copyVat_any x _ (HXD.out.ext ED) HV.out.sd HV.out.sl) fun e w16 hR => ?_
        obtain ⟨y, rfl, hyB, hyt, hyD, hyL, hyA, e9⟩ := hR
        refine ⟨_, rfl, ?_⟩; clear F fa; intro fa F
        replace q4 := (e9).keep0 q4
        replace E := ext_same E (e9)
        replace ED := ext_same ED (e9)
        replace EG := ext_same EG (e9)
        replace EM := ext_same EM (e9)
        clear e9
        have HYA := Lib.hid hyA.l
        obtain ⟨wY, hwY⟩ : ∃ wY, wY = w16 := ⟨_, rfl⟩
        have EY : Ext [] wY w16 := by rw [hwY]; exact Ext.refl _ _
        rw [← hwY] at HYA
        clear hyA hbY
        refine sq_new F rfl (by decide) rfl (R_alloc rfl Try.zeroValue24) ?_; clear F fa; intro fa w17 F hw
        obtain ⟨n12, hn⟩ : ∃ n, n = w16.heap.size := ⟨_, rfl⟩
        rw [← hn] at F
        have s12 : w16.heap.size ≤ n12 := Nat.le_of_eq hn.symm
        have l12_E : w.heap.size ≤ n12 := by rw [hn]; exact E.size
        have l12_ED : wD.heap.size ≤ n12 := by rw [hn]; exact ED.size
        have l12_EG : wG.heap.size ≤ n12 := by rw [hn]; exact EG.size
        have l12_EM : wM.heap.size ≤ n12 := by rw [hn]; exact EM.size
        have l12_EY : wY.heap.size ≤ n12 := by rw [hn]; exact EY.size
        have m12_4 : n4 < n12 := by rw [hn]; exact blk_lt q4
        replace q4 := keep_alloc hw q4
        replace E := ext_alloc E hw
        replace ED := ext_alloc ED hw
        replace EG := ext_alloc EG hw
        replace EM := ext_alloc EM hw
        replace EY := ext_alloc EY hw
        have q12 := new_row hw hn
        clear hw hn
        refine sq_to rfl rfl (R_storeRow rfl (F.at rfl) (F.at rfl) (by kernel_rfl) (by first | (simp [Value.oneCell']; done) | (simp [Value.oneCell', id]; done)) q12 rfl) ?_; intro w18 hw
        replace q4 := keep_cells hw q4 (by omega)
        replace q12 := put_row hw q12 rfl
        replace E := ext_cells E hw (fun h => by first | exact absurd h (by omega) | simp)
        replace ED := ext_cells ED hw (fun h => by first | exact absurd h (by omega) | simp)
        replace EG := ext_cells EG hw (fun h => by first | exact absurd h (by omega) | simp)
        replace EM := ext_cells EM hw (fun h => by first | exact absurd h (by omega) | simp)
        replace EY := ext_cells EY hw (fun h => by first | exact absurd h (by omega) | simp)
        clear hw
        refine wpList_nil ?_
        refine hK26 _ _ ?_
        clear hK26
        refine wp_seq_k fun K27 hK27 => ?_
        refine region_x (Ext [n12] w18) none follows fun w19 hh eh => ?_
        have q4_ := q4
        replace q4 := keep_same hh q4
        have q12_ := q12
        replace q12 := keep_same hh q12
        have E_ := E
        have zEw19 := E.size
        replace E := ext_same E eh
        have ED_ := ED
        have zEDw19 := ED.size
        replace ED := ext_same ED eh
        have EG_ := EG
        have zEGw19 := EG.size
        replace EG := ext_same EG eh
        have EM_ := EM
        have zEMw19 := EM.size
        replace EM := ext_same EM eh
        have EY_ := EY
        have zEYw19 := EY.size
        replace EY := ext_same EY eh
        have eT := eh.mono (Y := [n12]) (by simp)
        clear hh eh
        refine F.x (i := 0) rfl (fun w' => R_field rfl (F.at rfl) Try.underlying24 rfl (n := 1) (sz := 1) rfl (by kernel_rfl) (by decide)) (fun _ => eT) ?_; clear F fa; intro fa F
        refine F.xr (i := 1) rfl (fun w' hS => R_load rfl (F.at rfl) Try.underlying22 rfl ((cells_of_block (hS.keep q4_ (by simp; omega)) 1).trans (getS (get0)))) (fun _ => eT) ?_; clear F fa; intro fa F
        refine F.x (i := 2) rfl (fun w' => R_move rfl (F.at rfl)) (fun _ => eT) ?_; clear F fa; intro fa F
        refine F.x (i := 3) rfl (fun w' => (R_sliceH (size := 1) rfl (F.at rfl) (F.at rfl) Try.underlying22 (by kernel_rfl) (by omega))) (fun _ => eT) ?_; clear F fa; intro fa F
        obtain ⟨wC, hwC⟩ : ∃ wC, wC = w19 := ⟨_, rfl⟩
        have EC : Ext [] wC w19 := (by rw [hwC]; exact Ext.refl _ _)
        have hs1 : wD.heap.size ≤ wC.heap.size := (by rw [hwC]; exact ED.size)
        have hs2 : wG.heap.size ≤ wC.heap.size := (by rw [hwC]; exact EG.size)
        have hs3 : wM.heap.size ≤ wC.heap.size := (by rw [hwC]; exact EM.size)
        have hs4 : wY.heap.size ≤ wC.heap.size := (by rw [hwC]; exact EY.size)
        have hs5 : w.heap.size ≤ wC.heap.size := (by rw [hwC]; exact E.size)
        have hs6 := eT.size
        have h12 : n12 < wC.heap.size := (by rw [hwC]; exact blk_lt q12)
        rw [← hwC] at hs6
        refine F.x (i := 5) rfl (fun w' => R_field rfl (F.at rfl) Try.underlying24 rfl (n := 1) (sz := 1) rfl (by kernel_rfl) (by decide)) (fun _ => eT) ?_; clear F fa; intro fa F
        refine F.xr (i := 6) rfl (fun w' hS => R_load rfl (F.at rfl) Try.underlying22 rfl ((cells_of_block (hS.keep q4_ (by simp; omega)) 1).trans (getS (get0)))) (fun _ => eT) ?_; clear F fa; intro fa F
        refine F.x (i := 7) rfl (fun w' => R_move rfl (F.at rfl)) (fun _ => eT) ?_; clear F fa; intro fa F
        refine F.x (i := 8) rfl (fun w' => R_add rfl (F.at rfl) (ev_c fa _) (by omega) (by omega)) (fun _ => eT) ?_; clear F fa; intro fa F
        refine F.x (i := 9) rfl (fun w' => (R_sliceL (size := 1) (m := i + 1) rfl (F.at rfl) (F.at rfl) Try.underlying22 (by kernel_rfl) (by omega))) (fun _ => eT) ?_; clear F fa; intro fa F
        have htk : (x.D.take i).length = i := (by rw [List.length_take]; omega)
        have hcl := copyLists_any (x.D.take i) (by omega) (fun p hp => HV.out.sd.2 p (List.mem_of_mem_take hp)) x.da x.dc w19 (lol_take (HXD.out.ext ED).d i)
        rw [htk] at hcl
        refine ax_only (i := 4) (by kernel_rfl) (op_call F rfl rfl (by decide) rfl (R_callV rfl rfl Try.call27 (mpS (F.at rfl) mp0)) (hcl) fun e w20 hR => ?_)
        obtain ⟨M1, m1, c1, rfl, hM1, oo, fam, e9⟩ := hR
        refine ⟨_, rfl, ?_⟩; clear F fa; intro fa F
        replace q4 := (e9).keep0 q4
        replace q12 := (e9).keep0 q12
        replace E := ext_same E (e9)
        replace ED := ext_same ED (e9)
        replace EG := ext_same EG (e9)
        replace EM := ext_same EM (e9)
        replace EY := ext_same EY (e9)
        replace EC := ext_same EC (e9)
        replace eT := ext_same eT (e9)
        clear e9
        refine ⟨fun _ => eT, ?_⟩
        rw [← hwC] at oo fam
        have hdk : (x.D.drop (i + 1)).length = x.D.length - (i + 1) := List.length_drop
        have hcl2 := copyLists_any (x.D.drop (i + 1)) (by omega) (fun p hp => HV.out.sd.2 p (List.mem_of_mem_drop hp)) (subA x.da (i + 1) x.dc 1) (x.dc - (i + 1)) w20 (lol_drop (HXD.out.ext ED).d hd3.2)
        rw [hdk] at hcl2
        have hflt := Lib.hid (fam_lt fam)
        obtain ⟨B2, hB2⟩ : ∃ B2, B2 = w20.heap.size := ⟨_, rfl⟩
        rw [← hB2] at hflt
        have hCB : wC.heap.size ≤ B2 := (by rw [hB2]; exact EC.size)
        refine ax_only (i := 10) (by kernel_rfl) (op_call F rfl rfl (by decide) rfl (R_callV rfl rfl Try.call27 (mpS (F.at rfl) mp0)) (hcl2) fun e w21 hR => ?_)
        obtain ⟨M2, m2, c2, rfl, hM2, oo2, fam2, e9⟩ := hR
        refine ⟨_, rfl, ?_⟩; clear F fa; intro fa F
        replace oo := owns_ext oo (e9) (by simp)
        replace fam := fam_lift fam fun _ _ _ h => owns_ext h (e9) (by simp)
        replace q4 := (e9).keep0 q4
        replace q12 := (e9).keep0 q12
        replace E := ext_same E (e9)
        replace ED := ext_same ED (e9)
        replace EG := ext_same EG (e9)
        replace EM := ext_same EM (e9)
        replace EY := ext_same EY (e9)
        replace EC := ext_same EC (e9)
        replace eT := ext_same eT (e9)
        clear e9
        refine ⟨fun _ => eT, ?_⟩
        rw [← hB2] at oo2 fam2
        have hC11 := EC.size
        have hl1 : M1.length = i := (by have := congrArg List.length hM1; simp only [List.length_map] at this; omega)
        have hl2 : M2.length = x.D.length - (i + 1) := (by have := congrArg List.length hM2; simp only [List.length_map] at this; omega)
        refine ax_only (i := 11) (by kernel_rfl) (op_some F rfl rfl (by decide) rfl (appends_run rfl (wC.heap.size) (e := 25) (size := 1) (bytes := 24) Try.underlying22 (by kernel_rfl) (by decide) (F.at rfl) oo (F.at rfl) (src_outer oo2 (fam_one fam2)) (by omega) (by omega) (by omega)) ?_); clear F fa; rintro fa v' w22 F ⟨hown', hg⟩
        obtain ⟨va100, vc100, rfl⟩ := owns_slice hown'
        replace q4 := keep_type oo hg q4 (by decide)
        replace q12 := keep_type oo hg q12 (by decide)
        replace fam := fam_lift fam fun _ _ _ h => owns_other h oo hg (by decide)
        replace fam2 := fam_lift fam2 fun _ _ _ h => owns_other h oo hg (by decide)
        replace E := ext_appendX E oo hg (by omega)
        replace ED := ext_appendX ED oo hg (by omega)
        replace EG := ext_appendX EG oo hg (by omega)
        replace EM := ext_appendX EM oo hg (by omega)
        replace EY := ext_appendX EY oo hg (by omega)
        replace EC := ext_appendX EC oo hg (by omega)
        replace eT := ext_appendX eT oo hg (by omega)
        replace oo := hown'
        clear hg
        refine ⟨fun _ => eT, ?_⟩
        rw [show M1.map (·.1) ++ M2.map (·.1) = (M1 ++ M2).map (·.1) from List.map_append.symm, show M1.length + M2.length = (M1 ++ M2).length from List.length_append.symm] at oo
        rw [show M1.length + M2.length = (M1 ++ M2).length from List.length_append.symm] at F
        refine F.x (i := 12) rfl (fun w' => R_field rfl (F.at rfl) Try.underlying24 rfl (n := 1) (sz := 1) rfl (by kernel_rfl) (by decide)) (fun _ => eT) ?_; clear F fa; intro fa F
        refine ax_only (i := 13) (by kernel_rfl) (op_to rfl rfl rfl (R_store rfl (F.at rfl) (F.at rfl) rfl (by kernel_rfl) ((cells_of_block q12 1).trans (getS (get0))) (free_of_block q12 1)) ?_); intro w23 hw
        replace oo := owns_cellX hw oo (own_ne_type oo q12 (by decide))
        replace fam := fam_lift fam fun _ _ _ h => owns_cellX hw h (own_ne_type h q12 (by decide))
        replace fam2 := fam_lift fam2 fun _ _ _ h => owns_cellX hw h (own_ne_type h q12 (by decide))
        replace q4 := keep_cell hw q4 (by omega)
        replace q12 := put_cell hw q12 (by simp only [List.setIfInBounds_toArray, List.set_cons_succ, List.set_cons_zero]; exact rfl)
        replace E := ext_cell E hw (fun h => by first | exact absurd h (by omega) | simp)
        replace ED := ext_cell ED hw (fun h => by first | exact absurd h (by omega) | simp)
        replace EG := ext_cell EG hw (fun h => by first | exact absurd h (by omega) | simp)
        replace EM := ext_cell EM hw (fun h => by first | exact absurd h (by omega) | simp)
        replace EY := ext_cell EY hw (fun h => by first | exact absurd h (by omega) | simp)
        replace eT := ext_cell eT hw (fun h => by first | exact absurd h (by omega) | simp)
        clear hw
        refine ⟨fun _ => eT, ?_⟩
        refine ax_done (by kernel_rfl) ?_ _
        clear eT q4_ q12_ E_ ED_ EG_ EM_ EY_
        have HZD := Lib.hid (lol_of_own oo (fam_perm (fam_join (b1 := B2) fam2 fam hflt.out hCB) (M := M1 ++ M2) List.perm_append_comm))
        obtain ⟨wZ, hwZ⟩ : ∃ wZ, wZ = w23 := ⟨_, rfl⟩
        have EZ : Ext [] wZ w23 := by rw [hwZ]; exact Ext.refl _ _
        rw [← hwZ] at HZD
        clear oo fam fam2 hflt
        have HZ : RowKit.Hid (DropV ({ B := y.B, D := M1 ++ M2, da := va100, dc := vc100, L := y.L, la := y.la, lc := y.lc, tol := y.tol } : Vm) x i) := Lib.hid ⟨hyB, hyt, hyL, (by show (M1 ++ M2).map (·.2) = outL (x.D.map (·.2)) i; rw [List.map_append, hM1, hM2, outL, List.map_take, List.map_drop]), hid, by omega⟩
        refine hK27 _ _ ?_
        clear hK27
        refine wp_seq_k fun K28 hK28 => ?_
        refine wp_region_lit ?_
        refine F.vl (R_loadBlk rfl (F.at rfl) Try.underlying24 rfl (by kernel_rfl) q12) ?_; clear F fa; intro fa F
        refine F.mv ?_; clear F fa; intro fa F
        refine F.mv ?_; clear F fa; intro fa F
        refine sq_call F rfl (by decide) rfl (R_callV rfl rfl Try.call37 (mpS (F.at rfl) (mpS (F.at rfl) (mpS (F.at rfl) mp0)))) (xRecipes_ok ({ B := y.B, D := M1 ++ M2, da := va100, dc := vc100, L := y.L, la := y.la, lc := y.lc, tol := y.tol } : Vm) (HZ.out.ok HV.out) s (HZ.out.smp HSO.out) ls (HZ.out.lmp HLO.out) (by omega) sa la sc lc _ (⟨HZD.out.ext EZ, HYA.out.ext EY⟩) (HSR.out.ext ED (by simp)) (HLR.out.ext ED (by simp))) fun e w24 hR => ?_
        obtain ⟨Mz, mbz, mcz, rfl, hMz, om, fam, e9⟩ := hR
        refine ⟨_, rfl, ?_⟩; clear F fa; intro fa F
        replace q4 := (e9).keep0 q4
        replace q12 := (e9).keep0 q12
        replace E := ext_same E (e9)
        replace ED := ext_same ED (e9)
        replace EG := ext_same EG (e9)
        replace EM := ext_same EM (e9)
        replace EY := ext_same EY (e9)
        replace EZ := ext_same EZ (e9)
        clear e9
        have HMz := Lib.hid (lol_of_own om fam)
        have HMSz := Lib.hid (lol_of_own om fam).1
        obtain ⟨wMz, hwMz⟩ : ∃ wM, wM = w24 := ⟨_, rfl⟩
        have EMz : Ext [] wMz w24 := by rw [hwMz]; exact Ext.refl _ _
        rw [← hwMz] at HMz HMSz
        clear om fam
        have hMlz : Mz.length ≤ 500 := by rw [← List.length_map (f := fun p : Value × List Int => p.2), hMz]; exact mat_len (HZ.out.ok HV.out)
        refine F.mv ?_; clear F fa; intro fa F
        refine F.vl (R_extract rfl (F.at rfl) (get0)) ?_; clear F fa; intro fa F
        refine F.vl (R_extract rfl (F.at rfl) (getS (get0))) ?_; clear F fa; intro fa F
        refine F.as ?_; clear F fa; intro fa F
        refine F.as ?_; clear F fa; intro fa F
        refine wpList_nil ?_
        refine hK28 _ _ ?_
        clear hK28
        refine wp_seq_k fun K29 hK29 => ?_
        have hgl4 : g.1.length ≤ 4 := (by rw [hge]; exact Nat.le_trans (spaT_len _ _) hd4)
        have hiff : (0 < ((Mz.length : Nat) : Int)) ↔ (0 ≤ atI g.1 ((i : Nat) : Int)) := (by rw [MI.atI_mem, hge]; show _ ↔ _ ∈ spaT (gB x.D.length L) x.D.length; rw [spa_mem hid, hLd, ← HZ.out.iff hd4 (val s) ls, ← hMz]; constructor; (· intro h e; have := congrArg List.length e; simp at this; rw [this] at h; simp at h); (· intro h; rcases Nat.eq_zero_or_pos Mz.length with e | e; (· exact absurd (by rw [List.length_eq_zero_iff.1 e]; rfl) h); omega))
        refine wp_region_lit ?_
        refine F.mv ?_; clear F fa; intro fa F
        refine F.vl (R_neqB (b := false) rfl (F.at rfl) (ev_c fa _) (decide_eq_true (by omega))) ?_; clear F fa; intro fa F
        refine F.mv ?_; clear F fa; intro fa F
        refine F.mv ?_ (hw := (wantT F rfl rfl (by decide) rfl)); clear F fa; intro fa F
        refine F.vl (R_len rfl rfl (F.at rfl) Try.underlying22) ?_ (hw := (wantT F rfl rfl (by decide) rfl)); clear F fa; intro fa F
        refine F.vl (R_gtr rfl (F.at rfl) (ev_c fa _)) ?_ (hw := (wantT F rfl rfl (by decide) rfl)); clear F fa; intro fa F
        refine F.mv ?_ (hw := (wantT F rfl rfl (by decide) rfl)); clear F fa; intro fa F
        refine F.mv ?_ (hw := (wantT F rfl rfl (by decide) rfl)); clear F fa; intro fa F
        refine sq_call F rfl (by decide) (wantT F rfl rfl (by decide) rfl) (R_callV rfl rfl Try.call43 (mpS (F.at rfl) (mpS (F.at rfl) mp0))) (at_any g.1 ((i : Nat) : Int) ga gc _ (HG.out.ext EG (by simp)) (by omega)) fun e w25 hR => ?_
        obtain ⟨rfl, e9⟩ := hR
        refine ⟨_, rfl, ?_⟩; clear F fa; intro fa F
        replace q4 := (e9).keep0 q4
        replace q12 := (e9).keep0 q12
        replace E := ext_same E (e9)
        replace ED := ext_same ED (e9)
        replace EG := ext_same EG (e9)
        replace EM := ext_same EM (e9)
        replace EY := ext_same EY (e9)
        replace EZ := ext_same EZ (e9)
        replace EMz := ext_same EMz (e9)
        clear e9
        refine F.vl (R_geq rfl (F.at rfl) (ev_c fa _)) ?_ (hw := (wantT F rfl rfl (by decide) rfl)); clear F fa; intro fa F
        refine F.vl ((R_neqBl rfl (F.at rfl) (F.at rfl) Try.underlying4 (b := false) (by simp only [bne_eq_false_iff_eq, decide_eq_decide]; exact hiff))) ?_ (hw := (wantT F rfl rfl (by decide) rfl)); clear F fa; intro fa F
        refine F.vl (R_pickF rfl (F.at rfl) (F.at rfl)) ?_; clear F fa; intro fa F
        refine wpList_nil ?_
        refine hK29 _ _ ?_
        clear hK29
        refine cd_F F rfl ?_
        refine wp_skip ?_
        refine hK25 _ _ ?_
        clear hK25
        refine wp_region_lit ?_
        refine F.mv ?_; clear F fa; intro fa F
        refine F.vl (R_add rfl (F.at rfl) (ev_c fa _) (by omega) (by omega)) ?_; clear F fa; intro fa F
        refine F.as ?_; clear F fa; intro fa F
        refine wpList_nil ?_
        show _ ∧ _
        exact ⟨by omega, _, ⟨rfl, E, ED, EG, EM, q4⟩, F.sub (.c 11 rfl (.c 4 rfl (.c 5 rfl (.c 6 rfl (.c 7 rfl (.c 8 rfl .n))))))⟩
      · skip
        refine wp_region_lit ?_
        refine F.mv ?_; clear F fa; intro fa F
        refine F.vl (R_field rfl (F.at rfl) Try.underlying24 rfl (n := 1) (sz := 1) rfl (by kernel_rfl) (by decide)) ?_; clear F fa; intro fa F
        refine F.vl (R_load rfl (F.at rfl) Try.underlying22 rfl ((cells_of_block q4 1).trans (getS (get0)))) ?_; clear F fa; intro fa F
        refine F.vl (R_len rfl rfl (F.at rfl) Try.underlying22) ?_; clear F fa; intro fa F
        refine F.vl (R_lssB (b := false) rfl (F.at rfl) (F.at rfl) (decide_eq_false (by omega))) ?_; clear F fa; intro fa F
        refine F.mv ?_; clear F fa; intro fa F
        refine sq_no F rfl (by decide) (wantF F rfl rfl (by decide) rfl (by decide)) ?_; clear F fa; intro fa F
        refine sq_no F rfl (by decide) (wantF F rfl rfl (by decide) rfl (by decide)) ?_; clear F fa; intro fa F
        refine F.vl (R_pickF rfl (F.at rfl) (ev_c fa _)) ?_; clear F fa; intro fa F
        refine wpList_nil ?_
        refine hK24 _ _ ?_
        clear hK24
        refine cd_F F rfl ?_
        refine wp_exit ?_
        refine hK21 _ _ ?_
        clear hK21
        refine wp_seq_k fun K30 hK30 => ?_
        refine wp_region_lit ?_
        refine sq_call F rfl (by decide) rfl (R_callV rfl rfl Try.call12 mp0) (dyed_any _) fun e w26 hR => ?_
        obtain ⟨rfl, e9⟩ := hR
        refine ⟨_, rfl, ?_⟩; clear F fa; intro fa F
        replace q4 := (e9).keep0 q4
        replace E := ext_same E (e9)
        replace ED := ext_same ED (e9)
        replace EG := ext_same EG (e9)
        replace EM := ext_same EM (e9)
        clear e9
        refine F.as ?_; clear F fa; intro fa F
        refine wpList_nil ?_
        refine hK30 _ _ ?_
        clear hK30
        refine wp_ret ?_
        (try simp only [Exit.inBlock, Exit.then, reduceIte])
        refine rt_v F (rs_1 F rfl rfl) ?_
        exact ⟨rfl, E⟩
end Go.Proofs.Ytdjeecgddbjbeaa
