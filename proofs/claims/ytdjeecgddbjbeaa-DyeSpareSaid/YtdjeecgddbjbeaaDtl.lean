/- The program's Telling. Conditions: all arguments are valid. -/
import Derived.Test.YtdjeecgddbjbeaaDfw
namespace Go.Proofs.Ytdjeecgddbjbeaa
open Go.RowKit
set_option linter.unusedVariables false
set_option linter.unusedSimpArgs false
/-- What nearest holds: a number, what it costs, whether there is one. -/
def nearIC (v a b : Int) (s : Bool) : Array Value := #[.int .i64 v, .int .i64 a, .int .i64 b, .bool s]
set_option maxRecDepth 100000 in
theorem offerI_new (nb : Nat) (v c d u a b : Int) (w : World) (hq : w.heap[nb]? = some (.cells (nearIC v c d false) 124 (0, 0))) :
    Calls Try.prog 96 #[.pointer (some ⟨nb, 0, none⟩), .int .i64 u, .agg #[.int .i64 a, .int .i64 b]] w fun e w' => e = .returned (.tuple #[]) ∧ w'.heap[nb]? = some (.cells (nearIC u a b true) 124 (0, 0)) ∧ Ext [nb] w w' := by
  have E : Ext [nb] w w := Ext.refl _ _
  have qn : w.heap[nb]? = some (.cells #[.int .i64 v, .int .i64 c, .int .i64 d, .bool false] 124 (0, 0)) := hq
  clear hq
  refine calls_has 31 Try.func96 rfl Try.ntmps96 (Nat.le_of_ble_eq_true rfl) ?_
  intro fa F
  refine wp_seq_k fun K1 hK1 => ?_
  refine wp_region_lit ?_
  refine sq_new F rfl (by decide) rfl (R_box rfl (F.at rfl)) ?_; clear F fa; intro fa w1 F hw
  obtain ⟨n5, hn⟩ : ∃ n, n = w.heap.size := ⟨_, rfl⟩
  rw [← hn] at F
  have s5 : w.heap.size ≤ n5 := Nat.le_of_eq hn.symm
  have l5_E : w.heap.size ≤ n5 := by rw [hn]; exact E.size
  have m5_n : nb < n5 := by rw [hn]; exact blk_lt qn
  replace qn := keep_alloc hw qn
  replace E := ext_alloc E hw
  have q5 := new_row hw hn
  clear hw hn
  refine wpList_nil ?_
  refine hK1 _ _ ?_
  clear hK1
  refine wp_seq_k fun K2 hK2 => ?_
  refine wp_region_st 11 follows (by kernel_rfl) fun w2 hh eh => ?_
  replace qn := keep_same hh qn
  replace q5 := keep_same hh q5
  replace E := ext_same E eh
  clear hh eh
  refine F.smv ?_; clear F fa; intro fa F
  refine F.sv (R_nilCheck rfl (F.at rfl)) ?_; clear F fa; intro fa F
  refine F.sv (R_field rfl (F.at rfl) Try.underlying124 rfl (n := 3) (sz := 1) rfl (by kernel_rfl) (by decide)) ?_; clear F fa; intro fa F
  refine F.sv (R_load rfl (F.at rfl) Try.underlying4 rfl ((cells_of_block qn 3).trans (getS (getS (getS (get0)))))) ?_; clear F fa; intro fa F
  refine F.sv (R_not rfl (F.at rfl)) ?_; clear F fa; intro fa F
  refine F.smv ?_; clear F fa; intro fa F
  refine st_no F rfl (by decide) (wantF F rfl rfl (by decide) rfl (by decide)) ?_; clear F fa; intro fa F
  refine st_no F rfl (by decide) (wantF F rfl rfl (by decide) rfl (by decide)) ?_; clear F fa; intro fa F
  refine st_no F rfl (by decide) (wantF F rfl rfl (by decide) rfl (by decide)) ?_; clear F fa; intro fa F
  refine st_no F rfl (by decide) (wantF F rfl rfl (by decide) rfl (by decide)) ?_; clear F fa; intro fa F
  refine st_no F rfl (by decide) (wantF F rfl rfl (by decide) rfl (by decide)) ?_; clear F fa; intro fa F
  refine wpStill_nil ?_
  refine sq_no F rfl (by decide) (wantF F rfl rfl (by decide) rfl (by decide)) ?_; clear F fa; intro fa F
  refine sq_no F rfl (by decide) (wantF F rfl rfl (by decide) rfl (by decide)) ?_; clear F fa; intro fa F
  refine F.vl (R_pickT rfl (F.at rfl) (ev_c fa _)) ?_; clear F fa; intro fa F
  refine wpList_nil ?_
  refine hK2 _ _ ?_
  clear hK2
  refine cd_T F rfl ?_
  refine wp_region_lit ?_
  refine F.mv ?_; clear F fa; intro fa F
  refine F.mv ?_; clear F fa; intro fa F
  refine F.mv ?_; clear F fa; intro fa F
  refine F.mv ?_; clear F fa; intro fa F
  refine F.vl (R_loadBlk rfl (F.at rfl) Try.underlying86 rfl (by kernel_rfl) q5) ?_; clear F fa; intro fa F
  refine F.vl (R_nilCheck rfl (F.at rfl)) ?_; clear F fa; intro fa F
  refine F.vl (R_field rfl (F.at rfl) Try.underlying124 rfl (n := 0) (sz := 1) rfl (by kernel_rfl) (by decide)) ?_; clear F fa; intro fa F
  refine sq_to rfl rfl (R_store rfl (F.at rfl) (F.at rfl) rfl (by kernel_rfl) ((cells_of_block qn 0).trans (get0)) (free_of_block qn 0)) ?_; intro w3 hw
  replace qn := put_cell hw qn (by simp only [List.setIfInBounds_toArray, List.set_cons_succ, List.set_cons_zero]; exact rfl)
  replace q5 := keep_cell hw q5 (by omega)
  replace E := ext_cell E hw (fun h => by first | exact absurd h (by omega) | simp)
  clear hw
  refine F.vl (R_nilCheck rfl (F.at rfl)) ?_; clear F fa; intro fa F
  refine F.vl (R_field rfl (F.at rfl) Try.underlying124 rfl (n := 1) (sz := 2) rfl (by kernel_rfl) (by decide)) ?_; clear F fa; intro fa F
  refine sq_to rfl rfl (R_storeMid rfl (F.at rfl) (F.at rfl) (by kernel_rfl) (by simp [Value.oneCell']) qn (by simp)) ?_; intro w4 hw
  replace qn := put_mid2 hw qn (by simp only [List.setIfInBounds_toArray, List.set_cons_succ, List.set_cons_zero]; exact rfl)
  replace q5 := keep_cells hw q5 (by omega)
  replace E := ext_cells E hw (fun h => by first | exact absurd h (by omega) | simp)
  clear hw
  refine F.vl (R_nilCheck rfl (F.at rfl)) ?_; clear F fa; intro fa F
  refine F.vl (R_field rfl (F.at rfl) Try.underlying124 rfl (n := 3) (sz := 1) rfl (by kernel_rfl) (by decide)) ?_; clear F fa; intro fa F
  refine sq_to rfl rfl (R_store rfl (F.at rfl) (ev_c fa _) rfl (by kernel_rfl) ((cells_of_block qn 3).trans (getS (getS (getS (get0))))) (free_of_block qn 3)) ?_; intro w5 hw
  replace qn := put_cell hw qn (by simp only [List.setIfInBounds_toArray, List.set_cons_succ, List.set_cons_zero]; exact rfl)
  replace q5 := keep_cell hw q5 (by omega)
  replace E := ext_cell E hw (fun h => by first | exact absurd h (by omega) | simp)
  clear hw
  refine wpList_nil ?_
  (try simp only [Exit.inBlock, Exit.then, reduceIte])
  refine rt_vn F (rs_0 rfl) ?_
  exact ⟨rfl, qn, E⟩
set_option maxRecDepth 100000 in
theorem offerI_old (nb : Nat) (v c d u a b : Int) (w : World) (hq : w.heap[nb]? = some (.cells (nearIC v c d true) 124 (0, 0))) :
    Calls Try.prog 96 #[.pointer (some ⟨nb, 0, none⟩), .int .i64 u, .agg #[.int .i64 a, .int .i64 b]] w fun e w' => e = .returned (.tuple #[]) ∧ w'.heap[nb]? = some (.cells (if cmpL [a, b] [c, d] < 0 then nearIC u a b true else nearIC v c d true) 124 (0, 0)) ∧ Ext [nb] w w' := by
  have E : Ext [nb] w w := Ext.refl _ _
  have qn : w.heap[nb]? = some (.cells #[.int .i64 v, .int .i64 c, .int .i64 d, .bool true] 124 (0, 0)) := hq
  clear hq
  refine calls_has 31 Try.func96 rfl Try.ntmps96 (Nat.le_of_ble_eq_true rfl) ?_
  intro fa F
  refine wp_seq_k fun K1 hK1 => ?_
  refine wp_region_lit ?_
  refine sq_new F rfl (by decide) rfl (R_box rfl (F.at rfl)) ?_; clear F fa; intro fa w1 F hw
  obtain ⟨n5, hn⟩ : ∃ n, n = w.heap.size := ⟨_, rfl⟩
  rw [← hn] at F
  have s5 : w.heap.size ≤ n5 := Nat.le_of_eq hn.symm
  have l5_E : w.heap.size ≤ n5 := by rw [hn]; exact E.size
  have m5_n : nb < n5 := by rw [hn]; exact blk_lt qn
  replace qn := keep_alloc hw qn
  replace E := ext_alloc E hw
  have q5 := new_row hw hn
  clear hw hn
  refine wpList_nil ?_
  refine hK1 _ _ ?_
  clear hK1
  refine wp_seq_k fun K2 hK2 => ?_
  refine wp_region_st 11 follows (by kernel_rfl) fun w2 hh eh => ?_
  replace qn := keep_same hh qn
  replace q5 := keep_same hh q5
  replace E := ext_same E eh
  clear hh eh
  refine F.smv ?_; clear F fa; intro fa F
  refine F.sv (R_nilCheck rfl (F.at rfl)) ?_; clear F fa; intro fa F
  refine F.sv (R_field rfl (F.at rfl) Try.underlying124 rfl (n := 3) (sz := 1) rfl (by kernel_rfl) (by decide)) ?_; clear F fa; intro fa F
  refine F.sv (R_load rfl (F.at rfl) Try.underlying4 rfl ((cells_of_block qn 3).trans (getS (getS (getS (get0)))))) ?_; clear F fa; intro fa F
  refine F.sv (R_not rfl (F.at rfl)) ?_; clear F fa; intro fa F
  refine F.smv ?_; clear F fa; intro fa F
  refine F.sv ((R_sliceAll (n := 2) rfl (F.at rfl) (by kernel_rfl) (by kernel_rfl) (by kernel_rfl))) ?_ (hw := (wantT F rfl rfl (by decide) rfl)); clear F fa; intro fa F
  refine F.smv ?_ (hw := (wantT F rfl rfl (by decide) rfl)); clear F fa; intro fa F
  refine F.sv (R_nilCheck rfl (F.at rfl)) ?_ (hw := (wantT F rfl rfl (by decide) rfl)); clear F fa; intro fa F
  refine F.sv (R_field rfl (F.at rfl) Try.underlying124 rfl (n := 1) (sz := 2) rfl (by kernel_rfl) (by decide)) ?_ (hw := (wantT F rfl rfl (by decide) rfl)); clear F fa; intro fa F
  refine F.sv ((R_sliceOff (n := 2) rfl (F.at rfl) (by kernel_rfl) (by kernel_rfl) (by kernel_rfl))) ?_ (hw := (wantT F rfl rfl (by decide) rfl)); clear F fa; intro fa F
  refine wpStill_nil ?_
  refine sq_call F rfl (by decide) (wantT F rfl rfl (by decide) rfl) (R_callV rfl rfl Try.call77 (mpS (F.at rfl) (mpS (F.at rfl) mp0))) (compare_any [a, b] [c, d] (some ⟨n5, 0, none⟩) (some ⟨nb, 1, none⟩) 2 2 _ (rows_lit [a, b] 2 q5) (rows_mid [c, d] 2 qn (fun j hj => by rcases j with _ | _ | j; (· rfl); (· rfl); (· simp at hj; omega))) (by simp) (by simp)) fun e w3 hR => ?_
  obtain ⟨rfl, e9⟩ := hR
  refine ⟨_, rfl, ?_⟩; clear F fa; intro fa F
  replace qn := (e9).keep0 qn
  replace q5 := (e9).keep0 q5
  replace E := ext_same E (e9)
  clear e9
  refine F.vl (R_lss rfl (F.at rfl) (ev_c fa _)) ?_ (hw := (wantT F rfl rfl (by decide) rfl)); clear F fa; intro fa F
  refine F.vl (R_pickF rfl (F.at rfl) (F.at rfl)) ?_; clear F fa; intro fa F
  refine wpList_nil ?_
  refine hK2 _ _ ?_
  clear hK2
  refine cd_if F rfl (fun hc19 => ?_) (fun hc19 => ?_)
  · skip
    refine wp_region_lit ?_
    refine F.mv ?_; clear F fa; intro fa F
    refine F.mv ?_; clear F fa; intro fa F
    refine F.mv ?_; clear F fa; intro fa F
    refine F.mv ?_; clear F fa; intro fa F
    refine F.vl (R_loadBlk rfl (F.at rfl) Try.underlying86 rfl (by kernel_rfl) q5) ?_; clear F fa; intro fa F
    refine F.vl (R_nilCheck rfl (F.at rfl)) ?_; clear F fa; intro fa F
    refine F.vl (R_field rfl (F.at rfl) Try.underlying124 rfl (n := 0) (sz := 1) rfl (by kernel_rfl) (by decide)) ?_; clear F fa; intro fa F
    refine sq_to rfl rfl (R_store rfl (F.at rfl) (F.at rfl) rfl (by kernel_rfl) ((cells_of_block qn 0).trans (get0)) (free_of_block qn 0)) ?_; intro w4 hw
    replace qn := put_cell hw qn (by simp only [List.setIfInBounds_toArray, List.set_cons_succ, List.set_cons_zero]; exact rfl)
    replace q5 := keep_cell hw q5 (by omega)
    replace E := ext_cell E hw (fun h => by first | exact absurd h (by omega) | simp)
    clear hw
    refine F.vl (R_nilCheck rfl (F.at rfl)) ?_; clear F fa; intro fa F
    refine F.vl (R_field rfl (F.at rfl) Try.underlying124 rfl (n := 1) (sz := 2) rfl (by kernel_rfl) (by decide)) ?_; clear F fa; intro fa F
    refine sq_to rfl rfl (R_storeMid rfl (F.at rfl) (F.at rfl) (by kernel_rfl) (by simp [Value.oneCell']) qn (by simp)) ?_; intro w5 hw
    replace qn := put_mid2 hw qn (by simp only [List.setIfInBounds_toArray, List.set_cons_succ, List.set_cons_zero]; exact rfl)
    replace q5 := keep_cells hw q5 (by omega)
    replace E := ext_cells E hw (fun h => by first | exact absurd h (by omega) | simp)
    clear hw
    refine F.vl (R_nilCheck rfl (F.at rfl)) ?_; clear F fa; intro fa F
    refine F.vl (R_field rfl (F.at rfl) Try.underlying124 rfl (n := 3) (sz := 1) rfl (by kernel_rfl) (by decide)) ?_; clear F fa; intro fa F
    refine sq_to rfl rfl (R_store rfl (F.at rfl) (ev_c fa _) rfl (by kernel_rfl) ((cells_of_block qn 3).trans (getS (getS (getS (get0))))) (free_of_block qn 3)) ?_; intro w6 hw
    replace qn := put_cell hw qn (by simp only [List.setIfInBounds_toArray, List.set_cons_succ, List.set_cons_zero]; exact rfl)
    replace q5 := keep_cell hw q5 (by omega)
    replace E := ext_cell E hw (fun h => by first | exact absurd h (by omega) | simp)
    clear hw
    refine wpList_nil ?_
    (try simp only [Exit.inBlock, Exit.then, reduceIte])
    refine rt_vn F (rs_0 rfl) ?_
    exact ⟨rfl, (by rw [if_pos hc19]; exact qn), E⟩
  · skip
    refine wp_skip ?_
    (try simp only [Exit.inBlock, Exit.then, reduceIte])
    refine rt_vn F (rs_0 rfl) ?_
    exact ⟨rfl, (by rw [if_neg hc19]; exact qn), E⟩
def nearOI (c : Nat → Int × Int) : Option Nat → Array Value
  | none => nearIC 0 0 0 false
  | some n => nearIC ((n : Nat) : Int) (c n).1 (c n).2 true
theorem offerI_any (c : Nat → Int × Int) (nb : Nat) (o : Option Nat) (n : Nat) (w : World) (hq : w.heap[nb]? = some (.cells (nearOI c o) 124 (0, 0))) :
    Calls Try.prog 96 #[.pointer (some ⟨nb, 0, none⟩), .int .i64 ((n : Nat) : Int), .agg #[.int .i64 (c n).1, .int .i64 (c n).2]] w fun e w' => e = .returned (.tuple #[]) ∧ w'.heap[nb]? = some (.cells (nearOI c (offO c o n)) 124 (0, 0)) ∧ Ext [nb] w w' := by
  cases o with
  | none => exact offerI_new nb 0 0 0 ((n : Nat) : Int) (c n).1 (c n).2 w hq
  | some u =>
    refine Calls.mono (offerI_old nb ((u : Nat) : Int) (c u).1 (c u).2 ((n : Nat) : Int) (c n).1 (c n).2 w hq) ?_
    rintro e w' ⟨h1, h2, h3⟩
    refine ⟨h1, ?_, h3⟩
    rw [h2, offO]
    split <;> rfl
theorem take_range {n i : Nat} (h : i < n) : (List.range n).take (i + 1) = (List.range n).take i ++ [i] := by
  rw [take_getD (List.range n) 0 (by rw [List.length_range]; exact h)]; simp [h]
def bI (b : Bool) : Int := if b = true then 1 else 0
def rowU (p : Nat → Bool) : Nat → Int
  | 0 => 0
  | k + 1 => rowU p k + bI (p k)
def triU (p : Nat → Nat → Bool) : Nat → Int
  | 0 => 0
  | j + 1 => triU p j + rowU (p j) j
theorem bI_bd (b : Bool) : 0 ≤ bI b ∧ bI b ≤ 1 := by cases b <;> simp [bI]
theorem rowU_bd (p : Nat → Bool) : ∀ k, 0 ≤ rowU p k ∧ rowU p k ≤ k
  | 0 => by simp [rowU]
  | k + 1 => by have := rowU_bd p k; have := bI_bd (p k); rw [rowU]; omega
theorem triU_bd (p : Nat → Nat → Bool) : ∀ j, j ≤ 6 → 0 ≤ triU p j ∧ triU p j ≤ 6 * j
  | 0, _ => by simp [triU]
  | j + 1, h => by have := triU_bd p j (by omega); have := rowU_bd (p j) j; rw [triU]; omega
/-- Two stuffs do not match under a lamp. -/
def unP (x : Vm) (n : Nat) (T : List (List Int)) (j k : Nat) : Bool := !alkE x n (val (T.getD j [])) (val (T.getD k []))
/-- The pairs that a lamp tells apart. -/
def unN (x : Vm) (T : List (List Int)) (n : Nat) : Int := triU (unP x n T) T.length
def cT (x : Vm) (T : List (List Int)) (n : Nat) : Int × Int := (-unN x T n, 0)
def telR (x : Vm) (T : List (List Int)) : Int × Int × Int := match pickO (cT x T) (List.range x.L.length) with
  | none => (0, 0, 11)
  | some n => if unN x T n = 0 then (0, 0, 11) else ((n : Nat), unN x T n, 0)
set_option maxRecDepth 100000 in
set_option maxHeartbeats 2000000 in
theorem xTelling_ok (x : Vm) (hv : VOk x) (S : List (Value × List Int)) (hs : ∀ p ∈ S, RcpOk x p.2) (h6 : S.length ≤ 6) (a : Option Addr) (c : Nat) (w : World) (h : x.At w) (hl : LolAt w a S) :
    Calls Try.prog 47 #[.agg #[.int .i64 x.B, .slice x.da x.D.length x.dc, .slice x.la x.L.length x.lc, .int .i64 x.tol], .slice a S.length c] w fun e w' => e = .returned (.tuple #[.int .i64 (telR x (S.map (·.2))).1, .int .i64 (telR x (S.map (·.2))).2.1, .int .i64 (telR x (S.map (·.2))).2.2]) ∧ Ext [] w w' := by
  have E : Ext [] w w := Ext.refl _ _
  have HX := Lib.hid h
  have HV := Lib.hid hv
  have HL := Lib.hid hl
  have HS := Lib.hid hs
  have hl3 := hv.l3
  obtain ⟨T, hT⟩ : ∃ T, T = S.map (·.2) := ⟨_, rfl⟩
  have hTl : T.length = S.length := by rw [hT, List.length_map]
  have HM : RowKit.Hid (∀ t ∈ T, TubS (val t)) := Lib.hid (fun t ht => by
    rw [hT] at ht
    obtain ⟨p, hp, rfl⟩ := List.mem_map.1 ht
    exact (hs p hp).tub)
  clear h hv hl hs
  refine calls_hasM 67 Try.func47 rfl Try.ntmps47 (Nat.le_of_ble_eq_true rfl) ?_
  intro fa F
  refine wp_seq_k fun K1 hK1 => ?_
  refine wp_region_lit ?_
  refine sq_new F rfl (by decide) rfl (R_box rfl (F.at rfl)) ?_; clear F fa; intro fa w1 F hw
  obtain ⟨n2, hn⟩ : ∃ n, n = w.heap.size := ⟨_, rfl⟩
  rw [← hn] at F
  have s2 : w.heap.size ≤ n2 := Nat.le_of_eq hn.symm
  have l2_E : w.heap.size ≤ n2 := by rw [hn]; exact E.size
  replace E := ext_alloc E hw
  have q2 := new_row hw hn
  clear hw hn
  refine F.vl (R_assign rfl (ev_c fa _)) ?_; clear F fa; intro fa F
  refine F.vl (R_assign rfl (ev_c fa _)) ?_; clear F fa; intro fa F
  refine sq_new F rfl (by decide) rfl (R_alloc rfl Try.zeroValue35) ?_; clear F fa; intro fa w2 F hw
  obtain ⟨n6, hn⟩ : ∃ n, n = w1.heap.size := ⟨_, rfl⟩
  rw [← hn] at F
  have s6 : w1.heap.size ≤ n6 := Nat.le_of_eq hn.symm
  have l6_E : w.heap.size ≤ n6 := by rw [hn]; exact E.size
  have m6_2 : n2 < n6 := by rw [hn]; exact blk_lt q2
  replace q2 := keep_alloc hw q2
  replace E := ext_alloc E hw
  have q6 := new_one hw rfl hn
  clear hw hn
  refine wpList_nil ?_
  refine hK1 _ _ ?_
  clear hK1
  refine wp_seq_k fun K2 hK2 => ?_
  refine wp_region_lit ?_
  refine sq_defer F rfl rfl (R_defer rfl rfl (mpS (F.at rfl) mp0)) ?_; clear F fa; intro fa F
  refine wpList_nil ?_
  refine hK2 _ _ ?_
  clear hK2
  refine wp_seq_k fun K3 hK3 => ?_
  refine wp_region_lit ?_
  refine F.vl (R_loadBlk rfl (F.at rfl) Try.underlying24 rfl (by kernel_rfl) q2) ?_; clear F fa; intro fa F
  refine sq_call F rfl (by decide) rfl (R_callV rfl rfl Try.call54 (mpS (F.at rfl) mp0)) (begin_ok x HV.out _ (HX.out.ext E)) fun e w3 hR => ?_
  obtain ⟨rfl, e9⟩ := hR
  refine ⟨_, rfl, ?_⟩; clear F fa; intro fa F
  replace q2 := (e9).keep0 q2
  replace q6 := (e9).keep0 q6
  replace E := ext_same E (e9)
  clear e9
  refine sq_new F rfl (by decide) rfl (R_alloc rfl Try.zeroValue80) ?_; clear F fa; intro fa w4 F hw
  obtain ⟨n7, hn⟩ : ∃ n, n = w3.heap.size := ⟨_, rfl⟩
  rw [← hn] at F
  have s7 : w3.heap.size ≤ n7 := Nat.le_of_eq hn.symm
  have l7_E : w.heap.size ≤ n7 := by rw [hn]; exact E.size
  have m7_2 : n2 < n7 := by rw [hn]; exact blk_lt q2
  have m7_6 : n6 < n7 := by rw [hn]; exact blk_lt q6
  replace q2 := keep_alloc hw q2
  replace q6 := keep_alloc hw q6
  replace E := ext_alloc E hw
  have q7 := new_row hw hn
  clear hw hn
  refine sq_to rfl rfl (R_storeRow rfl (F.at rfl) (F.at rfl) (by kernel_rfl) (by first | (simp [Value.oneCell']; done) | (simp [Value.oneCell', id]; done)) q7 rfl) ?_; intro w5 hw
  replace q2 := keep_cells hw q2 (by omega)
  replace q6 := keep_cells hw q6 (by omega)
  replace q7 := put_row hw q7 rfl
  replace E := ext_cells E hw (fun h => by first | exact absurd h (by omega) | simp)
  clear hw
  refine wpList_nil ?_
  refine hK3 _ _ ?_
  clear hK3
  refine wp_seq_k fun K4 hK4 => ?_
  refine wp_region_lit ?_
  refine F.vl (R_loadBlk rfl (F.at rfl) Try.underlying80 rfl (by kernel_rfl) q7) ?_; clear F fa; intro fa F
  refine F.mv ?_; clear F fa; intro fa F
  refine sq_call F rfl (by decide) rfl (R_callV rfl rfl Try.call71 (mpS (F.at rfl) (mpS (F.at rfl) mp0))) (stuffs_ok x HV.out S HS.out h6 a c _ (HL.out.ext E)) fun e w6 hR => ?_
  obtain ⟨ma, mc, rfl, om, e9⟩ := hR
  refine ⟨_, rfl, ?_⟩; clear F fa; intro fa F
  replace q2 := (e9).keep0 q2
  replace q6 := (e9).keep0 q6
  replace q7 := (e9).keep0 q7
  replace E := ext_same E (e9)
  clear e9
  rw [← hT, ← hTl] at om
  rw [← hTl] at F
  have hrm := Lib.hid (rows_of_owns (row := fun t : List Int => tubR (val t)) om (fun _ => rfl))
  clear om
  obtain ⟨wM, hwM⟩ : ∃ wM, wM = w6 := ⟨_, rfl⟩
  have EM : Ext [] wM w6 := by rw [hwM]; exact Ext.refl _ _
  rw [← hwM] at hrm
  refine F.as ?_; clear F fa; intro fa F
  refine wpList_nil ?_
  refine hK4 _ _ ?_
  clear hK4
  refine wp_seq_k fun K5 hK5 => ?_
  refine wp_region_lit ?_
  refine sq_new F rfl (by decide) rfl (R_alloc rfl Try.zeroValue124) ?_; clear F fa; intro fa w7 F hw
  obtain ⟨n9, hn⟩ : ∃ n, n = w6.heap.size := ⟨_, rfl⟩
  rw [← hn] at F
  have s9 : w6.heap.size ≤ n9 := Nat.le_of_eq hn.symm
  have l9_E : w.heap.size ≤ n9 := by rw [hn]; exact E.size
  have l9_EM : wM.heap.size ≤ n9 := by rw [hn]; exact EM.size
  have m9_2 : n2 < n9 := by rw [hn]; exact blk_lt q2
  have m9_6 : n6 < n9 := by rw [hn]; exact blk_lt q6
  have m9_7 : n7 < n9 := by rw [hn]; exact blk_lt q7
  replace q2 := keep_alloc hw q2
  replace q6 := keep_alloc hw q6
  replace q7 := keep_alloc hw q7
  replace E := ext_alloc E hw
  replace EM := ext_alloc EM hw
  have q9 := new_row hw hn
  clear hw hn
  refine wpList_nil ?_
  have HTs := Lib.hid (slAt_of_rowsX (X := [n9]) hrm.out (fun W e => hrm.out.ext e (by simpa using l9_EM)) [])
  have E9 := EM.mono (Y := [n9]) (by simp)
  replace q9 : w7.heap[n9]? = some (.cells (nearOI (cT x T) (pickO (cT x T) ((List.range x.L.length).take 0))) 124 (0, 0)) := q9
  refine hK5 _ _ ?_
  clear hK5
  refine wp_seq_k fun K6 hK6 => ?_
  refine wp_seq_k fun K7 hK7 => ?_
  refine wp_region_lit ?_
  refine F.vl (R_field rfl (F.at rfl) Try.underlying80 rfl (n := 0) (sz := 4) rfl (by kernel_rfl) (by decide)) ?_; clear F fa; intro fa F
  refine F.vl (R_field rfl (F.at rfl) Try.underlying24 rfl (n := 2) (sz := 1) rfl (by kernel_rfl) (by decide)) ?_; clear F fa; intro fa F
  refine F.vl (R_load rfl (F.at rfl) Try.underlying22 rfl ((cells_of_block q7 2).trans (getS (getS (get0))))) ?_; clear F fa; intro fa F
  refine F.vl (R_len rfl rfl (F.at rfl) Try.underlying22) ?_; clear F fa; intro fa F
  refine F.vl (R_move rfl (ev_c fa _)) ?_; clear F fa; intro fa F
  refine wpList_nil ?_
  refine hK7 _ _ ?_
  clear hK7
  refine wp_block ?_
  have F0 := F.sub (.c 6 rfl (.c 7 rfl (.c 8 rfl (.c 9 rfl (.c 22 rfl .n)))))
  refine lp_for F0 (x.L.length) (fun i Lv W => Lv = [(23, .int .i64 ((i : Nat) : Int))] ∧ Ext [] w W ∧ Ext [n9] wM W ∧ W.heap[n2]? = some (.cells #[.int .i64 x.B, .slice x.da x.D.length x.dc, .slice x.la x.L.length x.lc, .int .i64 x.tol] 24 (0, 0)) ∧ W.heap[n6]? = some (.cells #[.int .i64 0] 35 (0, 0)) ∧ W.heap[n7]? = some (.cells #[.int .i64 x.B, .slice x.da x.D.length x.dc, .slice x.la x.L.length x.lc, .int .i64 x.tol] 80 (0, 0)) ∧ W.heap[n9]? = some (.cells (nearOI (cT x T) (pickO (cT x T) ((List.range x.L.length).take i))) 124 (0, 0))) ⟨_, ⟨rfl, E, E9, q2, q6, q7, q9⟩, F.sub (.c 23 rfl (.c 6 rfl (.c 7 rfl (.c 8 rfl (.c 9 rfl (.c 22 rfl .n))))))⟩ ?_
  clear F F0
  clear E E9 q2 q6 q7 q9
  rintro i _ fa w8 hi1 ⟨rfl, E, E9, q2, q6, q7, q9⟩ F
  refine wp_seq_k fun K8 hK8 => ?_
  refine wp_region_lit ?_
  refine F.vl (R_lss rfl (F.at rfl) (F.at rfl)) ?_; clear F fa; intro fa F
  refine wpList_nil ?_
  refine hK8 _ _ ?_
  clear hK8
  refine wp_seq_k fun K9 hK9 => ?_
  refine cd_if F rfl (fun hc24 => ?_) (fun hc24 => ?_)
  · skip
    refine wp_skip ?_
    refine hK9 _ _ ?_
    clear hK9
    refine wp_seq_k fun K10 hK10 => ?_
    refine wp_block ?_
    refine wp_seq_k fun K11 hK11 => ?_
    refine wp_region_lit ?_
    refine F.mv ?_; clear F fa; intro fa F
    refine F.as ?_; clear F fa; intro fa F
    refine wpList_nil ?_
    refine hK11 _ _ ?_
    clear hK11
    refine wp_seq_k fun K12 hK12 => ?_
    refine wp_region_lit ?_
    refine F.vl (R_assign rfl (ev_c fa _)) ?_; clear F fa; intro fa F
    rw [show (0 : Int) = triU (unP x i T) 0 from rfl] at F
    refine wpList_nil ?_
    refine hK12 _ _ ?_
    clear hK12
    refine wp_seq_k fun K13 hK13 => ?_
    refine wp_seq_k fun K14 hK14 => ?_
    refine wp_region_lit ?_
    refine F.mv ?_; clear F fa; intro fa F
    refine F.vl (R_len rfl rfl (F.at rfl) Try.underlying102) ?_; clear F fa; intro fa F
    refine F.vl (R_move rfl (ev_c fa _)) ?_; clear F fa; intro fa F
    refine wpList_nil ?_
    refine hK14 _ _ ?_
    clear hK14
    refine wp_block ?_
    have F0 := F.sub (.c 6 rfl (.c 7 rfl (.c 8 rfl (.c 9 rfl (.c 10 rfl (.c 22 rfl (.c 23 rfl (.c 27 rfl .n))))))))
    refine lp_for F0 (T.length) (fun j Lv W => Lv = [(11, .int .i64 (triU (unP x i T) j)), (28, .int .i64 ((j : Nat) : Int))] ∧ Ext [] w W ∧ Ext [n9] wM W ∧ W.heap[n2]? = some (.cells #[.int .i64 x.B, .slice x.da x.D.length x.dc, .slice x.la x.L.length x.lc, .int .i64 x.tol] 24 (0, 0)) ∧ W.heap[n6]? = some (.cells #[.int .i64 0] 35 (0, 0)) ∧ W.heap[n7]? = some (.cells #[.int .i64 x.B, .slice x.da x.D.length x.dc, .slice x.la x.L.length x.lc, .int .i64 x.tol] 80 (0, 0)) ∧ W.heap[n9]? = some (.cells (nearOI (cT x T) (pickO (cT x T) ((List.range x.L.length).take i))) 124 (0, 0))) ⟨_, ⟨rfl, E, E9, q2, q6, q7, q9⟩, F.sub (.c 11 rfl (.c 28 rfl (.c 6 rfl (.c 7 rfl (.c 8 rfl (.c 9 rfl (.c 10 rfl (.c 22 rfl (.c 23 rfl (.c 27 rfl .n))))))))))⟩ ?_
    clear F F0
    clear E E9 q2 q6 q7 q9
    rintro j _ fa w9 hi2 ⟨rfl, E, E9, q2, q6, q7, q9⟩ F
    refine wp_seq_k fun K15 hK15 => ?_
    refine wp_region_lit ?_
    refine F.vl (R_lss rfl (F.at rfl) (F.at rfl)) ?_; clear F fa; intro fa F
    refine wpList_nil ?_
    refine hK15 _ _ ?_
    clear hK15
    refine wp_seq_k fun K16 hK16 => ?_
    refine cd_if F rfl (fun hc29 => ?_) (fun hc29 => ?_)
    · skip
      refine wp_skip ?_
      refine hK16 _ _ ?_
      clear hK16
      refine wp_seq_k fun K17 hK17 => ?_
      refine wp_block ?_
      refine wp_seq_k fun K18 hK18 => ?_
      refine wp_region_lit ?_
      refine F.mv ?_; clear F fa; intro fa F
      refine F.as ?_; clear F fa; intro fa F
      refine wpList_nil ?_
      refine hK18 _ _ ?_
      clear hK18
      refine wp_seq_k fun K19 hK19 => ?_
      refine wp_region_lit ?_
      refine F.mv ?_; clear F fa; intro fa F
      refine F.vl (R_move rfl (ev_c fa _)) ?_; clear F fa; intro fa F
      refine wpList_nil ?_
      rw [show triU (unP x i T) j = triU (unP x i T) j + rowU (unP x i T j) 0 by rw [rowU, Int.add_zero]] at F
      refine hK19 _ _ ?_
      clear hK19
      refine wp_block ?_
      have F0 := F.sub (.c 6 rfl (.c 7 rfl (.c 8 rfl (.c 9 rfl (.c 10 rfl (.c 12 rfl (.c 22 rfl (.c 23 rfl (.c 27 rfl (.c 28 rfl (.c 31 rfl .n)))))))))))
      refine lp_for F0 (j) (fun k Lv W => Lv = [(11, .int .i64 (triU (unP x i T) j + rowU (unP x i T j) k)), (32, .int .i64 ((k : Nat) : Int))] ∧ Ext [] w W ∧ Ext [n9] wM W ∧ W.heap[n2]? = some (.cells #[.int .i64 x.B, .slice x.da x.D.length x.dc, .slice x.la x.L.length x.lc, .int .i64 x.tol] 24 (0, 0)) ∧ W.heap[n6]? = some (.cells #[.int .i64 0] 35 (0, 0)) ∧ W.heap[n7]? = some (.cells #[.int .i64 x.B, .slice x.da x.D.length x.dc, .slice x.la x.L.length x.lc, .int .i64 x.tol] 80 (0, 0)) ∧ W.heap[n9]? = some (.cells (nearOI (cT x T) (pickO (cT x T) ((List.range x.L.length).take i))) 124 (0, 0))) ⟨_, ⟨rfl, E, E9, q2, q6, q7, q9⟩, F.sub (.c 11 rfl (.c 32 rfl (.c 6 rfl (.c 7 rfl (.c 8 rfl (.c 9 rfl (.c 10 rfl (.c 12 rfl (.c 22 rfl (.c 23 rfl (.c 27 rfl (.c 28 rfl (.c 31 rfl .n)))))))))))))⟩ ?_
      clear F F0
      clear E E9 q2 q6 q7 q9
      rintro k _ fa w10 hi3 ⟨rfl, E, E9, q2, q6, q7, q9⟩ F
      refine wp_seq_k fun K20 hK20 => ?_
      refine wp_region_lit ?_
      refine F.vl (R_lss rfl (F.at rfl) (F.at rfl)) ?_; clear F fa; intro fa F
      refine wpList_nil ?_
      refine hK20 _ _ ?_
      clear hK20
      refine wp_seq_k fun K21 hK21 => ?_
      refine cd_if F rfl (fun hc33 => ?_) (fun hc33 => ?_)
      · skip
        refine wp_skip ?_
        refine hK21 _ _ ?_
        clear hK21
        refine wp_seq_k fun K22 hK22 => ?_
        refine wp_block ?_
        refine wp_seq_k fun K23 hK23 => ?_
        refine wp_region_lit ?_
        refine F.mv ?_; clear F fa; intro fa F
        refine F.as ?_; clear F fa; intro fa F
        refine wpList_nil ?_
        refine hK23 _ _ ?_
        clear hK23
        refine wp_seq_k fun K24 hK24 => ?_
        refine wp_region_st 10 follows (by kernel_rfl) fun w11 hh eh => ?_
        replace q2 := keep_same hh q2
        replace q6 := keep_same hh q6
        replace q7 := keep_same hh q7
        replace q9 := keep_same hh q9
        replace E := ext_same E eh
        replace E9 := ext_same E9 eh
        clear hh eh
        refine F.sv (R_loadBlk rfl (F.at rfl) Try.underlying80 rfl (by kernel_rfl) q7) ?_; clear F fa; intro fa F
        refine F.smv ?_; clear F fa; intro fa F
        refine F.smv ?_; clear F fa; intro fa F
        refine F.smv ?_; clear F fa; intro fa F
        obtain ⟨xb25, xo25, xa25, xr25⟩ := HTs.out j (by omega)
        refine F.sv (R_ixSlice (sz := 4) rfl ((F.at rfl).trans (xa25 _ _)) (F.at rfl) Try.underlying102 (by kernel_rfl) (by omega) (by omega)) ?_; clear F fa; intro fa F
        refine F.sv (R_loadRow rfl (F.at rfl) Try.underlying83 rfl (by kernel_rfl) (xr25 _ E9)) ?_; clear F fa; intro fa F
        refine F.smv ?_; clear F fa; intro fa F
        refine F.smv ?_; clear F fa; intro fa F
        obtain ⟨xb26, xo26, xa26, xr26⟩ := HTs.out k (by omega)
        refine F.sv (R_ixSlice (sz := 4) rfl ((F.at rfl).trans (xa26 _ _)) (F.at rfl) Try.underlying102 (by kernel_rfl) (by omega) (by omega)) ?_; clear F fa; intro fa F
        refine F.sv (R_loadRow rfl (F.at rfl) Try.underlying83 rfl (by kernel_rfl) (xr26 _ E9)) ?_; clear F fa; intro fa F
        refine wpStill_nil ?_
        refine sq_call F rfl (by decide) rfl (R_callV rfl rfl Try.call74 (mpS (F.at rfl) (mpS (F.at rfl) (mpS (F.at rfl) (mpS (F.at rfl) mp0))))) (alike_ok x HV.out i (by omega) (val (T.getD j [])) (val (T.getD k [])) (HM.out _ (getD_memL [] (by omega))) (HM.out _ (getD_memL [] (by omega))) _ (HX.out.ext E)) fun e w12 hR => ?_
        obtain ⟨rfl, e9⟩ := hR
        refine ⟨_, rfl, ?_⟩; clear F fa; intro fa F
        replace q2 := (e9).keep0 q2
        replace q6 := (e9).keep0 q6
        replace q7 := (e9).keep0 q7
        replace q9 := (e9).keep0 q9
        replace E := ext_same E (e9)
        replace E9 := ext_same E9 (e9)
        clear e9
        refine F.vl (R_not rfl (F.at rfl)) ?_; clear F fa; intro fa F
        refine wpList_nil ?_
        have hb1 := triU_bd (unP x i T) j (by omega)
        have hb2 := rowU_bd (unP x i T j) k
        refine hK24 _ _ ?_
        clear hK24
        refine cd_b F rfl (fun hc46 => ?_) (fun hc46 => ?_)
        · skip
          refine wp_region_lit ?_
          refine F.mv ?_; clear F fa; intro fa F
          refine F.vl (R_add rfl (F.at rfl) (ev_c fa _) (by omega) (by omega)) ?_; clear F fa; intro fa F
          refine F.as ?_; clear F fa; intro fa F
          rw [show triU (unP x i T) j + rowU (unP x i T j) k + 1 = triU (unP x i T) j + rowU (unP x i T j) (k + 1) by rw [rowU, show unP x i T j k = true from hc46]; simp [bI]; omega] at F
          refine wpList_nil ?_
          refine hK22 _ _ ?_
          clear hK22
          refine wp_region_lit ?_
          refine F.vl (R_add rfl (F.at rfl) (ev_c fa _) (by omega) (by omega)) ?_; clear F fa; intro fa F
          refine F.mv ?_; clear F fa; intro fa F
          refine wpList_nil ?_
          show _ ∧ _
          exact ⟨by omega, _, ⟨rfl, E, E9, q2, q6, q7, q9⟩, F.sub (.c 11 rfl (.c 32 rfl (.c 6 rfl (.c 7 rfl (.c 8 rfl (.c 9 rfl (.c 10 rfl (.c 12 rfl (.c 22 rfl (.c 23 rfl (.c 27 rfl (.c 28 rfl (.c 31 rfl .n)))))))))))))⟩
        · skip
          rw [show triU (unP x i T) j + rowU (unP x i T j) k = triU (unP x i T) j + rowU (unP x i T j) (k + 1) by rw [rowU, show unP x i T j k = false from hc46]; simp [bI]] at F
          refine wp_skip ?_
          refine hK22 _ _ ?_
          clear hK22
          refine wp_region_lit ?_
          refine F.vl (R_add rfl (F.at rfl) (ev_c fa _) (by omega) (by omega)) ?_; clear F fa; intro fa F
          refine F.mv ?_; clear F fa; intro fa F
          refine wpList_nil ?_
          show _ ∧ _
          exact ⟨by omega, _, ⟨rfl, E, E9, q2, q6, q7, q9⟩, F.sub (.c 11 rfl (.c 32 rfl (.c 6 rfl (.c 7 rfl (.c 8 rfl (.c 9 rfl (.c 10 rfl (.c 12 rfl (.c 22 rfl (.c 23 rfl (.c 27 rfl (.c 28 rfl (.c 31 rfl .n)))))))))))))⟩
      · skip
        refine wp_exit ?_
        rw [show triU (unP x i T) j + rowU (unP x i T j) k = triU (unP x i T) (j + 1) by rw [triU, show k = j by omega]] at F
        refine hK17 _ _ ?_
        clear hK17
        refine wp_region_lit ?_
        refine F.vl (R_add rfl (F.at rfl) (ev_c fa _) (by omega) (by omega)) ?_; clear F fa; intro fa F
        refine F.mv ?_; clear F fa; intro fa F
        refine wpList_nil ?_
        show _ ∧ _
        exact ⟨by omega, _, ⟨rfl, E, E9, q2, q6, q7, q9⟩, F.sub (.c 11 rfl (.c 28 rfl (.c 6 rfl (.c 7 rfl (.c 8 rfl (.c 9 rfl (.c 10 rfl (.c 22 rfl (.c 23 rfl (.c 27 rfl .n))))))))))⟩
    · skip
      refine wp_exit ?_
      rw [show triU (unP x i T) j = unN x T i by rw [unN, show T.length = j by omega]] at F
      refine hK13 _ _ ?_
      clear hK13
      have hub := triU_bd (unP x i T) T.length (by omega)
      replace hub : 0 ≤ unN x T i ∧ unN x T i ≤ 6 * T.length := hub
      refine wp_region_lit ?_
      refine F.mv ?_; clear F fa; intro fa F
      refine F.mv ?_; clear F fa; intro fa F
      refine F.vl (R_neg rfl (F.at rfl) (by omega) (by omega)) ?_; clear F fa; intro fa F
      refine F.vl (R_buildV rfl (prS (F.at rfl) pr0) (cells := #[.int .i64 (-(unN x T i)), .int .i64 0]) (by kernel_rfl)) ?_; clear F fa; intro fa F
      refine sq_call F rfl (by decide) rfl (R_callV rfl rfl Try.call96 (mpS (F.at rfl) (mpS (F.at rfl) (mpS (F.at rfl) mp0)))) (offerI_any (cT x T) n9 (pickO (cT x T) ((List.range x.L.length).take i)) i _ q9) fun e w13 hR => ?_
      obtain ⟨rfl, q9', e9⟩ := hR
      refine ⟨_, rfl, ?_⟩; clear F fa; intro fa F
      replace q2 := (e9).keep q2 (by simp; omega)
      replace q6 := (e9).keep q6 (by simp; omega)
      replace q7 := (e9).keep q7 (by simp; omega)
      replace E := E.trans' e9 (fun i hi hl => by simp only [List.mem_cons, List.not_mem_nil, or_false] at hi ⊢; omega)
      replace E9 := E9.trans' e9 (fun i hi hl => by simp only [List.mem_cons, List.not_mem_nil, or_false] at hi ⊢; omega)
      rw [← pick_snoc, ← take_range (by omega)] at q9'
      replace q9 := q9'
      clear q9'
      refine wpList_nil ?_
      refine hK10 _ _ ?_
      clear hK10
      refine wp_region_lit ?_
      refine F.vl (R_add rfl (F.at rfl) (ev_c fa _) (by omega) (by omega)) ?_; clear F fa; intro fa F
      refine F.mv ?_; clear F fa; intro fa F
      refine wpList_nil ?_
      show _ ∧ _
      exact ⟨by omega, _, ⟨rfl, E, E9, q2, q6, q7, q9⟩, F.sub (.c 23 rfl (.c 6 rfl (.c 7 rfl (.c 8 rfl (.c 9 rfl (.c 22 rfl .n))))))⟩
  · skip
    refine wp_exit ?_
    rw [List.take_of_length_le (show (List.range x.L.length).length ≤ i by rw [List.length_range]; omega)] at q9
    refine hK6 _ _ ?_
    clear hK6
    refine wp_seq_k fun K27 hK27 => ?_
    refine wp_seq_k fun K28 hK28 => ?_
    by_cases hN : pickO (cT x T) (List.range x.L.length) = none
    · skip
      replace q9 : w8.heap[n9]? = some (.cells #[.int .i64 0, .int .i64 0, .int .i64 0, .bool false] 124 (0, 0)) := by rw [hN] at q9; exact q9
      refine wp_region_lit ?_
      refine F.vl (R_field rfl (F.at rfl) Try.underlying124 rfl (n := 1) (sz := 2) rfl (by kernel_rfl) (by decide)) ?_; clear F fa; intro fa F
      refine F.vl ((R_ixArr (n := 2) (sz := 1) rfl (F.at rfl) rfl Try.underlying86 (by kernel_rfl) (by omega) (by omega))) ?_; clear F fa; intro fa F
      refine F.vl (R_load rfl (F.at rfl) Try.underlying3 rfl ((cells_of_block q9 1).trans (getS (get0)))) ?_; clear F fa; intro fa F
      refine F.vl (R_eqlB (b := true) rfl (F.at rfl) (ev_c fa _) (by decide)) ?_; clear F fa; intro fa F
      refine wpList_nil ?_
      refine hK28 _ _ ?_
      clear hK28
      refine cd_T F rfl ?_
      refine wp_seq_k fun K29 hK29 => ?_
      refine wp_region_lit ?_
      refine F.vl (R_assign rfl (ev_c fa _)) ?_; clear F fa; intro fa F
      refine F.vl (R_assign rfl (ev_c fa _)) ?_; clear F fa; intro fa F
      refine sq_to rfl rfl (R_store rfl (F.at rfl) (ev_c fa _) rfl (by kernel_rfl) ((cells_of_block q6 0).trans (get0)) (free_of_block q6 0)) ?_; intro w14 hw
      replace q2 := keep_cell hw q2 (by omega)
      replace q6 := put_cell hw q6 (by simp only [List.setIfInBounds_toArray, List.set_cons_succ, List.set_cons_zero]; exact rfl)
      replace q7 := keep_cell hw q7 (by omega)
      replace q9 := keep_cell hw q9 (by omega)
      replace E := ext_cell E hw (fun h => by first | exact absurd h (by omega) | simp)
      clear hw
      refine wpList_nil ?_
      refine hK29 _ _ ?_
      clear hK29
      refine wp_ret ?_
      (try simp only [Exit.inBlock, Exit.then, reduceIte])
      refine rtM_v F ?_
      refine lv_caught ?_
      refine lv_nil (rs_ttc F rfl rfl rfl rfl Try.underlying35 rfl q6) ?_
      rw [← hT, telR, hN]
      exact ⟨rfl, E⟩
    · skip
      obtain ⟨n, hn⟩ := Option.ne_none_iff_exists'.1 hN
      have hub := triU_bd (unP x n T) T.length (by omega)
      replace hub : 0 ≤ unN x T n ∧ unN x T n ≤ 6 * T.length := hub
      replace q9 : w8.heap[n9]? = some (.cells #[.int .i64 ((n : Nat) : Int), .int .i64 (-unN x T n), .int .i64 0, .bool true] 124 (0, 0)) := by rw [hn] at q9; exact q9
      refine wp_region_lit ?_
      refine F.vl (R_field rfl (F.at rfl) Try.underlying124 rfl (n := 1) (sz := 2) rfl (by kernel_rfl) (by decide)) ?_; clear F fa; intro fa F
      refine F.vl ((R_ixArr (n := 2) (sz := 1) rfl (F.at rfl) rfl Try.underlying86 (by kernel_rfl) (by omega) (by omega))) ?_; clear F fa; intro fa F
      refine F.vl (R_load rfl (F.at rfl) Try.underlying3 rfl ((cells_of_block q9 1).trans (getS (get0)))) ?_; clear F fa; intro fa F
      refine F.vl (R_eqlD rfl (F.at rfl) (ev_c fa _)) ?_; clear F fa; intro fa F
      refine wpList_nil ?_
      refine hK28 _ _ ?_
      clear hK28
      refine cd_if F rfl (fun hc60 => ?_) (fun hc60 => ?_)
      · skip
        refine wp_seq_k fun K30 hK30 => ?_
        refine wp_region_lit ?_
        refine F.vl (R_assign rfl (ev_c fa _)) ?_; clear F fa; intro fa F
        refine F.vl (R_assign rfl (ev_c fa _)) ?_; clear F fa; intro fa F
        refine sq_to rfl rfl (R_store rfl (F.at rfl) (ev_c fa _) rfl (by kernel_rfl) ((cells_of_block q6 0).trans (get0)) (free_of_block q6 0)) ?_; intro w15 hw
        replace q2 := keep_cell hw q2 (by omega)
        replace q6 := put_cell hw q6 (by simp only [List.setIfInBounds_toArray, List.set_cons_succ, List.set_cons_zero]; exact rfl)
        replace q7 := keep_cell hw q7 (by omega)
        replace q9 := keep_cell hw q9 (by omega)
        replace E := ext_cell E hw (fun h => by first | exact absurd h (by omega) | simp)
        clear hw
        refine wpList_nil ?_
        refine hK30 _ _ ?_
        clear hK30
        refine wp_ret ?_
        (try simp only [Exit.inBlock, Exit.then, reduceIte])
        refine rtM_v F ?_
        refine lv_caught ?_
        refine lv_nil (rs_ttc F rfl rfl rfl rfl Try.underlying35 rfl q6) ?_
        rw [← hT, telR, hn]
        simp only [show unN x T n = 0 by omega, if_true]
        exact ⟨trivial, E⟩
      · skip
        refine wp_skip ?_
        refine hK27 _ _ ?_
        clear hK27
        refine wp_seq_k fun K31 hK31 => ?_
        refine wp_region_st 8 follows (by kernel_rfl) fun w16 hh eh => ?_
        replace q2 := keep_same hh q2
        replace q6 := keep_same hh q6
        replace q7 := keep_same hh q7
        replace q9 := keep_same hh q9
        replace E := ext_same E eh
        clear hh eh
        refine F.sv (R_field rfl (F.at rfl) Try.underlying124 rfl (n := 0) (sz := 1) rfl (by kernel_rfl) (by decide)) ?_; clear F fa; intro fa F
        refine F.sv (R_load rfl (F.at rfl) Try.underlying3 rfl ((cells_of_block q9 0).trans (get0))) ?_; clear F fa; intro fa F
        refine F.sv (R_field rfl (F.at rfl) Try.underlying124 rfl (n := 1) (sz := 2) rfl (by kernel_rfl) (by decide)) ?_; clear F fa; intro fa F
        refine F.sv ((R_ixArr (n := 2) (sz := 1) rfl (F.at rfl) rfl Try.underlying86 (by kernel_rfl) (by omega) (by omega))) ?_; clear F fa; intro fa F
        refine F.sv (R_load rfl (F.at rfl) Try.underlying3 rfl ((cells_of_block q9 1).trans (getS (get0)))) ?_; clear F fa; intro fa F
        refine F.sv (R_neg rfl (F.at rfl) (by omega) (by omega)) ?_; clear F fa; intro fa F
        refine F.sv (R_assign rfl (F.at rfl)) ?_; clear F fa; intro fa F
        refine F.sv (R_assign rfl (F.at rfl)) ?_; clear F fa; intro fa F
        refine wpStill_nil ?_
        refine sq_to rfl rfl (R_store rfl (F.at rfl) (ev_c fa _) rfl (by kernel_rfl) ((cells_of_block q6 0).trans (get0)) (free_of_block q6 0)) ?_; intro w17 hw
        replace q2 := keep_cell hw q2 (by omega)
        replace q6 := put_cell hw q6 (by simp only [List.setIfInBounds_toArray, List.set_cons_succ, List.set_cons_zero]; exact rfl)
        replace q7 := keep_cell hw q7 (by omega)
        replace q9 := keep_cell hw q9 (by omega)
        replace E := ext_cell E hw (fun h => by first | exact absurd h (by omega) | simp)
        clear hw
        refine wpList_nil ?_
        refine hK31 _ _ ?_
        clear hK31
        refine wp_ret ?_
        (try simp only [Exit.inBlock, Exit.then, reduceIte])
        refine rtM_v F ?_
        refine lv_caught ?_
        refine lv_nil (rs_ttc F rfl rfl rfl rfl Try.underlying35 rfl q6) ?_
        rw [← hT, telR, hn]
        simp only [show ¬ unN x T n = 0 by omega, if_false]
        refine ⟨?_, E⟩
        rw [Int.neg_neg]
end Go.Proofs.Ytdjeecgddbjbeaa
