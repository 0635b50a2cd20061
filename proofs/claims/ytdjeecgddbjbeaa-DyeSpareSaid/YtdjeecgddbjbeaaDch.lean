/- Vats in memory; the program's checks of numbers and lists. No conditions. -/
import Derived.Test.YtdjeecgddbjbeaaDki
namespace Go.Proofs.Ytdjeecgddbjbeaa
open Go.RowKit
set_option linter.unusedVariables false
set_option linter.unusedSimpArgs false
/-- A vat and where its lists lie. -/
structure Vm where
  B : Int
  D : List (Value × List Int)
  da : Option Addr
  dc : Nat
  L : List (Value × List Int)
  la : Option Addr
  lc : Nat
  tol : Int
structure Vm.At (x : Vm) (w : World) : Prop where
  d : LolAt w x.da x.D
  l : LolAt w x.la x.L
theorem Vm.At.ext {x : Vm} {w W : World} (h : x.At w) (e : Ext [] w W) : x.At W := ⟨h.d.ext e, h.l.ext e⟩
/-- Lists of at most 1000. -/
def SmallL (L : List (Value × List Int)) : Prop := L.length ≤ 1000 ∧ ∀ p ∈ L, p.2.length ≤ 1000
def outB (n lo hi : Int) : Bool := decide (n < lo) || decide (hi < n)
theorem outB_no {n lo hi : Int} : outB n lo hi = false ↔ lo ≤ n ∧ n ≤ hi := by
  simp only [outB, Bool.or_eq_false_iff, decide_eq_false_iff_not]
  omega
def sizE (n most : Int) : Int := if n = 0 then 7 else if most < n then 6 else 0
def numE (l : List Int) (many hi : Int) : Int := if (l.length : Int) ≠ many then 9 else if l.all (fun n => !outB n 0 hi) then 0 else 1
def numS (l : List Int) (many hi : Int) : Int := if numE l many hi = 0 then l.sum else 0
set_option maxRecDepth 100000 in
theorem outside_any (n lo hi : Int) (w : World) : Calls Try.prog 99 #[.int .i64 n, .int .i64 lo, .int .i64 hi] w fun e w' => e = .returned (.bool (outB n lo hi)) ∧ Ext [] w w' := by
  have E : Ext [] w w := Ext.refl _ _
  have hl : outB n lo hi = (decide (n < lo) || decide (hi < n)) := rfl
  refine calls_has 15 Try.func99 rfl Try.ntmps99 (Nat.le_of_ble_eq_true rfl) ?_
  intro fa F
  refine wp_seq_k fun K1 hK1 => ?_
  refine wp_region_lit ?_
  refine F.vl (R_assign rfl (ev_c fa _)) ?_; clear F fa; intro fa F
  refine wpList_nil ?_
  refine hK1 _ _ ?_
  clear hK1
  refine wp_seq_k fun K2 hK2 => ?_
  by_cases c1 : n < lo
  · skip
    refine wp_region_lit ?_
    refine F.mv ?_; clear F fa; intro fa F
    refine F.mv ?_; clear F fa; intro fa F
    refine F.vl (R_lssB (b := true) rfl (F.at rfl) (F.at rfl) (decide_eq_true ((by omega)))) ?_; clear F fa; intro fa F
    refine F.mv ?_; clear F fa; intro fa F
    refine sq_no F rfl (by decide) (wantF F rfl rfl (by decide) rfl (by decide)) ?_; clear F fa; intro fa F
    refine sq_no F rfl (by decide) (wantF F rfl rfl (by decide) rfl (by decide)) ?_; clear F fa; intro fa F
    refine sq_no F rfl (by decide) (wantF F rfl rfl (by decide) rfl (by decide)) ?_; clear F fa; intro fa F
    refine F.vl (R_pickT rfl (F.at rfl) (ev_c fa _)) ?_; clear F fa; intro fa F
    refine F.as ?_; clear F fa; intro fa F
    refine wpList_nil ?_
    rw [decide_eq_true c1, Bool.true_or] at hl
    refine hK2 _ _ ?_
    clear hK2
    refine wp_ret ?_
    (try simp only [Exit.inBlock, Exit.then, reduceIte])
    refine rt_v F (rs_1 F rfl rfl) ?_
    exact ⟨congrArg (fun x => Ending.returned (Value.bool x)) hl.symm, E⟩
  · skip
    by_cases c2 : hi < n
    · skip
      refine wp_region_lit ?_
      refine F.mv ?_; clear F fa; intro fa F
      refine F.mv ?_; clear F fa; intro fa F
      refine F.vl (R_lssB (b := false) rfl (F.at rfl) (F.at rfl) (decide_eq_false ((by omega)))) ?_; clear F fa; intro fa F
      refine F.mv ?_; clear F fa; intro fa F
      refine F.mv ?_ (hw := (wantT F rfl rfl (by decide) rfl)); clear F fa; intro fa F
      refine F.mv ?_ (hw := (wantT F rfl rfl (by decide) rfl)); clear F fa; intro fa F
      refine F.vl (R_gtrB (b := true) rfl (F.at rfl) (F.at rfl) (decide_eq_true ((by omega)))) ?_ (hw := (wantT F rfl rfl (by decide) rfl)); clear F fa; intro fa F
      refine F.vl (R_pickF rfl (F.at rfl) (F.at rfl)) ?_; clear F fa; intro fa F
      refine F.as ?_; clear F fa; intro fa F
      refine wpList_nil ?_
      rw [decide_eq_true c2, Bool.or_true] at hl
      refine hK2 _ _ ?_
      clear hK2
      refine wp_ret ?_
      (try simp only [Exit.inBlock, Exit.then, reduceIte])
      refine rt_v F (rs_1 F rfl rfl) ?_
      exact ⟨congrArg (fun x => Ending.returned (Value.bool x)) hl.symm, E⟩
    · skip
      refine wp_region_lit ?_
      refine F.mv ?_; clear F fa; intro fa F
      refine F.mv ?_; clear F fa; intro fa F
      refine F.vl (R_lssB (b := false) rfl (F.at rfl) (F.at rfl) (decide_eq_false ((by omega)))) ?_; clear F fa; intro fa F
      refine F.mv ?_; clear F fa; intro fa F
      refine F.mv ?_ (hw := (wantT F rfl rfl (by decide) rfl)); clear F fa; intro fa F
      refine F.mv ?_ (hw := (wantT F rfl rfl (by decide) rfl)); clear F fa; intro fa F
      refine F.vl (R_gtrB (b := false) rfl (F.at rfl) (F.at rfl) (decide_eq_false ((by omega)))) ?_ (hw := (wantT F rfl rfl (by decide) rfl)); clear F fa; intro fa F
      refine F.vl (R_pickF rfl (F.at rfl) (F.at rfl)) ?_; clear F fa; intro fa F
      refine F.as ?_; clear F fa; intro fa F
      refine wpList_nil ?_
      rw [decide_eq_false c1, decide_eq_false c2] at hl
      refine hK2 _ _ ?_
      clear hK2
      refine wp_ret ?_
      (try simp only [Exit.inBlock, Exit.then, reduceIte])
      refine rt_v F (rs_1 F rfl rfl) ?_
      exact ⟨congrArg (fun x => Ending.returned (Value.bool x)) hl.symm, E⟩
theorem sized_any (n m : Int) (w : World) : Calls Try.prog 100 #[.int .i64 n, .int .i64 m] w fun e w' => e = .returned (.int .i64 (sizE n m)) ∧ Ext [] w w' := by
  have E : Ext [] w w := Ext.refl _ _
  refine calls_has 12 Try.func100 rfl Try.ntmps100 (Nat.le_of_ble_eq_true rfl) ?_
  intro fa F
  refine wp_seq_k fun K1 hK1 => ?_
  refine wp_region_lit ?_
  refine F.vl (R_assign rfl (ev_c fa _)) ?_; clear F fa; intro fa F
  refine wpList_nil ?_
  refine hK1 _ _ ?_
  clear hK1
  refine wp_seq_k fun K2 hK2 => ?_
  refine wp_block ?_
  refine wp_seq_k fun K3 hK3 => ?_
  refine wp_region_lit ?_
  refine F.mv ?_; clear F fa; intro fa F
  refine F.vl (R_eqlD rfl (F.at rfl) (ev_c fa _)) ?_; clear F fa; intro fa F
  refine F.as ?_; clear F fa; intro fa F
  refine wpList_nil ?_
  refine hK3 _ _ ?_
  clear hK3
  refine cd_if F rfl (fun hc5 => ?_) (fun hc5 => ?_)
  · skip
    refine wp_seq_k fun K4 hK4 => ?_
    refine wp_region_lit ?_
    refine F.vl (R_assign rfl (ev_c fa _)) ?_; clear F fa; intro fa F
    refine wpList_nil ?_
    refine hK4 _ _ ?_
    clear hK4
    refine wp_ret ?_
    (try simp only [Exit.inBlock, Exit.then, reduceIte])
    refine rt_v F (rs_1 F rfl rfl) ?_
    first | exact ⟨ret_int (by rw [sizE, if_pos (by omega)]), E⟩ | exact ⟨ret_int (by rw [sizE, if_neg (by omega), if_pos (by omega)]), E⟩ | exact ⟨ret_int (by rw [sizE, if_neg (by omega), if_neg (by omega)]), E⟩
  · skip
    refine wp_seq_k fun K5 hK5 => ?_
    refine wp_region_lit ?_
    refine F.mv ?_; clear F fa; intro fa F
    refine F.mv ?_; clear F fa; intro fa F
    refine F.vl (R_gtr rfl (F.at rfl) (F.at rfl)) ?_; clear F fa; intro fa F
    refine F.as ?_; clear F fa; intro fa F
    refine wpList_nil ?_
    refine hK5 _ _ ?_
    clear hK5
    refine cd_if F rfl (fun hc8 => ?_) (fun hc8 => ?_)
    · skip
      refine wp_seq_k fun K6 hK6 => ?_
      refine wp_region_lit ?_
      refine F.vl (R_assign rfl (ev_c fa _)) ?_; clear F fa; intro fa F
      refine wpList_nil ?_
      refine hK6 _ _ ?_
      clear hK6
      refine wp_ret ?_
      (try simp only [Exit.inBlock, Exit.then, reduceIte])
      refine rt_v F (rs_1 F rfl rfl) ?_
      first | exact ⟨ret_int (by rw [sizE, if_pos (by omega)]), E⟩ | exact ⟨ret_int (by rw [sizE, if_neg (by omega), if_pos (by omega)]), E⟩ | exact ⟨ret_int (by rw [sizE, if_neg (by omega), if_neg (by omega)]), E⟩
    · skip
      refine wp_skip ?_
      refine hK2 _ _ ?_
      clear hK2
      refine wp_seq_k fun K7 hK7 => ?_
      refine wp_region_lit ?_
      refine F.vl (R_assign rfl (ev_c fa _)) ?_; clear F fa; intro fa F
      refine wpList_nil ?_
      refine hK7 _ _ ?_
      clear hK7
      refine wp_ret ?_
      (try simp only [Exit.inBlock, Exit.then, reduceIte])
      refine rt_v F (rs_1 F rfl rfl) ?_
      first | exact ⟨ret_int (by rw [sizE, if_pos (by omega)]), E⟩ | exact ⟨ret_int (by rw [sizE, if_neg (by omega), if_pos (by omega)]), E⟩ | exact ⟨ret_int (by rw [sizE, if_neg (by omega), if_neg (by omega)]), E⟩
theorem all_take {l : List Int} {hi : Int} {i : Nat} (h : ∀ j, j < i → outB (l.getD j 0) 0 hi = false) (hi' : i = l.length) : l.all (fun n => !outB n 0 hi) = true := by
  rw [List.all_eq_true]
  intro n hn
  obtain ⟨j, hj, rfl⟩ := List.getElem_of_mem hn
  have := h j (by omega)
  rw [List.getD_eq_getElem?_getD, List.getElem?_eq_getElem hj] at this
  simp only [Option.getD_some] at this
  rw [this]; rfl
theorem all_bad {l : List Int} {hi : Int} {i : Nat} (hil : i < l.length) (h : outB (l.getD i 0) 0 hi = true) : l.all (fun n => !outB n 0 hi) = false := by
  rw [List.all_eq_false]
  refine ⟨l.getD i 0, getD_mem 0 hil, by rw [h]; simp⟩
theorem sum_take (l : List Int) {i : Nat} (h : i < l.length) : (l.take (i + 1)).sum = (l.take i).sum + l.getD i 0 := by
  rw [List.take_add_one, List.getElem?_eq_getElem h, List.sum_append]
  simp [List.getD_eq_getElem?_getD, List.getElem?_eq_getElem h]
set_option maxRecDepth 100000 in
theorem numbers_any (l : List Int) (many hi : Int) (a : Option Addr) (c : Nat) (w : World) (h : IsRows w (.slice a l.length c) 1 (l.map intRow)) (hl : l.length ≤ 1000) (hh : hi ≤ 1000) :
    Calls Try.prog 101 #[.slice a l.length c, .int .i64 many, .int .i64 hi] w fun e w' => e = .returned (.tuple #[.int .i64 (numS l many hi), .int .i64 (numE l many hi)]) ∧ Ext [] w w' := by
  have HS := Lib.hid (slAt_of_rows h 0)
  have E : Ext [] w w := Ext.refl _ _
  clear h
  refine calls_has 29 Try.func101 rfl Try.ntmps101 (Nat.le_of_ble_eq_true rfl) ?_
  intro fa F
  refine wp_seq_k fun K1 hK1 => ?_
  refine wp_region_lit ?_
  refine F.vl (R_assign rfl (ev_c fa _)) ?_; clear F fa; intro fa F
  refine F.vl (R_assign rfl (ev_c fa _)) ?_; clear F fa; intro fa F
  refine wpList_nil ?_
  refine hK1 _ _ ?_
  clear hK1
  refine wp_seq_k fun K2 hK2 => ?_
  refine wp_seq_k fun K3 hK3 => ?_
  refine wp_region_lit ?_
  refine F.mv ?_; clear F fa; intro fa F
  refine F.vl (R_len rfl rfl (F.at rfl) Try.underlying25) ?_; clear F fa; intro fa F
  refine F.mv ?_; clear F fa; intro fa F
  refine F.vl (R_neqD rfl (F.at rfl) (F.at rfl)) ?_; clear F fa; intro fa F
  refine wpList_nil ?_
  refine hK3 _ _ ?_
  clear hK3
  refine cd_if F rfl (fun hc14 => ?_) (fun hc14 => ?_)
  · skip
    refine wp_seq_k fun K4 hK4 => ?_
    refine wp_region_lit ?_
    refine F.vl (R_assign rfl (ev_c fa _)) ?_; clear F fa; intro fa F
    refine F.vl (R_assign rfl (ev_c fa _)) ?_; clear F fa; intro fa F
    refine wpList_nil ?_
    refine hK4 _ _ ?_
    clear hK4
    refine wp_ret ?_
    (try simp only [Exit.inBlock, Exit.then, reduceIte])
    refine rt_v F (rs_2 F rfl rfl rfl) ?_
    have e : numE l many hi = 9 := (by rw [numE, if_pos (by omega)])
    exact ⟨by rw [numS, e]; rfl, E⟩
  · skip
    refine wp_skip ?_
    refine hK2 _ _ ?_
    clear hK2
    refine wp_seq_k fun K5 hK5 => ?_
    refine wp_region_lit ?_
    refine F.vl (R_assign rfl (ev_c fa _)) ?_; clear F fa; intro fa F
    rw [show (0 : Int) = (l.take 0).sum from rfl] at F
    refine wpList_nil ?_
    refine hK5 _ _ ?_
    clear hK5
    refine wp_seq_k fun K6 hK6 => ?_
    refine wp_seq_k fun K7 hK7 => ?_
    refine wp_region_lit ?_
    refine F.mv ?_; clear F fa; intro fa F
    refine F.vl (R_len rfl rfl (F.at rfl) Try.underlying25) ?_; clear F fa; intro fa F
    refine F.vl (R_move rfl (ev_c fa _)) ?_; clear F fa; intro fa F
    refine wpList_nil ?_
    refine hK7 _ _ ?_
    clear hK7
    refine wp_block ?_
    have F0 := F.sub (.c 2 rfl (.c 15 rfl (.c 16 rfl .n)))
    refine lp_for F0 (l.length) (fun i Lv W => Lv = [(8, .int .i64 ((l.take i).sum)), (17, .int .i64 ((i : Nat) : Int))] ∧ Ext [] w W ∧ (∀ j, j < i → outB (l.getD j 0) 0 hi = false) ∧ 0 ≤ (l.take i).sum ∧ (l.take i).sum ≤ 1000 * (i : Int)) ⟨_, ⟨rfl, Ext.refl _ _, (fun j hj => absurd hj (by omega)), (by simp), (by simp)⟩, F.sub (.c 8 rfl (.c 17 rfl (.c 2 rfl (.c 15 rfl (.c 16 rfl .n)))))⟩ ?_
    clear F F0
    rintro i _ fa w1 hi1 ⟨rfl, EL1, hb, hs0, hs1⟩ F
    have E := E.nil EL1
    refine wp_seq_k fun K8 hK8 => ?_
    refine wp_region_lit ?_
    refine F.vl (R_lss rfl (F.at rfl) (F.at rfl)) ?_; clear F fa; intro fa F
    refine wpList_nil ?_
    refine hK8 _ _ ?_
    clear hK8
    refine wp_seq_k fun K9 hK9 => ?_
    refine cd_if F rfl (fun hc18 => ?_) (fun hc18 => ?_)
    · skip
      refine wp_skip ?_
      refine hK9 _ _ ?_
      clear hK9
      refine wp_seq_k fun K10 hK10 => ?_
      refine wp_block ?_
      refine wp_seq_k fun K11 hK11 => ?_
      refine wp_region_lit ?_
      obtain ⟨xb12, xo12, xa12, xr12⟩ := HS.out i (by omega)
      refine F.vl (R_ixSlice (sz := 1) rfl ((F.at rfl).trans (xa12 _ _)) (F.at rfl) Try.underlying25 (by kernel_rfl) (by omega) (by omega)) ?_; clear F fa; intro fa F
      refine F.vl (R_load rfl (F.at rfl) Try.underlying3 rfl (xr12 _ E 0 _ rfl)) ?_; clear F fa; intro fa F
      refine F.as ?_; clear F fa; intro fa F
      refine wpList_nil ?_
      refine hK11 _ _ ?_
      clear hK11
      refine wp_seq_k fun K13 hK13 => ?_
      refine wp_seq_k fun K14 hK14 => ?_
      refine wp_region_lit ?_
      refine F.mv ?_; clear F fa; intro fa F
      refine F.mv ?_; clear F fa; intro fa F
      refine sq_call F rfl (by decide) rfl (R_callV rfl rfl Try.call99 (mpS (F.at rfl) (mpS (ev_c fa _) (mpS (F.at rfl) mp0)))) (outside_any (l.getD i 0) 0 hi _) fun e w2 hR => ?_
      obtain ⟨rfl, e9⟩ := hR
      refine ⟨_, rfl, ?_⟩; clear F fa; intro fa F
      replace E := ext_same E (e9)
      replace EL1 := ext_same EL1 (e9)
      clear e9
      refine wpList_nil ?_
      refine hK14 _ _ ?_
      clear hK14
      refine cd_b F rfl (fun hc23 => ?_) (fun hc23 => ?_)
      · skip
        have hyes : outB (l.getD i 0) 0 hi = true := by simpa using hc23
        refine wp_seq_k fun K15 hK15 => ?_
        refine wp_region_lit ?_
        refine F.vl (R_assign rfl (ev_c fa _)) ?_; clear F fa; intro fa F
        refine F.vl (R_assign rfl (ev_c fa _)) ?_; clear F fa; intro fa F
        refine wpList_nil ?_
        refine hK15 _ _ ?_
        clear hK15
        refine wp_ret ?_
        (try simp only [Exit.inBlock, Exit.then, reduceIte])
        refine rt_v F (rs_2 F rfl rfl rfl) ?_
        have e : numE l many hi = 1 := (by rw [numE, if_neg (by omega), all_bad (by omega) hyes]; rfl)
        exact ⟨by rw [numS, e]; rfl, E⟩
      · skip
        have hno : outB (l.getD i 0) 0 hi = false := by simpa using hc23
        obtain ⟨hn1, hn2⟩ := outB_no.1 hno
        refine wp_skip ?_
        refine hK13 _ _ ?_
        clear hK13
        refine wp_region_lit ?_
        refine F.mv ?_; clear F fa; intro fa F
        refine F.mv ?_; clear F fa; intro fa F
        refine F.vl (R_add rfl (F.at rfl) (F.at rfl) (by omega) (by omega)) ?_; clear F fa; intro fa F
        rw [← sum_take l (show i < l.length by omega)] at F
        refine F.as ?_; clear F fa; intro fa F
        refine wpList_nil ?_
        refine hK10 _ _ ?_
        clear hK10
        refine wp_region_lit ?_
        refine F.vl (R_add rfl (F.at rfl) (ev_c fa _) (by omega) (by omega)) ?_; clear F fa; intro fa F
        refine F.mv ?_; clear F fa; intro fa F
        refine wpList_nil ?_
        show _ ∧ _
        exact ⟨by omega, _, ⟨rfl, EL1, (fun j hj => if e : j = i then e ▸ hno else hb j (by omega)), (by rw [sum_take l (by omega)]; omega), (by rw [sum_take l (by omega)]; omega)⟩, F.sub (.c 8 rfl (.c 17 rfl (.c 2 rfl (.c 15 rfl (.c 16 rfl .n)))))⟩
    · skip
      refine wp_exit ?_
      refine hK6 _ _ ?_
      clear hK6
      refine wp_seq_k fun K16 hK16 => ?_
      refine wp_region_lit ?_
      refine F.mv ?_; clear F fa; intro fa F
      refine F.as ?_; clear F fa; intro fa F
      refine F.vl (R_assign rfl (ev_c fa _)) ?_; clear F fa; intro fa F
      refine wpList_nil ?_
      refine hK16 _ _ ?_
      clear hK16
      refine wp_ret ?_
      (try simp only [Exit.inBlock, Exit.then, reduceIte])
      refine rt_v F (rs_2 F rfl rfl rfl) ?_
      have e : numE l many hi = 0 := (by rw [numE, if_neg (by omega), all_take hb (by omega)]; rfl)
      exact ⟨by rw [numS, e, if_pos rfl, List.take_of_length_le (by omega)], E⟩
end Go.Proofs.Ytdjeecgddbjbeaa
