/- The walks of the draws out of lots, whatever the seat. Conditions: at most a million draws. -/
import Derived.Test.YtdjeecgddbjbeaaBase
namespace Go.Proofs.Ytdjeecgddbjbeaa
open Go.RowKit
set_option linter.unusedVariables false
set_option linter.unusedSimpArgs false
set_option maxRecDepth 100000 in
set_option maxHeartbeats 1000000 in
theorem lnext_any (w0 w : World) (b k : Nat) (nv : Value) (h : LotsOk w0 w b k nv) (hk : k ≤ 1000000) :
    Calls Try.prog 70 #[.pointer (some ⟨b, 0, none⟩)] w fun e w' => ∃ v : Int, e = .returned (.int .u64 v) ∧ 0 ≤ v ∧ v < 72057594037927936 ∧ LotsOk w0 w' b (k + 1) nv ∧ Ext [b] w w' := by
  obtain ⟨hb, ⟨na, nc, xs, rfl, hn⟩, E0, d, st, q, hd0, hdk, hs0, hs1⟩ := h
  obtain ⟨d, rfl⟩ := Int.eq_ofNat_of_zero_le hd0
  have E : Ext [b] w w := Ext.refl _ _
  have HS := Lib.hid (slAt_of_rowsX (X := [b]) hn (fun W e => hn.ext e (by simp; omega)) 0)
  refine calls_has 67 Try.func70 rfl Try.ntmps70 (Nat.le_of_ble_eq_true rfl) ?_
  intro fa F
  refine wp_seq_k fun K1 hK1 => ?_
  refine wp_region_lit ?_
  refine F.vl (R_assign rfl (ev_c fa _)) ?_; clear F fa; intro fa F
  refine wpList_nil ?_
  refine hK1 _ _ ?_
  clear hK1
  refine wp_seq_k fun K2 hK2 => ?_
  refine wp_region_lit ?_
  refine F.mv ?_; clear F fa; intro fa F
  refine F.mv ?_; clear F fa; intro fa F
  refine F.vl (R_nilCheck rfl (F.at rfl)) ?_; clear F fa; intro fa F
  refine F.vl (R_field rfl (F.at rfl) Try.underlying71 rfl (n := 2) (sz := 1) rfl (by kernel_rfl) (by decide)) ?_; clear F fa; intro fa F
  refine F.vl (R_load rfl (F.at rfl) Try.underlying69 rfl ((cells_of_block q 2).trans (getS (getS (get0))))) ?_; clear F fa; intro fa F
  refine F.vl ((R_wmul rfl (F.at rfl) (ev_c fa _))) ?_; clear F fa; intro fa F
  refine F.vl ((R_wadd rfl (F.at rfl) (ev_c fa _))) ?_; clear F fa; intro fa F
  obtain ⟨s1, hs1'⟩ : ∃ s1, s1 = IntKind.u64.wrap (IntKind.u64.wrap (st * 6364136223846793005) + 1442695040888963407) := ⟨_, rfl⟩
  have hw1 := wrap_u64 (IntKind.u64.wrap (st * 6364136223846793005) + 1442695040888963407)
  rw [← hs1'] at F hw1
  refine F.vl (R_nilCheck rfl (F.at rfl)) ?_; clear F fa; intro fa F
  refine F.vl (R_field rfl (F.at rfl) Try.underlying71 rfl (n := 2) (sz := 1) rfl (by kernel_rfl) (by decide)) ?_; clear F fa; intro fa F
  refine sq_to rfl rfl (R_store rfl (F.at rfl) (F.at rfl) rfl (by kernel_rfl) ((cells_of_block q 2).trans (getS (getS (get0)))) (free_of_block q 2)) ?_; intro w1 hw
  replace q := put_cell hw q (by simp only [List.setIfInBounds_toArray, List.set_cons_succ, List.set_cons_zero]; exact rfl)
  replace E := ext_cell E hw (fun h => by first | exact absurd h (by omega) | simp)
  replace E0 := ext_cell E0 hw (fun h => by first | exact absurd h (by omega) | simp)
  clear hw
  refine wpList_nil ?_
  refine hK2 _ _ ?_
  clear hK2
  refine wp_seq_k fun K3 hK3 => ?_
  refine wp_seq_k fun K4 hK4 => ?_
  refine wp_region_st 9 follows (by kernel_rfl) fun w2 hh eh => ?_
  replace q := keep_same hh q
  replace E := ext_same E eh
  replace E0 := ext_same E0 eh
  clear hh eh
  refine F.smv ?_; clear F fa; intro fa F
  refine F.sv (R_nilCheck rfl (F.at rfl)) ?_; clear F fa; intro fa F
  refine F.sv (R_field rfl (F.at rfl) Try.underlying71 rfl (n := 1) (sz := 1) rfl (by kernel_rfl) (by decide)) ?_; clear F fa; intro fa F
  refine F.sv (R_load rfl (F.at rfl) Try.underlying3 rfl ((cells_of_block q 1).trans (getS (get0)))) ?_; clear F fa; intro fa F
  refine F.smv ?_; clear F fa; intro fa F
  refine F.sv (R_nilCheck rfl (F.at rfl)) ?_; clear F fa; intro fa F
  refine F.sv (R_field rfl (F.at rfl) Try.underlying71 rfl (n := 0) (sz := 1) rfl (by kernel_rfl) (by decide)) ?_; clear F fa; intro fa F
  refine F.sv (R_load rfl (F.at rfl) Try.underlying25 rfl ((cells_of_block q 0).trans (get0))) ?_; clear F fa; intro fa F
  refine F.sv (R_len rfl rfl (F.at rfl) Try.underlying25) ?_; clear F fa; intro fa F
  refine wpStill_nil ?_
  refine F.vl (R_lss rfl (F.at rfl) (F.at rfl)) ?_; clear F fa; intro fa F
  refine wpList_nil ?_
  refine hK4 _ _ ?_
  clear hK4
  refine cd_if F rfl (fun hc22 => ?_) (fun hc22 => ?_)
  · skip
    have hdx : d < xs.length := by omega
    refine wp_region_st 20 follows (by kernel_rfl) fun w3 hh eh => ?_
    replace q := keep_same hh q
    replace E := ext_same E eh
    replace E0 := ext_same E0 eh
    clear hh eh
    refine F.smv ?_; clear F fa; intro fa F
    refine F.smv ?_; clear F fa; intro fa F
    refine F.sv (R_nilCheck rfl (F.at rfl)) ?_; clear F fa; intro fa F
    refine F.sv (R_field rfl (F.at rfl) Try.underlying71 rfl (n := 2) (sz := 1) rfl (by kernel_rfl) (by decide)) ?_; clear F fa; intro fa F
    refine F.sv (R_load rfl (F.at rfl) Try.underlying69 rfl ((cells_of_block q 2).trans (getS (getS (get0))))) ?_; clear F fa; intro fa F
    refine F.smv ?_; clear F fa; intro fa F
    refine F.sv (R_nilCheck rfl (F.at rfl)) ?_; clear F fa; intro fa F
    refine F.sv (R_field rfl (F.at rfl) Try.underlying71 rfl (n := 0) (sz := 1) rfl (by kernel_rfl) (by decide)) ?_; clear F fa; intro fa F
    refine F.sv (R_load rfl (F.at rfl) Try.underlying25 rfl ((cells_of_block q 0).trans (get0))) ?_; clear F fa; intro fa F
    refine F.smv ?_; clear F fa; intro fa F
    refine F.sv (R_nilCheck rfl (F.at rfl)) ?_; clear F fa; intro fa F
    refine F.sv (R_field rfl (F.at rfl) Try.underlying71 rfl (n := 1) (sz := 1) rfl (by kernel_rfl) (by decide)) ?_; clear F fa; intro fa F
    refine F.sv (R_load rfl (F.at rfl) Try.underlying3 rfl ((cells_of_block q 1).trans (getS (get0)))) ?_; clear F fa; intro fa F
    obtain ⟨xb5, xo5, xa5, xr5⟩ := HS.out d (by omega)
    refine F.sv (R_ixSlice (sz := 1) rfl ((F.at rfl).trans (xa5 _ _)) (F.at rfl) Try.underlying25 (by kernel_rfl) (by omega) (by omega)) ?_; clear F fa; intro fa F
    refine F.sv (R_load rfl (F.at rfl) Try.underlying3 rfl (xr5 _ E0 0 _ rfl)) ?_; clear F fa; intro fa F
    refine F.sv ((R_convert rfl (F.at rfl) Try.underlying3 Try.underlying69)) ?_; clear F fa; intro fa F
    refine F.sv ((R_wmul rfl (F.at rfl) (ev_c fa _))) ?_; clear F fa; intro fa F
    refine F.sv ((R_wadd rfl (F.at rfl) (F.at rfl))) ?_; clear F fa; intro fa F
    refine F.sv (R_nilCheck rfl (F.at rfl)) ?_; clear F fa; intro fa F
    refine F.sv (R_field rfl (F.at rfl) Try.underlying71 rfl (n := 2) (sz := 1) rfl (by kernel_rfl) (by decide)) ?_; clear F fa; intro fa F
    refine wpStill_nil ?_
    refine sq_to rfl rfl (R_store rfl (F.at rfl) (F.at rfl) rfl (by kernel_rfl) ((cells_of_block q 2).trans (getS (getS (get0)))) (free_of_block q 2)) ?_; intro w4 hw
    replace q := put_cell hw q (by simp only [List.setIfInBounds_toArray, List.set_cons_succ, List.set_cons_zero]; exact rfl)
    replace E := ext_cell E hw (fun h => by first | exact absurd h (by omega) | simp)
    replace E0 := ext_cell E0 hw (fun h => by first | exact absurd h (by omega) | simp)
    clear hw
    refine wpList_nil ?_
    obtain ⟨s2, hs2'⟩ : ∃ s2, s2 = IntKind.u64.wrap (s1 + IntKind.u64.wrap (IntKind.u64.wrap (xs.getD d 0) * 2862933555777941757)) := ⟨_, rfl⟩
    replace hw1 := wrap_u64 (s1 + IntKind.u64.wrap (IntKind.u64.wrap (xs.getD d 0) * 2862933555777941757))
    rw [← hs2'] at q hw1
    refine hK3 _ _ ?_
    clear hK3
    refine wp_seq_k fun K6 hK6 => ?_
    refine wp_region_lit ?_
    refine F.mv ?_; clear F fa; intro fa F
    refine F.vl (R_nilCheck rfl (F.at rfl)) ?_; clear F fa; intro fa F
    refine F.vl (R_field rfl (F.at rfl) Try.underlying71 rfl (n := 1) (sz := 1) rfl (by kernel_rfl) (by decide)) ?_; clear F fa; intro fa F
    refine F.vl (R_load rfl (F.at rfl) Try.underlying3 rfl ((cells_of_block q 1).trans (getS (get0)))) ?_; clear F fa; intro fa F
    refine F.vl (R_add rfl (F.at rfl) (ev_c fa _) (by omega) (by omega)) ?_; clear F fa; intro fa F
    refine F.vl (R_nilCheck rfl (F.at rfl)) ?_; clear F fa; intro fa F
    refine F.vl (R_field rfl (F.at rfl) Try.underlying71 rfl (n := 1) (sz := 1) rfl (by kernel_rfl) (by decide)) ?_; clear F fa; intro fa F
    refine sq_to rfl rfl (R_store rfl (F.at rfl) (F.at rfl) rfl (by kernel_rfl) ((cells_of_block q 1).trans (getS (get0))) (free_of_block q 1)) ?_; intro w5 hw
    replace q := put_cell hw q (by simp only [List.setIfInBounds_toArray, List.set_cons_succ, List.set_cons_zero]; exact rfl)
    replace E := ext_cell E hw (fun h => by first | exact absurd h (by omega) | simp)
    replace E0 := ext_cell E0 hw (fun h => by first | exact absurd h (by omega) | simp)
    clear hw
    refine wpList_nil ?_
    refine hK6 _ _ ?_
    clear hK6
    refine wp_seq_k fun K7 hK7 => ?_
    refine wp_region_st 10 follows (by kernel_rfl) fun w6 hh eh => ?_
    replace q := keep_same hh q
    replace E := ext_same E eh
    replace E0 := ext_same E0 eh
    clear hh eh
    refine F.smv ?_; clear F fa; intro fa F
    refine F.sv (R_nilCheck rfl (F.at rfl)) ?_; clear F fa; intro fa F
    refine F.sv (R_field rfl (F.at rfl) Try.underlying71 rfl (n := 2) (sz := 1) rfl (by kernel_rfl) (by decide)) ?_; clear F fa; intro fa F
    refine F.sv (R_load rfl (F.at rfl) Try.underlying69 rfl ((cells_of_block q 2).trans (getS (getS (get0))))) ?_; clear F fa; intro fa F
    refine F.smv ?_; clear F fa; intro fa F
    refine F.sv (R_nilCheck rfl (F.at rfl)) ?_; clear F fa; intro fa F
    refine F.sv (R_field rfl (F.at rfl) Try.underlying71 rfl (n := 2) (sz := 1) rfl (by kernel_rfl) (by decide)) ?_; clear F fa; intro fa F
    refine F.sv (R_load rfl (F.at rfl) Try.underlying69 rfl ((cells_of_block q 2).trans (getS (getS (get0))))) ?_; clear F fa; intro fa F
    refine F.sv ((R_shr (m := 29) rfl (F.at rfl) (ev_c fa _))) ?_; clear F fa; intro fa F
    refine F.sv ((R_xor rfl (F.at rfl) (F.at rfl))) ?_; clear F fa; intro fa F
    refine wpStill_nil ?_
    refine F.as ?_; clear F fa; intro fa F
    refine wpList_nil ?_
    refine hK7 _ _ ?_
    clear hK7
    refine wp_seq_k fun K8 hK8 => ?_
    replace F := F.sub (.c 3 rfl .n)
    refine wp_region_lit ?_
    refine F.mv ?_; clear F fa; intro fa F
    refine F.vl ((R_wmul rfl (F.at rfl) (ev_c fa _))) ?_; clear F fa; intro fa F
    obtain ⟨s3, hs3'⟩ : ∃ s3, s3 = IntKind.u64.wrap (bits .xor .u64 s2 (s2.fdiv (2 ^ min 29 IntKind.u64.bits)) * 2685821657736338717) := ⟨_, rfl⟩
    have hw3 := wrap_u64 (bits .xor .u64 s2 (s2.fdiv (2 ^ min 29 IntKind.u64.bits)) * 2685821657736338717)
    rw [← hs3'] at F hw3
    refine F.as ?_; clear F fa; intro fa F
    refine wpList_nil ?_
    refine hK8 _ _ ?_
    clear hK8
    refine wp_seq_k fun K9 hK9 => ?_
    refine wp_region_lit ?_
    refine F.mv ?_; clear F fa; intro fa F
    refine F.mv ?_; clear F fa; intro fa F
    refine F.vl ((R_shr (m := 32) rfl (F.at rfl) (ev_c fa _))) ?_; clear F fa; intro fa F
    refine F.vl ((R_xor rfl (F.at rfl) (F.at rfl))) ?_; clear F fa; intro fa F
    refine F.vl ((R_shr (m := 8) rfl (F.at rfl) (ev_c fa _))) ?_; clear F fa; intro fa F
    refine F.as ?_; clear F fa; intro fa F
    refine wpList_nil ?_
    refine hK9 _ _ ?_
    clear hK9
    refine wp_ret ?_
    (try simp only [Exit.inBlock, Exit.then, reduceIte])
    refine rt_v F (rs_1 F rfl rfl) ?_
    have hf := fdiv_pow s3 (min 32 IntKind.u64.bits) hw3.1
    have hx := xor_u64 s3 (s3.fdiv (2 ^ min 32 IntKind.u64.bits)) hw3 ⟨hf.1, by omega⟩
    exact ⟨_, rfl, (shr8 hx).1, (shr8 hx).2, ⟨hb, ⟨na, nc, xs, rfl, hn⟩, E0, _, s2, q, by omega, by omega, hw1.1, hw1.2⟩, E⟩
  · skip
    obtain ⟨s2, hs2'⟩ : ∃ s2, s2 = s1 := ⟨_, rfl⟩
    rw [← hs2'] at q hw1
    refine wp_skip ?_
    refine hK3 _ _ ?_
    clear hK3
    refine wp_seq_k fun K10 hK10 => ?_
    refine wp_region_lit ?_
    refine F.mv ?_; clear F fa; intro fa F
    refine F.vl (R_nilCheck rfl (F.at rfl)) ?_; clear F fa; intro fa F
    refine F.vl (R_field rfl (F.at rfl) Try.underlying71 rfl (n := 1) (sz := 1) rfl (by kernel_rfl) (by decide)) ?_; clear F fa; intro fa F
    refine F.vl (R_load rfl (F.at rfl) Try.underlying3 rfl ((cells_of_block q 1).trans (getS (get0)))) ?_; clear F fa; intro fa F
    refine F.vl (R_add rfl (F.at rfl) (ev_c fa _) (by omega) (by omega)) ?_; clear F fa; intro fa F
    refine F.vl (R_nilCheck rfl (F.at rfl)) ?_; clear F fa; intro fa F
    refine F.vl (R_field rfl (F.at rfl) Try.underlying71 rfl (n := 1) (sz := 1) rfl (by kernel_rfl) (by decide)) ?_; clear F fa; intro fa F
    refine sq_to rfl rfl (R_store rfl (F.at rfl) (F.at rfl) rfl (by kernel_rfl) ((cells_of_block q 1).trans (getS (get0))) (free_of_block q 1)) ?_; intro w7 hw
    replace q := put_cell hw q (by simp only [List.setIfInBounds_toArray, List.set_cons_succ, List.set_cons_zero]; exact rfl)
    replace E := ext_cell E hw (fun h => by first | exact absurd h (by omega) | simp)
    replace E0 := ext_cell E0 hw (fun h => by first | exact absurd h (by omega) | simp)
    clear hw
    refine wpList_nil ?_
    refine hK10 _ _ ?_
    clear hK10
    refine wp_seq_k fun K11 hK11 => ?_
    refine wp_region_st 10 follows (by kernel_rfl) fun w8 hh eh => ?_
    replace q := keep_same hh q
    replace E := ext_same E eh
    replace E0 := ext_same E0 eh
    clear hh eh
    refine F.smv ?_; clear F fa; intro fa F
    refine F.sv (R_nilCheck rfl (F.at rfl)) ?_; clear F fa; intro fa F
    refine F.sv (R_field rfl (F.at rfl) Try.underlying71 rfl (n := 2) (sz := 1) rfl (by kernel_rfl) (by decide)) ?_; clear F fa; intro fa F
    refine F.sv (R_load rfl (F.at rfl) Try.underlying69 rfl ((cells_of_block q 2).trans (getS (getS (get0))))) ?_; clear F fa; intro fa F
    refine F.smv ?_; clear F fa; intro fa F
    refine F.sv (R_nilCheck rfl (F.at rfl)) ?_; clear F fa; intro fa F
    refine F.sv (R_field rfl (F.at rfl) Try.underlying71 rfl (n := 2) (sz := 1) rfl (by kernel_rfl) (by decide)) ?_; clear F fa; intro fa F
    refine F.sv (R_load rfl (F.at rfl) Try.underlying69 rfl ((cells_of_block q 2).trans (getS (getS (get0))))) ?_; clear F fa; intro fa F
    refine F.sv ((R_shr (m := 29) rfl (F.at rfl) (ev_c fa _))) ?_; clear F fa; intro fa F
    refine F.sv ((R_xor rfl (F.at rfl) (F.at rfl))) ?_; clear F fa; intro fa F
    refine wpStill_nil ?_
    refine F.as ?_; clear F fa; intro fa F
    refine wpList_nil ?_
    refine hK11 _ _ ?_
    clear hK11
    refine wp_seq_k fun K12 hK12 => ?_
    refine wp_region_lit ?_
    refine F.mv ?_; clear F fa; intro fa F
    refine F.vl ((R_wmul rfl (F.at rfl) (ev_c fa _))) ?_; clear F fa; intro fa F
    obtain ⟨s3, hs3'⟩ : ∃ s3, s3 = IntKind.u64.wrap (bits .xor .u64 s2 (s2.fdiv (2 ^ min 29 IntKind.u64.bits)) * 2685821657736338717) := ⟨_, rfl⟩
    have hw3 := wrap_u64 (bits .xor .u64 s2 (s2.fdiv (2 ^ min 29 IntKind.u64.bits)) * 2685821657736338717)
    rw [← hs3'] at F hw3
    refine F.as ?_; clear F fa; intro fa F
    refine wpList_nil ?_
    refine hK12 _ _ ?_
    clear hK12
    refine wp_seq_k fun K13 hK13 => ?_
    refine wp_region_lit ?_
    refine F.mv ?_; clear F fa; intro fa F
    refine F.mv ?_; clear F fa; intro fa F
    refine F.vl ((R_shr (m := 32) rfl (F.at rfl) (ev_c fa _))) ?_; clear F fa; intro fa F
    refine F.vl ((R_xor rfl (F.at rfl) (F.at rfl))) ?_; clear F fa; intro fa F
    refine F.vl ((R_shr (m := 8) rfl (F.at rfl) (ev_c fa _))) ?_; clear F fa; intro fa F
    refine F.as ?_; clear F fa; intro fa F
    refine wpList_nil ?_
    refine hK13 _ _ ?_
    clear hK13
    refine wp_ret ?_
    (try simp only [Exit.inBlock, Exit.then, reduceIte])
    refine rt_v F (rs_1 F rfl rfl) ?_
    have hf := fdiv_pow s3 (min 32 IntKind.u64.bits) hw3.1
    have hx := xor_u64 s3 (s3.fdiv (2 ^ min 32 IntKind.u64.bits)) hw3 ⟨hf.1, by omega⟩
    exact ⟨_, rfl, (shr8 hx).1, (shr8 hx).2, ⟨hb, ⟨na, nc, xs, rfl, hn⟩, E0, _, s2, q, by omega, by omega, hw1.1, hw1.2⟩, E⟩
set_option maxRecDepth 100000 in
theorem upto_any (w0 w : World) (b k : Nat) (nv : Value) (n : Int) (h : LotsOk w0 w b k nv) (hk : k ≤ 1000000) (h0 : -1000000 ≤ n) (hn : n ≤ 1000000) :
    Calls Try.prog 26 #[.pointer (some ⟨b, 0, none⟩), .int .i64 n] w fun e w' => ∃ v : Int, e = .returned (.int .i64 v) ∧ 0 ≤ v ∧ v ≤ max n 0 ∧ LotsOk w0 w' b (k + 1) nv ∧ Ext [b] w w' := by
  have E : Ext [b] w w := Ext.refl _ _
  have HL := h
  clear h
  refine calls_has 14 Try.func26 rfl Try.ntmps26 (Nat.le_of_ble_eq_true rfl) ?_
  intro fa F
  refine wp_seq_k fun K1 hK1 => ?_
  refine wp_region_lit ?_
  refine F.vl (R_assign rfl (ev_c fa _)) ?_; clear F fa; intro fa F
  refine wpList_nil ?_
  refine hK1 _ _ ?_
  clear hK1
  refine wp_seq_k fun K2 hK2 => ?_
  refine wp_seq_k fun K3 hK3 => ?_
  refine wp_region_lit ?_
  refine F.mv ?_; clear F fa; intro fa F
  refine F.vl (R_lss rfl (F.at rfl) (ev_c fa _)) ?_; clear F fa; intro fa F
  refine wpList_nil ?_
  refine hK3 _ _ ?_
  clear hK3
  refine cd_if F rfl (fun hc6 => ?_) (fun hc6 => ?_)
  · skip
    refine wp_seq_k fun K4 hK4 => ?_
    refine wp_region_lit ?_
    refine F.vl (R_assign rfl (ev_c fa _)) ?_; clear F fa; intro fa F
    refine wpList_nil ?_
    refine hK4 _ _ ?_
    clear hK4
    refine wp_ret ?_
    (try simp only [Exit.inBlock, Exit.then, reduceIte])
    refine rt_v F (rs_1 F rfl rfl) ?_
    exact ⟨0, rfl, by omega, by omega, lots_mono HL (by omega), E⟩
  · skip
    refine wp_skip ?_
    refine hK2 _ _ ?_
    clear hK2
    refine wp_seq_k fun K5 hK5 => ?_
    refine wp_region_lit ?_
    refine F.mv ?_; clear F fa; intro fa F
    refine sq_call F rfl (by decide) rfl (R_callV rfl rfl Try.call70 (mpS (F.at rfl) mp0)) (lnext_any w0 _ b k nv HL hk) fun e w1 hR => ?_
    obtain ⟨v, rfl, hv1, hv2, HL, e1⟩ := hR
    refine ⟨_, rfl, ?_⟩; clear F fa; intro fa F
    replace E := E.trans' e1 (fun i hi hl => by simp only [List.mem_cons, List.not_mem_nil, or_false] at hi ⊢; omega)
    have hu := upto_val (n := n) ⟨hv1, hv2⟩ ⟨by omega, hn⟩
    refine F.mv ?_; clear F fa; intro fa F
    refine F.vl (R_add rfl (F.at rfl) (ev_c fa _) (by omega) (by omega)) ?_; clear F fa; intro fa F
    refine F.vl ((R_convert rfl (F.at rfl) Try.underlying3 Try.underlying69)) ?_; clear F fa; intro fa F
    rw [hu.1] at F
    refine F.vl ((R_rem rfl (F.at rfl) (F.at rfl) (by omega))) ?_; clear F fa; intro fa F
    refine F.vl ((R_convert rfl (F.at rfl) Try.underlying69 Try.underlying3)) ?_; clear F fa; intro fa F
    rw [hu.2.1] at F
    refine F.as ?_; clear F fa; intro fa F
    refine wpList_nil ?_
    refine hK5 _ _ ?_
    clear hK5
    refine wp_ret ?_
    (try simp only [Exit.inBlock, Exit.then, reduceIte])
    refine rt_v F (rs_1 F rfl rfl) ?_
    exact ⟨_, rfl, hu.2.2.1, by omega, HL, E⟩
theorem in_any (w0 w : World) (b k : Nat) (nv : Value) (lo hi : Int) (h : LotsOk w0 w b k nv) (hk : k ≤ 1000000) (h1 : -1000 ≤ lo) (h2 : lo ≤ 1000) (h3 : -1000 ≤ hi) (h4 : hi ≤ 1000) :
    Calls Try.prog 49 #[.pointer (some ⟨b, 0, none⟩), .int .i64 lo, .int .i64 hi] w fun e w' => ∃ v : Int, e = .returned (.int .i64 v) ∧ lo ≤ v ∧ v ≤ max lo hi ∧ LotsOk w0 w' b (k + 1) nv ∧ Ext [b] w w' := by
  have E : Ext [b] w w := Ext.refl _ _
  have HL := h
  clear h
  refine calls_has 14 Try.func49 rfl Try.ntmps49 (Nat.le_of_ble_eq_true rfl) ?_
  intro fa F
  refine wp_seq_k fun K1 hK1 => ?_
  refine wp_region_lit ?_
  refine F.vl (R_assign rfl (ev_c fa _)) ?_; clear F fa; intro fa F
  refine wpList_nil ?_
  refine hK1 _ _ ?_
  clear hK1
  refine wp_seq_k fun K2 hK2 => ?_
  refine wp_region_lit ?_
  refine F.mv ?_; clear F fa; intro fa F
  refine F.mv ?_; clear F fa; intro fa F
  refine F.mv ?_; clear F fa; intro fa F
  refine F.mv ?_; clear F fa; intro fa F
  refine F.vl (R_sub rfl (F.at rfl) (F.at rfl) (by omega) (by omega)) ?_; clear F fa; intro fa F
  refine sq_call F rfl (by decide) rfl (R_callV rfl rfl Try.call26 (mpS (F.at rfl) (mpS (F.at rfl) mp0))) (upto_any w0 _ b k nv (hi - lo) HL hk (by omega) (by omega)) fun e w1 hR => ?_
  obtain ⟨v, rfl, hv1, hv2, HL, e1⟩ := hR
  refine ⟨_, rfl, ?_⟩; clear F fa; intro fa F
  replace E := E.trans' e1 (fun i hi hl => by simp only [List.mem_cons, List.not_mem_nil, or_false] at hi ⊢; omega)
  refine F.vl (R_add rfl (F.at rfl) (F.at rfl) (by omega) (by omega)) ?_; clear F fa; intro fa F
  refine F.as ?_; clear F fa; intro fa F
  refine wpList_nil ?_
  refine hK2 _ _ ?_
  clear hK2
  refine wp_ret ?_
  (try simp only [Exit.inBlock, Exit.then, reduceIte])
  refine rt_v F (rs_1 F rfl rfl) ?_
  exact ⟨_, rfl, by omega, by omega, HL, E⟩
set_option maxRecDepth 100000 in
theorem of_any (w0 w : World) (b k : Nat) (nv : Value) (g : Nat) (T : TypeId) (xs : List Int) (h : LotsOk w0 w b k nv) (hk : k ≤ 1000000) (hg : w.heap[g]? = some (.cells (xs.map (Value.int .i64)).toArray T (0, 0))) (hgb : g ≠ b) (hx : 0 < xs.length) (hx2 : xs.length ≤ 1000) :
    Calls Try.prog 50 #[.pointer (some ⟨b, 0, none⟩), .slice (some ⟨g, 0, none⟩) xs.length xs.length] w fun e w' => ∃ v : Int, e = .returned (.int .i64 v) ∧ v ∈ xs ∧ LotsOk w0 w' b (k + 1) nv ∧ Ext [b] w w' := by
  have E : Ext [b] w w := Ext.refl _ _
  have HL := h
  clear h
  have HG : Hid (∀ W, Ext [b] w W → IsRows W (.slice (some ⟨g, 0, none⟩) xs.length xs.length) 1 (xs.map intRow)) := fun W e => rows_lit xs xs.length (e.keep hg (by simp [hgb]))
  have HS := Lib.hid (slAt_of_rowsX (X := [b]) (HG.out _ E) (fun W e => HG.out _ e) 0)
  clear hg
  refine calls_has 13 Try.func50 rfl Try.ntmps50 (Nat.le_of_ble_eq_true rfl) ?_
  intro fa F
  refine wp_seq_k fun K1 hK1 => ?_
  refine wp_region_lit ?_
  refine F.vl (R_assign rfl (ev_c fa _)) ?_; clear F fa; intro fa F
  refine wpList_nil ?_
  refine hK1 _ _ ?_
  clear hK1
  refine wp_seq_k fun K2 hK2 => ?_
  refine wp_region_lit ?_
  refine F.mv ?_; clear F fa; intro fa F
  refine F.mv ?_; clear F fa; intro fa F
  refine F.mv ?_; clear F fa; intro fa F
  refine F.vl (R_len rfl rfl (F.at rfl) Try.underlying25) ?_; clear F fa; intro fa F
  refine F.vl (R_sub rfl (F.at rfl) (ev_c fa _) (by omega) (by omega)) ?_; clear F fa; intro fa F
  refine sq_call F rfl (by decide) rfl (R_callV rfl rfl Try.call26 (mpS (F.at rfl) (mpS (F.at rfl) mp0))) (upto_any w0 _ b k nv ((xs.length : Int) - 1) HL hk (by omega) (by omega)) fun e w1 hR => ?_
  obtain ⟨v, rfl, hv1, hv2, HL, e1⟩ := hR
  refine ⟨_, rfl, ?_⟩; clear F fa; intro fa F
  replace E := E.trans' e1 (fun i hi hl => by simp only [List.mem_cons, List.not_mem_nil, or_false] at hi ⊢; omega)
  obtain ⟨i, rfl⟩ := Int.eq_ofNat_of_zero_le hv1
  have hil : i < xs.length := by omega
  obtain ⟨xb3, xo3, xa3, xr3⟩ := HS.out i (by omega)
  refine F.vl (R_ixSlice (sz := 1) rfl ((F.at rfl).trans (xa3 _ _)) (F.at rfl) Try.underlying25 (by kernel_rfl) (by omega) (by omega)) ?_; clear F fa; intro fa F
  refine F.vl (R_load rfl (F.at rfl) Try.underlying3 rfl (xr3 _ E 0 _ rfl)) ?_; clear F fa; intro fa F
  refine F.as ?_; clear F fa; intro fa F
  refine wpList_nil ?_
  refine hK2 _ _ ?_
  clear hK2
  refine wp_ret ?_
  (try simp only [Exit.inBlock, Exit.then, reduceIte])
  refine rt_v F (rs_1 F rfl rfl) ?_
  exact ⟨_, rfl, getD_mem 0 hil, HL, E⟩
theorem rare_any (w0 w : World) (b k : Nat) (nv : Value) (n : Int) (h : LotsOk w0 w b k nv) (hk : k ≤ 1000000) (h0 : 1 ≤ n) (hn : n ≤ 1000000) :
    Calls Try.prog 52 #[.pointer (some ⟨b, 0, none⟩), .int .i64 n] w fun e w' => ∃ r, e = .returned (.bool r) ∧ LotsOk w0 w' b (k + 1) nv ∧ Ext [b] w w' := by
  have E : Ext [b] w w := Ext.refl _ _
  refine calls_has 10 Try.func52 rfl Try.ntmps52 (Nat.le_of_ble_eq_true rfl) ?_
  intro fa F
  refine wp_seq_k fun K1 hK1 => ?_
  refine wp_region_lit ?_
  refine F.vl (R_assign rfl (ev_c fa _)) ?_; clear F fa; intro fa F
  refine wpList_nil ?_
  refine hK1 _ _ ?_
  clear hK1
  refine wp_seq_k fun K2 hK2 => ?_
  refine wp_region_lit ?_
  refine F.mv ?_; clear F fa; intro fa F
  refine F.mv ?_; clear F fa; intro fa F
  refine F.vl (R_sub rfl (F.at rfl) (ev_c fa _) (by omega) (by omega)) ?_; clear F fa; intro fa F
  refine sq_call F rfl (by decide) rfl (R_callV rfl rfl Try.call26 (mpS (F.at rfl) (mpS (F.at rfl) mp0))) (upto_any w0 _ b k nv (n - 1) h hk (by omega) (by omega)) fun e w1 hR => ?_
  obtain ⟨v, rfl, hv0, hv1, HL, e1⟩ := hR
  refine ⟨_, rfl, ?_⟩; clear F fa; intro fa F
  replace E := E.trans' e1 (fun i hi hl => by simp only [List.mem_cons, List.not_mem_nil, or_false] at hi ⊢; omega)
  refine F.vl (R_eqlD rfl (F.at rfl) (ev_c fa _)) ?_; clear F fa; intro fa F
  refine F.as ?_; clear F fa; intro fa F
  refine wpList_nil ?_
  refine hK2 _ _ ?_
  clear hK2
  refine wp_ret ?_
  (try simp only [Exit.inBlock, Exit.then, reduceIte])
  refine rt_v F (rs_1 F rfl rfl) ?_
  exact ⟨_, rfl, HL, E⟩
theorem newLots_any (w : World) (a : Option Addr) (n c : Nat) (zs : List Int) (h : IsRow .i64 w a n c zs) :
    Calls Try.prog 13 #[.slice a n c] w fun e w' => ∃ b, e = .returned (.pointer (some ⟨b, 0, none⟩)) ∧ w.heap.size ≤ b ∧ b < w'.heap.size ∧ LotsOk w w' b 0 (.slice a n c) ∧ Ext [] w w' := by
  obtain ⟨xs, hxl, hr⟩ := rows_of_isRow h
  subst hxl
  have E : Ext [] w w := Ext.refl _ _
  refine calls_has 6 Try.func13 rfl Try.ntmps13 (Nat.le_of_ble_eq_true rfl) ?_
  intro fa F
  refine wp_seq_k fun K1 hK1 => ?_
  refine wp_region_lit ?_
  refine F.vl (R_assign rfl (ev_c fa _)) ?_; clear F fa; intro fa F
  refine wpList_nil ?_
  refine hK1 _ _ ?_
  clear hK1
  refine wp_seq_k fun K2 hK2 => ?_
  refine wp_region_lit ?_
  refine F.mv ?_; clear F fa; intro fa F
  refine F.vl (R_buildV rfl (prS (F.at rfl) (prS (ev_c fa _) pr0)) (cells := #[.slice a xs.length c, .int .i64 0, .int .u64 1]) (by kernel_rfl)) ?_; clear F fa; intro fa F
  refine sq_new F rfl (by decide) rfl (R_box rfl (F.at rfl)) ?_; clear F fa; intro fa w1 F hw
  obtain ⟨n5, hn⟩ : ∃ n, n = w.heap.size := ⟨_, rfl⟩
  rw [← hn] at F
  have s5 : w.heap.size ≤ n5 := Nat.le_of_eq hn.symm
  have l5_E : w.heap.size ≤ n5 := by rw [hn]; exact E.size
  replace E := ext_alloc E hw
  have q5 := new_row hw hn
  clear hw hn
  refine F.as ?_; clear F fa; intro fa F
  refine wpList_nil ?_
  refine hK2 _ _ ?_
  clear hK2
  refine wp_ret ?_
  (try simp only [Exit.inBlock, Exit.then, reduceIte])
  refine rt_v F (rs_1 F rfl rfl) ?_
  exact ⟨n5, rfl, l5_E, blk_lt q5, ⟨l5_E, ⟨a, c, xs, rfl, hr⟩, E.mono (fun _ h => absurd h (by simp)), 0, 1, q5, by omega, by omega, by omega, by omega⟩, E⟩
end Go.Proofs.Ytdjeecgddbjbeaa
