/- The walks of checkLink and Check. Conditions: links and readings come with singers and autumns within a million. -/
import Derived.Test.YtholfdgebdlgjaaTp
import Derived.Test.YtholfdgebdlgjaaSy
namespace Go.Proofs.Ytholfdgebdlgjaa
open Go.RowKit
set_option linter.unusedVariables false
def lnkE (S A s a o h lo hi : Int) : Int := firstE [knownE s S, knownE o S, knownE a A, knownE h A, if s = o ∧ a = h then 4 else 0, spanE lo hi (-200) 200]
set_option maxHeartbeats 2000000 in
theorem checkLink_any (S A T bl bm pl pm sl : Int) (vg vr vl : Value) (s a o h lo hi : Int) (w : World) (h1 : -1000000 ≤ S) (h2 : S ≤ 1000000) (h3 : -1000000 ≤ A) (h4 : A ≤ 1000000) :
    Calls Try.prog 86 #[.agg #[.int .i64 S, .int .i64 A, .int .i64 T, .int .i64 bl, .int .i64 bm, .int .i64 pl, .int .i64 pm, .int .i64 sl, vg, vr, vl], .agg #[.int .i64 s, .int .i64 a, .int .i64 o, .int .i64 h, .int .i64 lo, .int .i64 hi]] w fun e w' => e = .returned (.int .i64 (lnkE S A s a o h lo hi)) ∧ Ext [] w w' := by
  have E : Ext [] w w := Ext.refl _ _
  have e4 : s = o ∧ a = h → lnkE S A s a o h lo hi = firstE [knownE s S, knownE o S, knownE a A, knownE h A, 4, spanE lo hi (-200) 200] := fun c => by rw [lnkE, if_pos c]
  have e0 : ¬ (s = o ∧ a = h) → lnkE S A s a o h lo hi = firstE [knownE s S, knownE o S, knownE a A, knownE h A, 0, spanE lo hi (-200) 200] := fun c => by rw [lnkE, if_neg c]
  by_cases c1 : s = o
  · by_cases c2 : a = h
    · have HE := Lib.hid (e4 ⟨c1, c2⟩)
      clear e4 e0
      go_enter Try.func86, Try.ntmps86
      go_upto_region 0 with (fail)
      refine wp_region_lit ?_
      refine seq_new rfl rfl (R_box (v := .agg _) rfl rfl) (by simp only [List.set_cons_succ, List.set_cons_zero]; exact rfl) fun w1 hw => ?_
      obtain ⟨n2, hn⟩ : ∃ n, n = w.heap.size := ⟨_, rfl⟩
      rw [← hn]
      have l2 : w.heap.size ≤ n2 := by rw [hn]; exact E.size
      have q2 := new_row hw hn
      replace E := ext_alloc E hw
      clear hw hn
      refine seq_new rfl rfl (R_box (v := .agg _) rfl rfl) (by simp only [List.set_cons_succ, List.set_cons_zero]; exact rfl) fun w2 hw => ?_
      obtain ⟨n3, hn⟩ : ∃ n, n = w1.heap.size := ⟨_, rfl⟩
      rw [← hn]
      have l3 : w.heap.size ≤ n3 := by rw [hn]; exact E.size
      have m3_2 : n2 < n3 := by rw [hn]; exact blk_lt q2
      replace q2 := keep_alloc hw q2
      have q3 := new_row hw hn
      replace E := ext_alloc E hw
      clear hw hn
      refine seq_val rfl rfl (R_assign (v := .int .i64 _) rfl rfl) (by simp only [List.set_cons_succ, List.set_cons_zero]; exact rfl) ?_
      refine wpList_nil ?_
      have c3_0 := (cells_of_block q3 0).trans rfl
      have c3_1 := (cells_of_block q3 1).trans rfl
      have c3_2 := (cells_of_block q3 2).trans rfl
      have c3_3 := (cells_of_block q3 3).trans rfl
      go_upto_region 4 with (fail)
      clear c3_0 c3_1 c3_2 c3_3
      go_upto_region 4 with (fail)
      refine region_any (Ext [] w2) follows fun w3 hh eS => ?_
      have q2_ := q2
      have q3_ := q3
      replace q2 := keep_same hh q2
      replace q3 := keep_same hh q3
      replace E := ext_same E eS
      refine anyH_take (i := 0) rfl (by kernel_rfl) (by kernel_rfl) (by kernel_rfl) (fun _ _ _ h => h) rfl rfl (fun w' hS => R_field rfl rfl Try.underlying75 rfl (n := 0) (sz := 1) rfl (by kernel_rfl) (by decide)) eS (by simp only [List.set_cons_succ, List.set_cons_zero]; exact rfl) ?_
      refine anyH_take (i := 1) rfl (by kernel_rfl) (by kernel_rfl) (by kernel_rfl) (fun _ _ _ h => h) rfl rfl (fun w' hS => R_load rfl rfl Try.underlying3 rfl ((cells_of_block (hS.keep q3_ (by simp)) 0).trans (get0))) eS (by simp only [List.set_cons_succ, List.set_cons_zero]; exact rfl) ?_
      refine anyH_take (i := 2) rfl (by kernel_rfl) (by kernel_rfl) (by kernel_rfl) (fun _ _ _ h => h) rfl rfl (fun w' hS => R_field rfl rfl Try.underlying28 rfl (n := 0) (sz := 1) rfl (by kernel_rfl) (by decide)) eS (by simp only [List.set_cons_succ, List.set_cons_zero]; exact rfl) ?_
      refine anyH_take (i := 3) rfl (by kernel_rfl) (by kernel_rfl) (by kernel_rfl) (fun _ _ _ h => h) rfl rfl (fun w' hS => R_load rfl rfl Try.underlying3 rfl ((cells_of_block (hS.keep q2_ (by simp)) 0).trans (get0))) eS (by simp only [List.set_cons_succ, List.set_cons_zero]; exact rfl) ?_
      refine anyH_take (i := 5) rfl (by kernel_rfl) (by kernel_rfl) (by kernel_rfl) (fun _ _ _ h => h) rfl rfl (fun w' hS => R_field rfl rfl Try.underlying75 rfl (n := 2) (sz := 1) rfl (by kernel_rfl) (by decide)) eS (by simp only [List.set_cons_succ, List.set_cons_zero]; exact rfl) ?_
      refine anyH_take (i := 6) rfl (by kernel_rfl) (by kernel_rfl) (by kernel_rfl) (fun _ _ _ h => h) rfl rfl (fun w' hS => R_load rfl rfl Try.underlying3 rfl ((cells_of_block (hS.keep q3_ (by simp)) 2).trans (getS (getS (get0))))) eS (by simp only [List.set_cons_succ, List.set_cons_zero]; exact rfl) ?_
      refine anyH_take (i := 7) rfl (by kernel_rfl) (by kernel_rfl) (by kernel_rfl) (fun _ _ _ h => h) rfl rfl (fun w' hS => R_field rfl rfl Try.underlying28 rfl (n := 0) (sz := 1) rfl (by kernel_rfl) (by decide)) eS (by simp only [List.set_cons_succ, List.set_cons_zero]; exact rfl) ?_
      refine anyH_take (i := 8) rfl (by kernel_rfl) (by kernel_rfl) (by kernel_rfl) (fun _ _ _ h => h) rfl rfl (fun w' hS => R_load rfl rfl Try.underlying3 rfl ((cells_of_block (hS.keep q2_ (by simp)) 0).trans (get0))) eS (by simp only [List.set_cons_succ, List.set_cons_zero]; exact rfl) ?_
      refine anyH_take (i := 10) rfl (by kernel_rfl) (by kernel_rfl) (by kernel_rfl) (fun _ _ _ h => h) rfl rfl (fun w' hS => R_field rfl rfl Try.underlying75 rfl (n := 1) (sz := 1) rfl (by kernel_rfl) (by decide)) eS (by simp only [List.set_cons_succ, List.set_cons_zero]; exact rfl) ?_
      refine anyH_take (i := 11) rfl (by kernel_rfl) (by kernel_rfl) (by kernel_rfl) (fun _ _ _ h => h) rfl rfl (fun w' hS => R_load rfl rfl Try.underlying3 rfl ((cells_of_block (hS.keep q3_ (by simp)) 1).trans (getS (get0)))) eS (by simp only [List.set_cons_succ, List.set_cons_zero]; exact rfl) ?_
      refine anyH_take (i := 12) rfl (by kernel_rfl) (by kernel_rfl) (by kernel_rfl) (fun _ _ _ h => h) rfl rfl (fun w' hS => R_field rfl rfl Try.underlying28 rfl (n := 1) (sz := 1) rfl (by kernel_rfl) (by decide)) eS (by simp only [List.set_cons_succ, List.set_cons_zero]; exact rfl) ?_
      refine anyH_take (i := 13) rfl (by kernel_rfl) (by kernel_rfl) (by kernel_rfl) (fun _ _ _ h => h) rfl rfl (fun w' hS => R_load rfl rfl Try.underlying3 rfl ((cells_of_block (hS.keep q2_ (by simp)) 1).trans (getS (get0)))) eS (by simp only [List.set_cons_succ, List.set_cons_zero]; exact rfl) ?_
      refine anyH_take (i := 15) rfl (by kernel_rfl) (by kernel_rfl) (by kernel_rfl) (fun _ _ _ h => h) rfl rfl (fun w' hS => R_field rfl rfl Try.underlying75 rfl (n := 3) (sz := 1) rfl (by kernel_rfl) (by decide)) eS (by simp only [List.set_cons_succ, List.set_cons_zero]; exact rfl) ?_
      refine anyH_take (i := 16) rfl (by kernel_rfl) (by kernel_rfl) (by kernel_rfl) (fun _ _ _ h => h) rfl rfl (fun w' hS => R_load rfl rfl Try.underlying3 rfl ((cells_of_block (hS.keep q3_ (by simp)) 3).trans (getS (getS (getS (get0)))))) eS (by simp only [List.set_cons_succ, List.set_cons_zero]; exact rfl) ?_
      refine anyH_take (i := 17) rfl (by kernel_rfl) (by kernel_rfl) (by kernel_rfl) (fun _ _ _ h => h) rfl rfl (fun w' hS => R_field rfl rfl Try.underlying28 rfl (n := 1) (sz := 1) rfl (by kernel_rfl) (by decide)) eS (by simp only [List.set_cons_succ, List.set_cons_zero]; exact rfl) ?_
      refine anyH_take (i := 18) rfl (by kernel_rfl) (by kernel_rfl) (by kernel_rfl) (fun _ _ _ h => h) rfl rfl (fun w' hS => R_load rfl rfl Try.underlying3 rfl ((cells_of_block (hS.keep q2_ (by simp)) 1).trans (getS (get0)))) eS (by simp only [List.set_cons_succ, List.set_cons_zero]; exact rfl) ?_
      refine anyH_take (i := 20) rfl (by kernel_rfl) (by kernel_rfl) (by kernel_rfl) (fun _ _ _ h => h) rfl rfl (fun w' hS => R_move (v := .int .i64 _) rfl rfl) eS (by simp only [List.set_cons_succ, List.set_cons_zero]; exact rfl) ?_
      refine anyH_take (i := 21) rfl (by kernel_rfl) (by kernel_rfl) (by kernel_rfl) (fun _ _ _ h => h) rfl rfl (fun w' hS => R_field rfl rfl Try.underlying75 rfl (n := 4) (sz := 2) rfl (by kernel_rfl) (by decide)) eS (by simp only [List.set_cons_succ, List.set_cons_zero]; exact rfl) ?_
      refine anyH_take (i := 22) rfl (by kernel_rfl) (by kernel_rfl) (by kernel_rfl) (fun _ _ _ h => h) rfl rfl (fun w' hS => R_loadRow rfl rfl Try.underlying23 rfl (by kernel_rfl) (range_mid' (n := 2) (hS.keep q3_ (by simp)) rfl (midS (getS (getS (getS (getS (get0))))) (midS (getS (getS (getS (getS (getS (get0)))))) mid0)))) eS (by simp only [List.set_cons_succ, List.set_cons_zero]; exact rfl) ?_
      refine anyH_call (i := 4) rfl (by kernel_rfl) rfl rfl (by kernel_rfl) (known_any s S _ (by omega) (by omega)) fun e w' hR => ?_
      obtain ⟨rfl, rfl⟩ := hR
      refine ⟨_, _, rfl, (by simp only [List.set_cons_succ, List.set_cons_zero]; exact rfl), eS, ?_⟩
      refine anyH_call (i := 9) rfl (by kernel_rfl) rfl rfl (by kernel_rfl) (known_any o S _ (by omega) (by omega)) fun e w' hR => ?_
      obtain ⟨rfl, rfl⟩ := hR
      refine ⟨_, _, rfl, (by simp only [List.set_cons_succ, List.set_cons_zero]; exact rfl), eS, ?_⟩
      refine anyH_call (i := 14) rfl (by kernel_rfl) rfl rfl (by kernel_rfl) (known_any a A _ (by omega) (by omega)) fun e w' hR => ?_
      obtain ⟨rfl, rfl⟩ := hR
      refine ⟨_, _, rfl, (by simp only [List.set_cons_succ, List.set_cons_zero]; exact rfl), eS, ?_⟩
      refine anyH_call (i := 19) rfl (by kernel_rfl) rfl rfl (by kernel_rfl) (known_any h A _ (by omega) (by omega)) fun e w' hR => ?_
      obtain ⟨rfl, rfl⟩ := hR
      refine ⟨_, _, rfl, (by simp only [List.set_cons_succ, List.set_cons_zero]; exact rfl), eS, ?_⟩
      refine anyH_call (i := 23) rfl (by kernel_rfl) rfl rfl (by kernel_rfl) (span_any lo hi (-200) 200 _) fun e w8 hR => ?_
      obtain ⟨rfl, hb⟩ := hR
      replace eS := eS.nil (Ext.of_below hb)
      replace q2 := (Ext.of_below hb).keep0 q2
      replace q3 := (Ext.of_below hb).keep0 q3
      replace E := ext_same E (Ext.of_below hb)
      refine ⟨_, _, rfl, (by simp only [List.set_cons_succ, List.set_cons_zero]; exact rfl), eS, ?_⟩
      refine anyH_new (i := 24) rfl (by kernel_rfl) rfl rfl (R_buildSlice rfl Try.underlying169 (size := 1) (by kernel_rfl) (by decide) (by decide) Try.zeroValue37 (cells := #[.int .i64 (knownE s S), .int .i64 (knownE o S), .int .i64 (knownE a A), .int .i64 (knownE h A), .int .i64 4, .int .i64 (spanE lo hi (-200) 200)]) (by kernel_rfl)) (by simp only [List.set_cons_succ, List.set_cons_zero]; exact rfl) fun w9 hw => ?_
      replace eS := ext_alloc eS hw
      obtain ⟨n42, hn⟩ : ∃ n, n = w8.heap.size := ⟨_, rfl⟩
      rw [← hn]
      have l42 : w.heap.size ≤ n42 := by rw [hn]; exact E.size
      have m42_2 : n2 < n42 := by rw [hn]; exact blk_lt q2
      have m42_3 : n3 < n42 := by rw [hn]; exact blk_lt q3
      replace q2 := keep_alloc hw q2
      replace q3 := keep_alloc hw q3
      have q42 := new_block hw hn
      replace E := ext_alloc E hw
      clear hw hn
      refine ⟨eS, ?_⟩
      refine anyH_call (i := 25) rfl (by kernel_rfl) rfl rfl (by kernel_rfl) (first_lit [knownE s S, knownE o S, knownE a A, knownE h A, 4, spanE lo hi (-200) 200] _ 37 _ _ rfl (by simp) (by simp) q42) fun e w' hR => ?_
      obtain ⟨rfl, rfl⟩ := hR
      refine ⟨_, _, rfl, (by simp only [List.set_cons_succ, List.set_cons_zero]; exact rfl), eS, ?_⟩
      refine anyH_take (i := 26) rfl (by kernel_rfl) (by kernel_rfl) (by kernel_rfl) (fun _ _ _ h => h) rfl rfl (fun w' hS => R_assign (v := .int .i64 _) rfl rfl) eS (by simp only [List.set_cons_succ, List.set_cons_zero]; exact rfl) ?_
      refine wpAnyH_done (by kernel_rfl) ?_ _
      clear q2_ q3_ hh eS
      go_wp2
      go_ret
      exact ⟨ret_int HE.out.symm, E⟩
    · have HE := Lib.hid (e0 (fun c => c2 c.2))
      clear e4 e0
      go_enter Try.func86, Try.ntmps86
      go_upto_region 0 with (fail)
      refine wp_region_lit ?_
      refine seq_new rfl rfl (R_box (v := .agg _) rfl rfl) (by simp only [List.set_cons_succ, List.set_cons_zero]; exact rfl) fun w1 hw => ?_
      obtain ⟨n2, hn⟩ : ∃ n, n = w.heap.size := ⟨_, rfl⟩
      rw [← hn]
      have l2 : w.heap.size ≤ n2 := by rw [hn]; exact E.size
      have q2 := new_row hw hn
      replace E := ext_alloc E hw
      clear hw hn
      refine seq_new rfl rfl (R_box (v := .agg _) rfl rfl) (by simp only [List.set_cons_succ, List.set_cons_zero]; exact rfl) fun w2 hw => ?_
      obtain ⟨n3, hn⟩ : ∃ n, n = w1.heap.size := ⟨_, rfl⟩
      rw [← hn]
      have l3 : w.heap.size ≤ n3 := by rw [hn]; exact E.size
      have m3_2 : n2 < n3 := by rw [hn]; exact blk_lt q2
      replace q2 := keep_alloc hw q2
      have q3 := new_row hw hn
      replace E := ext_alloc E hw
      clear hw hn
      refine seq_val rfl rfl (R_assign (v := .int .i64 _) rfl rfl) (by simp only [List.set_cons_succ, List.set_cons_zero]; exact rfl) ?_
      refine wpList_nil ?_
      have c3_0 := (cells_of_block q3 0).trans rfl
      have c3_1 := (cells_of_block q3 1).trans rfl
      have c3_2 := (cells_of_block q3 2).trans rfl
      have c3_3 := (cells_of_block q3 3).trans rfl
      go_upto_region 4 with (fail)
      clear c3_0 c3_1 c3_2 c3_3
      go_upto_region 4 with (fail)
      refine region_any (Ext [] w2) follows fun w3 hh eS => ?_
      have q2_ := q2
      have q3_ := q3
      replace q2 := keep_same hh q2
      replace q3 := keep_same hh q3
      replace E := ext_same E eS
      refine anyH_take (i := 0) rfl (by kernel_rfl) (by kernel_rfl) (by kernel_rfl) (fun _ _ _ h => h) rfl rfl (fun w' hS => R_field rfl rfl Try.underlying75 rfl (n := 0) (sz := 1) rfl (by kernel_rfl) (by decide)) eS (by simp only [List.set_cons_succ, List.set_cons_zero]; exact rfl) ?_
      refine anyH_take (i := 1) rfl (by kernel_rfl) (by kernel_rfl) (by kernel_rfl) (fun _ _ _ h => h) rfl rfl (fun w' hS => R_load rfl rfl Try.underlying3 rfl ((cells_of_block (hS.keep q3_ (by simp)) 0).trans (get0))) eS (by simp only [List.set_cons_succ, List.set_cons_zero]; exact rfl) ?_
      refine anyH_take (i := 2) rfl (by kernel_rfl) (by kernel_rfl) (by kernel_rfl) (fun _ _ _ h => h) rfl rfl (fun w' hS => R_field rfl rfl Try.underlying28 rfl (n := 0) (sz := 1) rfl (by kernel_rfl) (by decide)) eS (by simp only [List.set_cons_succ, List.set_cons_zero]; exact rfl) ?_
      refine anyH_take (i := 3) rfl (by kernel_rfl) (by kernel_rfl) (by kernel_rfl) (fun _ _ _ h => h) rfl rfl (fun w' hS => R_load rfl rfl Try.underlying3 rfl ((cells_of_block (hS.keep q2_ (by simp)) 0).trans (get0))) eS (by simp only [List.set_cons_succ, List.set_cons_zero]; exact rfl) ?_
      refine anyH_take (i := 5) rfl (by kernel_rfl) (by kernel_rfl) (by kernel_rfl) (fun _ _ _ h => h) rfl rfl (fun w' hS => R_field rfl rfl Try.underlying75 rfl (n := 2) (sz := 1) rfl (by kernel_rfl) (by decide)) eS (by simp only [List.set_cons_succ, List.set_cons_zero]; exact rfl) ?_
      refine anyH_take (i := 6) rfl (by kernel_rfl) (by kernel_rfl) (by kernel_rfl) (fun _ _ _ h => h) rfl rfl (fun w' hS => R_load rfl rfl Try.underlying3 rfl ((cells_of_block (hS.keep q3_ (by simp)) 2).trans (getS (getS (get0))))) eS (by simp only [List.set_cons_succ, List.set_cons_zero]; exact rfl) ?_
      refine anyH_take (i := 7) rfl (by kernel_rfl) (by kernel_rfl) (by kernel_rfl) (fun _ _ _ h => h) rfl rfl (fun w' hS => R_field rfl rfl Try.underlying28 rfl (n := 0) (sz := 1) rfl (by kernel_rfl) (by decide)) eS (by simp only [List.set_cons_succ, List.set_cons_zero]; exact rfl) ?_
      refine anyH_take (i := 8) rfl (by kernel_rfl) (by kernel_rfl) (by kernel_rfl) (fun _ _ _ h => h) rfl rfl (fun w' hS => R_load rfl rfl Try.underlying3 rfl ((cells_of_block (hS.keep q2_ (by simp)) 0).trans (get0))) eS (by simp only [List.set_cons_succ, List.set_cons_zero]; exact rfl) ?_
      refine anyH_take (i := 10) rfl (by kernel_rfl) (by kernel_rfl) (by kernel_rfl) (fun _ _ _ h => h) rfl rfl (fun w' hS => R_field rfl rfl Try.underlying75 rfl (n := 1) (sz := 1) rfl (by kernel_rfl) (by decide)) eS (by simp only [List.set_cons_succ, List.set_cons_zero]; exact rfl) ?_
      refine anyH_take (i := 11) rfl (by kernel_rfl) (by kernel_rfl) (by kernel_rfl) (fun _ _ _ h => h) rfl rfl (fun w' hS => R_load rfl rfl Try.underlying3 rfl ((cells_of_block (hS.keep q3_ (by simp)) 1).trans (getS (get0)))) eS (by simp only [List.set_cons_succ, List.set_cons_zero]; exact rfl) ?_
      refine anyH_take (i := 12) rfl (by kernel_rfl) (by kernel_rfl) (by kernel_rfl) (fun _ _ _ h => h) rfl rfl (fun w' hS => R_field rfl rfl Try.underlying28 rfl (n := 1) (sz := 1) rfl (by kernel_rfl) (by decide)) eS (by simp only [List.set_cons_succ, List.set_cons_zero]; exact rfl) ?_
      refine anyH_take (i := 13) rfl (by kernel_rfl) (by kernel_rfl) (by kernel_rfl) (fun _ _ _ h => h) rfl rfl (fun w' hS => R_load rfl rfl Try.underlying3 rfl ((cells_of_block (hS.keep q2_ (by simp)) 1).trans (getS (get0)))) eS (by simp only [List.set_cons_succ, List.set_cons_zero]; exact rfl) ?_
      refine anyH_take (i := 15) rfl (by kernel_rfl) (by kernel_rfl) (by kernel_rfl) (fun _ _ _ h => h) rfl rfl (fun w' hS => R_field rfl rfl Try.underlying75 rfl (n := 3) (sz := 1) rfl (by kernel_rfl) (by decide)) eS (by simp only [List.set_cons_succ, List.set_cons_zero]; exact rfl) ?_
      refine anyH_take (i := 16) rfl (by kernel_rfl) (by kernel_rfl) (by kernel_rfl) (fun _ _ _ h => h) rfl rfl (fun w' hS => R_load rfl rfl Try.underlying3 rfl ((cells_of_block (hS.keep q3_ (by simp)) 3).trans (getS (getS (getS (get0)))))) eS (by simp only [List.set_cons_succ, List.set_cons_zero]; exact rfl) ?_
      refine anyH_take (i := 17) rfl (by kernel_rfl) (by kernel_rfl) (by kernel_rfl) (fun _ _ _ h => h) rfl rfl (fun w' hS => R_field rfl rfl Try.underlying28 rfl (n := 1) (sz := 1) rfl (by kernel_rfl) (by decide)) eS (by simp only [List.set_cons_succ, List.set_cons_zero]; exact rfl) ?_
      refine anyH_take (i := 18) rfl (by kernel_rfl) (by kernel_rfl) (by kernel_rfl) (fun _ _ _ h => h) rfl rfl (fun w' hS => R_load rfl rfl Try.underlying3 rfl ((cells_of_block (hS.keep q2_ (by simp)) 1).trans (getS (get0)))) eS (by simp only [List.set_cons_succ, List.set_cons_zero]; exact rfl) ?_
      refine anyH_take (i := 20) rfl (by kernel_rfl) (by kernel_rfl) (by kernel_rfl) (fun _ _ _ h => h) rfl rfl (fun w' hS => R_move (v := .int .i64 _) rfl rfl) eS (by simp only [List.set_cons_succ, List.set_cons_zero]; exact rfl) ?_
      refine anyH_take (i := 21) rfl (by kernel_rfl) (by kernel_rfl) (by kernel_rfl) (fun _ _ _ h => h) rfl rfl (fun w' hS => R_field rfl rfl Try.underlying75 rfl (n := 4) (sz := 2) rfl (by kernel_rfl) (by decide)) eS (by simp only [List.set_cons_succ, List.set_cons_zero]; exact rfl) ?_
      refine anyH_take (i := 22) rfl (by kernel_rfl) (by kernel_rfl) (by kernel_rfl) (fun _ _ _ h => h) rfl rfl (fun w' hS => R_loadRow rfl rfl Try.underlying23 rfl (by kernel_rfl) (range_mid' (n := 2) (hS.keep q3_ (by simp)) rfl (midS (getS (getS (getS (getS (get0))))) (midS (getS (getS (getS (getS (getS (get0)))))) mid0)))) eS (by simp only [List.set_cons_succ, List.set_cons_zero]; exact rfl) ?_
      refine anyH_call (i := 4) rfl (by kernel_rfl) rfl rfl (by kernel_rfl) (known_any s S _ (by omega) (by omega)) fun e w' hR => ?_
      obtain ⟨rfl, rfl⟩ := hR
      refine ⟨_, _, rfl, (by simp only [List.set_cons_succ, List.set_cons_zero]; exact rfl), eS, ?_⟩
      refine anyH_call (i := 9) rfl (by kernel_rfl) rfl rfl (by kernel_rfl) (known_any o S _ (by omega) (by omega)) fun e w' hR => ?_
      obtain ⟨rfl, rfl⟩ := hR
      refine ⟨_, _, rfl, (by simp only [List.set_cons_succ, List.set_cons_zero]; exact rfl), eS, ?_⟩
      refine anyH_call (i := 14) rfl (by kernel_rfl) rfl rfl (by kernel_rfl) (known_any a A _ (by omega) (by omega)) fun e w' hR => ?_
      obtain ⟨rfl, rfl⟩ := hR
      refine ⟨_, _, rfl, (by simp only [List.set_cons_succ, List.set_cons_zero]; exact rfl), eS, ?_⟩
      refine anyH_call (i := 19) rfl (by kernel_rfl) rfl rfl (by kernel_rfl) (known_any h A _ (by omega) (by omega)) fun e w' hR => ?_
      obtain ⟨rfl, rfl⟩ := hR
      refine ⟨_, _, rfl, (by simp only [List.set_cons_succ, List.set_cons_zero]; exact rfl), eS, ?_⟩
      refine anyH_call (i := 23) rfl (by kernel_rfl) rfl rfl (by kernel_rfl) (span_any lo hi (-200) 200 _) fun e w8 hR => ?_
      obtain ⟨rfl, hb⟩ := hR
      replace eS := eS.nil (Ext.of_below hb)
      replace q2 := (Ext.of_below hb).keep0 q2
      replace q3 := (Ext.of_below hb).keep0 q3
      replace E := ext_same E (Ext.of_below hb)
      refine ⟨_, _, rfl, (by simp only [List.set_cons_succ, List.set_cons_zero]; exact rfl), eS, ?_⟩
      refine anyH_new (i := 24) rfl (by kernel_rfl) rfl rfl (R_buildSlice rfl Try.underlying169 (size := 1) (by kernel_rfl) (by decide) (by decide) Try.zeroValue37 (cells := #[.int .i64 (knownE s S), .int .i64 (knownE o S), .int .i64 (knownE a A), .int .i64 (knownE h A), .int .i64 0, .int .i64 (spanE lo hi (-200) 200)]) (by kernel_rfl)) (by simp only [List.set_cons_succ, List.set_cons_zero]; exact rfl) fun w9 hw => ?_
      replace eS := ext_alloc eS hw
      obtain ⟨n42, hn⟩ : ∃ n, n = w8.heap.size := ⟨_, rfl⟩
      rw [← hn]
      have l42 : w.heap.size ≤ n42 := by rw [hn]; exact E.size
      have m42_2 : n2 < n42 := by rw [hn]; exact blk_lt q2
      have m42_3 : n3 < n42 := by rw [hn]; exact blk_lt q3
      replace q2 := keep_alloc hw q2
      replace q3 := keep_alloc hw q3
      have q42 := new_block hw hn
      replace E := ext_alloc E hw
      clear hw hn
      refine ⟨eS, ?_⟩
      refine anyH_call (i := 25) rfl (by kernel_rfl) rfl rfl (by kernel_rfl) (first_lit [knownE s S, knownE o S, knownE a A, knownE h A, 0, spanE lo hi (-200) 200] _ 37 _ _ rfl (by simp) (by simp) q42) fun e w' hR => ?_
      obtain ⟨rfl, rfl⟩ := hR
      refine ⟨_, _, rfl, (by simp only [List.set_cons_succ, List.set_cons_zero]; exact rfl), eS, ?_⟩
      refine anyH_take (i := 26) rfl (by kernel_rfl) (by kernel_rfl) (by kernel_rfl) (fun _ _ _ h => h) rfl rfl (fun w' hS => R_assign (v := .int .i64 _) rfl rfl) eS (by simp only [List.set_cons_succ, List.set_cons_zero]; exact rfl) ?_
      refine wpAnyH_done (by kernel_rfl) ?_ _
      clear q2_ q3_ hh eS
      go_wp2
      go_ret
      exact ⟨ret_int HE.out.symm, E⟩
  · have HE := Lib.hid (e0 (fun c => c1 c.1))
    clear e4 e0
    go_enter Try.func86, Try.ntmps86
    go_upto_region 0 with (fail)
    refine wp_region_lit ?_
    refine seq_new rfl rfl (R_box (v := .agg _) rfl rfl) (by simp only [List.set_cons_succ, List.set_cons_zero]; exact rfl) fun w1 hw => ?_
    obtain ⟨n2, hn⟩ : ∃ n, n = w.heap.size := ⟨_, rfl⟩
    rw [← hn]
    have l2 : w.heap.size ≤ n2 := by rw [hn]; exact E.size
    have q2 := new_row hw hn
    replace E := ext_alloc E hw
    clear hw hn
    refine seq_new rfl rfl (R_box (v := .agg _) rfl rfl) (by simp only [List.set_cons_succ, List.set_cons_zero]; exact rfl) fun w2 hw => ?_
    obtain ⟨n3, hn⟩ : ∃ n, n = w1.heap.size := ⟨_, rfl⟩
    rw [← hn]
    have l3 : w.heap.size ≤ n3 := by rw [hn]; exact E.size
    have m3_2 : n2 < n3 := by rw [hn]; exact blk_lt q2
    replace q2 := keep_alloc hw q2
    have q3 := new_row hw hn
    replace E := ext_alloc E hw
    clear hw hn
    refine seq_val rfl rfl (R_assign (v := .int .i64 _) rfl rfl) (by simp only [List.set_cons_succ, List.set_cons_zero]; exact rfl) ?_
    refine wpList_nil ?_
    have c3_0 := (cells_of_block q3 0).trans rfl
    have c3_1 := (cells_of_block q3 1).trans rfl
    have c3_2 := (cells_of_block q3 2).trans rfl
    have c3_3 := (cells_of_block q3 3).trans rfl
    go_upto_region 4 with (fail)
    clear c3_0 c3_1 c3_2 c3_3
    go_upto_region 4 with (fail)
    refine region_any (Ext [] w2) follows fun w3 hh eS => ?_
    have q2_ := q2
    have q3_ := q3
    replace q2 := keep_same hh q2
    replace q3 := keep_same hh q3
    replace E := ext_same E eS
    refine anyH_take (i := 0) rfl (by kernel_rfl) (by kernel_rfl) (by kernel_rfl) (fun _ _ _ h => h) rfl rfl (fun w' hS => R_field rfl rfl Try.underlying75 rfl (n := 0) (sz := 1) rfl (by kernel_rfl) (by decide)) eS (by simp only [List.set_cons_succ, List.set_cons_zero]; exact rfl) ?_
    refine anyH_take (i := 1) rfl (by kernel_rfl) (by kernel_rfl) (by kernel_rfl) (fun _ _ _ h => h) rfl rfl (fun w' hS => R_load rfl rfl Try.underlying3 rfl ((cells_of_block (hS.keep q3_ (by simp)) 0).trans (get0))) eS (by simp only [List.set_cons_succ, List.set_cons_zero]; exact rfl) ?_
    refine anyH_take (i := 2) rfl (by kernel_rfl) (by kernel_rfl) (by kernel_rfl) (fun _ _ _ h => h) rfl rfl (fun w' hS => R_field rfl rfl Try.underlying28 rfl (n := 0) (sz := 1) rfl (by kernel_rfl) (by decide)) eS (by simp only [List.set_cons_succ, List.set_cons_zero]; exact rfl) ?_
    refine anyH_take (i := 3) rfl (by kernel_rfl) (by kernel_rfl) (by kernel_rfl) (fun _ _ _ h => h) rfl rfl (fun w' hS => R_load rfl rfl Try.underlying3 rfl ((cells_of_block (hS.keep q2_ (by simp)) 0).trans (get0))) eS (by simp only [List.set_cons_succ, List.set_cons_zero]; exact rfl) ?_
    refine anyH_take (i := 5) rfl (by kernel_rfl) (by kernel_rfl) (by kernel_rfl) (fun _ _ _ h => h) rfl rfl (fun w' hS => R_field rfl rfl Try.underlying75 rfl (n := 2) (sz := 1) rfl (by kernel_rfl) (by decide)) eS (by simp only [List.set_cons_succ, List.set_cons_zero]; exact rfl) ?_
    refine anyH_take (i := 6) rfl (by kernel_rfl) (by kernel_rfl) (by kernel_rfl) (fun _ _ _ h => h) rfl rfl (fun w' hS => R_load rfl rfl Try.underlying3 rfl ((cells_of_block (hS.keep q3_ (by simp)) 2).trans (getS (getS (get0))))) eS (by simp only [List.set_cons_succ, List.set_cons_zero]; exact rfl) ?_
    refine anyH_take (i := 7) rfl (by kernel_rfl) (by kernel_rfl) (by kernel_rfl) (fun _ _ _ h => h) rfl rfl (fun w' hS => R_field rfl rfl Try.underlying28 rfl (n := 0) (sz := 1) rfl (by kernel_rfl) (by decide)) eS (by simp only [List.set_cons_succ, List.set_cons_zero]; exact rfl) ?_
    refine anyH_take (i := 8) rfl (by kernel_rfl) (by kernel_rfl) (by kernel_rfl) (fun _ _ _ h => h) rfl rfl (fun w' hS => R_load rfl rfl Try.underlying3 rfl ((cells_of_block (hS.keep q2_ (by simp)) 0).trans (get0))) eS (by simp only [List.set_cons_succ, List.set_cons_zero]; exact rfl) ?_
    refine anyH_take (i := 10) rfl (by kernel_rfl) (by kernel_rfl) (by kernel_rfl) (fun _ _ _ h => h) rfl rfl (fun w' hS => R_field rfl rfl Try.underlying75 rfl (n := 1) (sz := 1) rfl (by kernel_rfl) (by decide)) eS (by simp only [List.set_cons_succ, List.set_cons_zero]; exact rfl) ?_
    refine anyH_take (i := 11) rfl (by kernel_rfl) (by kernel_rfl) (by kernel_rfl) (fun _ _ _ h => h) rfl rfl (fun w' hS => R_load rfl rfl Try.underlying3 rfl ((cells_of_block (hS.keep q3_ (by simp)) 1).trans (getS (get0)))) eS (by simp only [List.set_cons_succ, List.set_cons_zero]; exact rfl) ?_
    refine anyH_take (i := 12) rfl (by kernel_rfl) (by kernel_rfl) (by kernel_rfl) (fun _ _ _ h => h) rfl rfl (fun w' hS => R_field rfl rfl Try.underlying28 rfl (n := 1) (sz := 1) rfl (by kernel_rfl) (by decide)) eS (by simp only [List.set_cons_succ, List.set_cons_zero]; exact rfl) ?_
    refine anyH_take (i := 13) rfl (by kernel_rfl) (by kernel_rfl) (by kernel_rfl) (fun _ _ _ h => h) rfl rfl (fun w' hS => R_load rfl rfl Try.underlying3 rfl ((cells_of_block (hS.keep q2_ (by simp)) 1).trans (getS (get0)))) eS (by simp only [List.set_cons_succ, List.set_cons_zero]; exact rfl) ?_
    refine anyH_take (i := 15) rfl (by kernel_rfl) (by kernel_rfl) (by kernel_rfl) (fun _ _ _ h => h) rfl rfl (fun w' hS => R_field rfl rfl Try.underlying75 rfl (n := 3) (sz := 1) rfl (by kernel_rfl) (by decide)) eS (by simp only [List.set_cons_succ, List.set_cons_zero]; exact rfl) ?_
    refine anyH_take (i := 16) rfl (by kernel_rfl) (by kernel_rfl) (by kernel_rfl) (fun _ _ _ h => h) rfl rfl (fun w' hS => R_load rfl rfl Try.underlying3 rfl ((cells_of_block (hS.keep q3_ (by simp)) 3).trans (getS (getS (getS (get0)))))) eS (by simp only [List.set_cons_succ, List.set_cons_zero]; exact rfl) ?_
    refine anyH_take (i := 17) rfl (by kernel_rfl) (by kernel_rfl) (by kernel_rfl) (fun _ _ _ h => h) rfl rfl (fun w' hS => R_field rfl rfl Try.underlying28 rfl (n := 1) (sz := 1) rfl (by kernel_rfl) (by decide)) eS (by simp only [List.set_cons_succ, List.set_cons_zero]; exact rfl) ?_
    refine anyH_take (i := 18) rfl (by kernel_rfl) (by kernel_rfl) (by kernel_rfl) (fun _ _ _ h => h) rfl rfl (fun w' hS => R_load rfl rfl Try.underlying3 rfl ((cells_of_block (hS.keep q2_ (by simp)) 1).trans (getS (get0)))) eS (by simp only [List.set_cons_succ, List.set_cons_zero]; exact rfl) ?_
    refine anyH_take (i := 20) rfl (by kernel_rfl) (by kernel_rfl) (by kernel_rfl) (fun _ _ _ h => h) rfl rfl (fun w' hS => R_move (v := .int .i64 _) rfl rfl) eS (by simp only [List.set_cons_succ, List.set_cons_zero]; exact rfl) ?_
    refine anyH_take (i := 21) rfl (by kernel_rfl) (by kernel_rfl) (by kernel_rfl) (fun _ _ _ h => h) rfl rfl (fun w' hS => R_field rfl rfl Try.underlying75 rfl (n := 4) (sz := 2) rfl (by kernel_rfl) (by decide)) eS (by simp only [List.set_cons_succ, List.set_cons_zero]; exact rfl) ?_
    refine anyH_take (i := 22) rfl (by kernel_rfl) (by kernel_rfl) (by kernel_rfl) (fun _ _ _ h => h) rfl rfl (fun w' hS => R_loadRow rfl rfl Try.underlying23 rfl (by kernel_rfl) (range_mid' (n := 2) (hS.keep q3_ (by simp)) rfl (midS (getS (getS (getS (getS (get0))))) (midS (getS (getS (getS (getS (getS (get0)))))) mid0)))) eS (by simp only [List.set_cons_succ, List.set_cons_zero]; exact rfl) ?_
    refine anyH_call (i := 4) rfl (by kernel_rfl) rfl rfl (by kernel_rfl) (known_any s S _ (by omega) (by omega)) fun e w' hR => ?_
    obtain ⟨rfl, rfl⟩ := hR
    refine ⟨_, _, rfl, (by simp only [List.set_cons_succ, List.set_cons_zero]; exact rfl), eS, ?_⟩
    refine anyH_call (i := 9) rfl (by kernel_rfl) rfl rfl (by kernel_rfl) (known_any o S _ (by omega) (by omega)) fun e w' hR => ?_
    obtain ⟨rfl, rfl⟩ := hR
    refine ⟨_, _, rfl, (by simp only [List.set_cons_succ, List.set_cons_zero]; exact rfl), eS, ?_⟩
    refine anyH_call (i := 14) rfl (by kernel_rfl) rfl rfl (by kernel_rfl) (known_any a A _ (by omega) (by omega)) fun e w' hR => ?_
    obtain ⟨rfl, rfl⟩ := hR
    refine ⟨_, _, rfl, (by simp only [List.set_cons_succ, List.set_cons_zero]; exact rfl), eS, ?_⟩
    refine anyH_call (i := 19) rfl (by kernel_rfl) rfl rfl (by kernel_rfl) (known_any h A _ (by omega) (by omega)) fun e w' hR => ?_
    obtain ⟨rfl, rfl⟩ := hR
    refine ⟨_, _, rfl, (by simp only [List.set_cons_succ, List.set_cons_zero]; exact rfl), eS, ?_⟩
    refine anyH_call (i := 23) rfl (by kernel_rfl) rfl rfl (by kernel_rfl) (span_any lo hi (-200) 200 _) fun e w8 hR => ?_
    obtain ⟨rfl, hb⟩ := hR
    replace eS := eS.nil (Ext.of_below hb)
    replace q2 := (Ext.of_below hb).keep0 q2
    replace q3 := (Ext.of_below hb).keep0 q3
    replace E := ext_same E (Ext.of_below hb)
    refine ⟨_, _, rfl, (by simp only [List.set_cons_succ, List.set_cons_zero]; exact rfl), eS, ?_⟩
    refine anyH_new (i := 24) rfl (by kernel_rfl) rfl rfl (R_buildSlice rfl Try.underlying169 (size := 1) (by kernel_rfl) (by decide) (by decide) Try.zeroValue37 (cells := #[.int .i64 (knownE s S), .int .i64 (knownE o S), .int .i64 (knownE a A), .int .i64 (knownE h A), .int .i64 0, .int .i64 (spanE lo hi (-200) 200)]) (by kernel_rfl)) (by simp only [List.set_cons_succ, List.set_cons_zero]; exact rfl) fun w9 hw => ?_
    replace eS := ext_alloc eS hw
    obtain ⟨n42, hn⟩ : ∃ n, n = w8.heap.size := ⟨_, rfl⟩
    rw [← hn]
    have l42 : w.heap.size ≤ n42 := by rw [hn]; exact E.size
    have m42_2 : n2 < n42 := by rw [hn]; exact blk_lt q2
    have m42_3 : n3 < n42 := by rw [hn]; exact blk_lt q3
    replace q2 := keep_alloc hw q2
    replace q3 := keep_alloc hw q3
    have q42 := new_block hw hn
    replace E := ext_alloc E hw
    clear hw hn
    refine ⟨eS, ?_⟩
    refine anyH_call (i := 25) rfl (by kernel_rfl) rfl rfl (by kernel_rfl) (first_lit [knownE s S, knownE o S, knownE a A, knownE h A, 0, spanE lo hi (-200) 200] _ 37 _ _ rfl (by simp) (by simp) q42) fun e w' hR => ?_
    obtain ⟨rfl, rfl⟩ := hR
    refine ⟨_, _, rfl, (by simp only [List.set_cons_succ, List.set_cons_zero]; exact rfl), eS, ?_⟩
    refine anyH_take (i := 26) rfl (by kernel_rfl) (by kernel_rfl) (by kernel_rfl) (fun _ _ _ h => h) rfl rfl (fun w' hS => R_assign (v := .int .i64 _) rfl rfl) eS (by simp only [List.set_cons_succ, List.set_cons_zero]; exact rfl) ?_
    refine wpAnyH_done (by kernel_rfl) ?_ _
    clear q2_ q3_ hh eS
    go_wp2
    go_ret
    exact ⟨ret_int HE.out.symm, E⟩
/-- What lies at one place of a slice of structs. -/
theorem rows_in {α : Type} {w w' : World} {xs : List α} {row : α → List Value} {a : Option Addr} {n cap sz : Nat} (d : α) (h : IsRows w (.slice a n cap) sz (xs.map row)) (E : Ext [] w w') {i : Nat} (hi : i < xs.length) :
    ∃ b off, (∀ m c, Value.slice a m c = .slice (some ⟨b, off, none⟩) m c) ∧ w'.rangeAt b (off + i * sz) (row (xs.getD i d)) := by
  have hne : xs.map row ≠ [] := by
    intro h; have := congrArg List.length h; simp at this; rw [this] at hi; simp at hi
  obtain ⟨b, off, ha, hb, hr⟩ := (h.ext E (by simp)).range rfl hne
  exact ⟨b, off, fun _ _ => by rw [ha], hr i _ (by simp [hi])⟩
theorem rows_len {α : Type} {w : World} {xs : List α} {row : α → List Value} {v : Value} {sz : Nat} (h : IsRows w v sz (xs.map row)) : ∃ a cap, v = .slice a xs.length cap := by
  obtain ⟨a, cap, hv, -, -⟩ := h
  exact ⟨a, cap, by simpa using hv⟩
def headE (t : Tp) : Int := firstE [numberE t.S 1 3, numberE t.A 1 3, numberE t.T 1 3, spanE t.bl t.bm 20 200, spanE t.pl t.pm (-9) 9, numberE t.sl 0 5]
def grE (g : Int × Int) : Int := spanE g.1 g.2 (-20) 20
def rdE (t : Tp) (r : Int × Int × Int × Int) : Int := rdgE t.S t.A t.T r.1 r.2.1 r.2.2.1 r.2.2.2
def lkE (t : Tp) (l : Int × Int × Int × Int × Int × Int) : Int := lnkE t.S t.A l.1 l.2.1 l.2.2.1 l.2.2.2.1 l.2.2.2.2.1 l.2.2.2.2.2
/-- The first error of tapes. -/
def checkE (t : Tp) : Int :=
  if headE t ≠ 0 then headE t
  else if (t.gr.length : Int) < t.S then 7
  else if t.S < (t.gr.length : Int) then 6
  else if firstE (t.gr.map grE) ≠ 0 then firstE (t.gr.map grE)
  else if 8 < t.rd.length then 6
  else if firstE (t.rd.map (rdE t)) ≠ 0 then firstE (t.rd.map (rdE t))
  else if 3 < t.lk.length then 6
  else firstE (t.lk.map (lkE t))
theorem first_step {α : Type} {f : α → Int} {xs : List α} (d : α) {i : Nat} (hi : i < xs.length) (h0 : f (xs.getD i d) = 0) : firstE ((xs.map f).drop (i + 1)) = firstE ((xs.map f).drop i) := by
  refine (firstE_drop _ i (by simpa using hi) ?_).symm
  simpa [List.getD_eq_getElem?_getD, hi] using h0
theorem first_hit {α : Type} {f : α → Int} {xs : List α} (d : α) {i : Nat} (hi : i < xs.length) (h0 : f (xs.getD i d) ≠ 0) : firstE ((xs.map f).drop i) = f (xs.getD i d) := by
  have e : (xs.map f).getD i 0 = f (xs.getD i d) := by simp [List.getD_eq_getElem?_getD, hi]
  rw [firstE_hit _ i (by simpa using hi) (by rw [e]; exact h0), e]
theorem first_end {α : Type} {f : α → Int} {xs : List α} {i : Nat} (hi : xs.length ≤ i) (h : firstE ((xs.map f).drop i) = firstE (xs.map f)) : firstE (xs.map f) = 0 := by
  rw [← h, List.drop_of_length_le (by simpa using hi)]; rfl
theorem numberE_zero {n lo hi : Int} : numberE n lo hi = 0 ↔ lo ≤ n ∧ n ≤ hi := by
  unfold numberE
  rw [← inB_iff]
  cases inB n lo hi <;> simp
theorem firstE_zero : ∀ {es : List Int}, firstE es = 0 ↔ ∀ e ∈ es, e = 0
  | [] => by simp [firstE]
  | e :: r => by
    by_cases h : e = 0
    · simp [firstE, h, firstE_zero (es := r)]
    · simp [firstE, h]
theorem headE_zero {t : Tp} (h : headE t = 0) : (1 ≤ t.S ∧ t.S ≤ 3) ∧ (1 ≤ t.A ∧ t.A ≤ 3) ∧ (1 ≤ t.T ∧ t.T ≤ 3) := by
  have := firstE_zero.1 h
  exact ⟨numberE_zero.1 (this _ (by simp)), numberE_zero.1 (this _ (by simp)), numberE_zero.1 (this _ (by simp))⟩
set_option maxRecDepth 100000 in
set_option maxHeartbeats 2000000 in
theorem check_any (t : Tp) (gv rv lv : Value) (w : World) (ht : IsTp w gv rv lv t) (hl1 : t.gr.length ≤ 1000) (hl2 : t.rd.length ≤ 1000) (hl3 : t.lk.length ≤ 1000) :
    Calls Try.prog 31 #[tpV t gv rv lv] w fun e w' => e = .returned (.int .i64 (checkE t)) ∧ Ext [] w w' := by
  unfold tpV
  obtain ⟨ga, gcap, rfl⟩ := rows_len ht.gr
  obtain ⟨ra, rcap, rfl⟩ := rows_len ht.rd
  obtain ⟨la, lcap, rfl⟩ := rows_len ht.lk
  have E : Ext [] w w := Ext.refl _ _
  have Ht := Lib.hid ht; clear ht
  go_enter Try.func31, Try.ntmps31
  go_upto_region 0 with (fail)
  refine wp_region_lit ?_
  refine seq_new rfl rfl (R_box (v := .agg _) rfl rfl) (by simp only [List.set_cons_succ, List.set_cons_zero]; exact rfl) fun w1 hw => ?_
  obtain ⟨n1, hn⟩ : ∃ n, n = w.heap.size := ⟨_, rfl⟩
  rw [← hn]
  have l1 : w.heap.size ≤ n1 := by rw [hn]; exact E.size
  have q1 := new_row hw hn
  replace E := ext_alloc E hw
  clear hw hn
  refine seq_val rfl rfl (R_assign (v := .int .i64 _) rfl rfl) (by simp only [List.set_cons_succ, List.set_cons_zero]; exact rfl) ?_
  refine wpList_nil ?_
  go_upto_region 1 with (fail)
  refine region_any (Ext [] w1) follows fun w2 hh eS => ?_
  have q1_ := q1
  replace q1 := keep_same hh q1
  replace E := ext_same E eS
  refine anyH_take (i := 0) rfl (by kernel_rfl) (by kernel_rfl) (by kernel_rfl) (fun _ _ _ h => h) rfl rfl (fun w' hS => R_field rfl rfl Try.underlying28 rfl (n := 0) (sz := 1) rfl (by kernel_rfl) (by decide)) eS (by simp only [List.set_cons_succ, List.set_cons_zero]; exact rfl) ?_
  refine anyH_take (i := 1) rfl (by kernel_rfl) (by kernel_rfl) (by kernel_rfl) (fun _ _ _ h => h) rfl rfl (fun w' hS => R_load rfl rfl Try.underlying3 rfl ((cells_of_block (hS.keep q1_ (by simp)) 0).trans (get0))) eS (by simp only [List.set_cons_succ, List.set_cons_zero]; exact rfl) ?_
  refine anyH_take (i := 3) rfl (by kernel_rfl) (by kernel_rfl) (by kernel_rfl) (fun _ _ _ h => h) rfl rfl (fun w' hS => R_field rfl rfl Try.underlying28 rfl (n := 1) (sz := 1) rfl (by kernel_rfl) (by decide)) eS (by simp only [List.set_cons_succ, List.set_cons_zero]; exact rfl) ?_
  refine anyH_take (i := 4) rfl (by kernel_rfl) (by kernel_rfl) (by kernel_rfl) (fun _ _ _ h => h) rfl rfl (fun w' hS => R_load rfl rfl Try.underlying3 rfl ((cells_of_block (hS.keep q1_ (by simp)) 1).trans (getS (get0)))) eS (by simp only [List.set_cons_succ, List.set_cons_zero]; exact rfl) ?_
  refine anyH_take (i := 6) rfl (by kernel_rfl) (by kernel_rfl) (by kernel_rfl) (fun _ _ _ h => h) rfl rfl (fun w' hS => R_field rfl rfl Try.underlying28 rfl (n := 2) (sz := 1) rfl (by kernel_rfl) (by decide)) eS (by simp only [List.set_cons_succ, List.set_cons_zero]; exact rfl) ?_
  refine anyH_take (i := 7) rfl (by kernel_rfl) (by kernel_rfl) (by kernel_rfl) (fun _ _ _ h => h) rfl rfl (fun w' hS => R_load rfl rfl Try.underlying3 rfl ((cells_of_block (hS.keep q1_ (by simp)) 2).trans (getS (getS (get0))))) eS (by simp only [List.set_cons_succ, List.set_cons_zero]; exact rfl) ?_
  refine anyH_take (i := 9) rfl (by kernel_rfl) (by kernel_rfl) (by kernel_rfl) (fun _ _ _ h => h) rfl rfl (fun w' hS => R_field rfl rfl Try.underlying28 rfl (n := 3) (sz := 2) rfl (by kernel_rfl) (by decide)) eS (by simp only [List.set_cons_succ, List.set_cons_zero]; exact rfl) ?_
  refine anyH_take (i := 10) rfl (by kernel_rfl) (by kernel_rfl) (by kernel_rfl) (fun _ _ _ h => h) rfl rfl (fun w' hS => R_loadRow rfl rfl Try.underlying23 rfl (by kernel_rfl) (range_mid' (n := 2) (hS.keep q1_ (by simp)) rfl (midS (getS (getS (getS (get0)))) (midS (getS (getS (getS (getS (get0))))) mid0)))) eS (by simp only [List.set_cons_succ, List.set_cons_zero]; exact rfl) ?_
  refine anyH_take (i := 12) rfl (by kernel_rfl) (by kernel_rfl) (by kernel_rfl) (fun _ _ _ h => h) rfl rfl (fun w' hS => R_field rfl rfl Try.underlying28 rfl (n := 5) (sz := 2) rfl (by kernel_rfl) (by decide)) eS (by simp only [List.set_cons_succ, List.set_cons_zero]; exact rfl) ?_
  refine anyH_take (i := 13) rfl (by kernel_rfl) (by kernel_rfl) (by kernel_rfl) (fun _ _ _ h => h) rfl rfl (fun w' hS => R_loadRow rfl rfl Try.underlying23 rfl (by kernel_rfl) (range_mid' (n := 2) (hS.keep q1_ (by simp)) rfl (midS (getS (getS (getS (getS (getS (get0)))))) (midS (getS (getS (getS (getS (getS (getS (get0))))))) mid0)))) eS (by simp only [List.set_cons_succ, List.set_cons_zero]; exact rfl) ?_
  refine anyH_take (i := 15) rfl (by kernel_rfl) (by kernel_rfl) (by kernel_rfl) (fun _ _ _ h => h) rfl rfl (fun w' hS => R_field rfl rfl Try.underlying28 rfl (n := 7) (sz := 1) rfl (by kernel_rfl) (by decide)) eS (by simp only [List.set_cons_succ, List.set_cons_zero]; exact rfl) ?_
  refine anyH_take (i := 16) rfl (by kernel_rfl) (by kernel_rfl) (by kernel_rfl) (fun _ _ _ h => h) rfl rfl (fun w' hS => R_load rfl rfl Try.underlying3 rfl ((cells_of_block (hS.keep q1_ (by simp)) 7).trans (getS (getS (getS (getS (getS (getS (getS (get0)))))))))) eS (by simp only [List.set_cons_succ, List.set_cons_zero]; exact rfl) ?_
  refine anyH_call (i := 2) rfl (by kernel_rfl) rfl rfl (by kernel_rfl) (number_any t.S 1 3 _) fun e w' hR => ?_
  obtain ⟨rfl, rfl⟩ := hR
  refine ⟨_, _, rfl, (by simp only [List.set_cons_succ, List.set_cons_zero]; exact rfl), eS, ?_⟩
  refine anyH_call (i := 5) rfl (by kernel_rfl) rfl rfl (by kernel_rfl) (number_any t.A 1 3 _) fun e w' hR => ?_
  obtain ⟨rfl, rfl⟩ := hR
  refine ⟨_, _, rfl, (by simp only [List.set_cons_succ, List.set_cons_zero]; exact rfl), eS, ?_⟩
  refine anyH_call (i := 8) rfl (by kernel_rfl) rfl rfl (by kernel_rfl) (number_any t.T 1 3 _) fun e w' hR => ?_
  obtain ⟨rfl, rfl⟩ := hR
  refine ⟨_, _, rfl, (by simp only [List.set_cons_succ, List.set_cons_zero]; exact rfl), eS, ?_⟩
  refine anyH_call (i := 11) rfl (by kernel_rfl) rfl rfl (by kernel_rfl) (span_any t.bl t.bm 20 200 _) fun e w6 hR => ?_
  obtain ⟨rfl, hb1⟩ := hR
  replace eS := eS.nil (Ext.of_below hb1)
  replace q1 := (Ext.of_below hb1).keep0 q1
  replace E := ext_same E (Ext.of_below hb1)
  refine ⟨_, _, rfl, (by simp only [List.set_cons_succ, List.set_cons_zero]; exact rfl), eS, ?_⟩
  refine anyH_call (i := 14) rfl (by kernel_rfl) rfl rfl (by kernel_rfl) (span_any t.pl t.pm (-9) 9 _) fun e w7 hR => ?_
  obtain ⟨rfl, hb2⟩ := hR
  replace eS := eS.nil (Ext.of_below hb2)
  replace q1 := (Ext.of_below hb2).keep0 q1
  replace E := ext_same E (Ext.of_below hb2)
  refine ⟨_, _, rfl, (by simp only [List.set_cons_succ, List.set_cons_zero]; exact rfl), eS, ?_⟩
  refine anyH_call (i := 17) rfl (by kernel_rfl) rfl rfl (by kernel_rfl) (number_any t.sl 0 5 _) fun e w' hR => ?_
  obtain ⟨rfl, rfl⟩ := hR
  refine ⟨_, _, rfl, (by simp only [List.set_cons_succ, List.set_cons_zero]; exact rfl), eS, ?_⟩
  refine anyH_new (i := 18) rfl (by kernel_rfl) rfl rfl (R_buildSlice rfl Try.underlying169 (size := 1) (by kernel_rfl) (by decide) (by decide) Try.zeroValue37 (cells := #[.int .i64 (numberE t.S 1 3), .int .i64 (numberE t.A 1 3), .int .i64 (numberE t.T 1 3), .int .i64 (spanE t.bl t.bm 20 200), .int .i64 (spanE t.pl t.pm (-9) 9), .int .i64 (numberE t.sl 0 5)]) (by kernel_rfl)) (by simp only [List.set_cons_succ, List.set_cons_zero]; exact rfl) fun w9 hw => ?_
  replace eS := ext_alloc eS hw
  obtain ⟨n32, hn⟩ : ∃ n, n = w7.heap.size := ⟨_, rfl⟩
  rw [← hn]
  have l32 : w.heap.size ≤ n32 := by rw [hn]; exact E.size
  have m32_1 : n1 < n32 := by rw [hn]; exact blk_lt q1
  replace q1 := keep_alloc hw q1
  have q32 := new_block hw hn
  replace E := ext_alloc E hw
  clear hw hn
  refine ⟨eS, ?_⟩
  refine anyH_call (i := 19) rfl (by kernel_rfl) rfl rfl (by kernel_rfl) (first_lit [numberE t.S 1 3, numberE t.A 1 3, numberE t.T 1 3, spanE t.bl t.bm 20 200, spanE t.pl t.pm (-9) 9, numberE t.sl 0 5] _ 37 _ _ rfl (by simp) (by simp) q32) fun e w' hR => ?_
  obtain ⟨rfl, rfl⟩ := hR
  refine ⟨_, _, rfl, (by simp only [List.set_cons_succ, List.set_cons_zero]; exact rfl), eS, ?_⟩
  refine anyH_take (i := 20) rfl (by kernel_rfl) (by kernel_rfl) (by kernel_rfl) (fun _ _ _ h => h) rfl rfl (fun w' hS => R_assign (v := .int .i64 _) rfl rfl) eS (by simp only [List.set_cons_succ, List.set_cons_zero]; exact rfl) ?_
  refine wpAnyH_done (by kernel_rfl) ?_ _
  clear q1_ hh eS
  clear hb1 hb2 q32
  obtain ⟨hd, hhd⟩ : ∃ hd, hd = headE t := ⟨_, rfl⟩
  have Hhd := Lib.hid hhd
  rw [show firstE [numberE t.S 1 3, numberE t.A 1 3, numberE t.T 1 3, spanE t.bl t.bm 20 200, spanE t.pl t.pm (-9) 9, numberE t.sl 0 5] = hd from hhd.symm]
  clear hhd
  by_cases c1 : hd = 0
  · subst c1
    have hz := Lib.hid (headE_zero Hhd.out.symm)
    have hr := hz.out
    have c1_0 := (cells_of_block q1 0).trans rfl
    have c1_8 := (cells_of_block q1 8).trans rfl
    by_cases c2 : (t.gr.length : Int) < t.S
    · have HC : Hid (checkE t = 7) := by show _ = _; rw [checkE, if_neg (by rw [← Hhd.out]; decide), if_pos c2]
      go_wp2
      go_ret
      exact ⟨ret_int HC.out.symm, E⟩
    by_cases c3 : t.S < (t.gr.length : Int)
    · have HC : Hid (checkE t = 6) := by show _ = _; rw [checkE, if_neg (by rw [← Hhd.out]; decide), if_neg c2, if_pos c3]
      go_wp2
      go_ret
      exact ⟨ret_int HC.out.symm, E⟩
    have HC : Hid (checkE t = if firstE (t.gr.map grE) ≠ 0 then firstE (t.gr.map grE) else if 8 < t.rd.length then 6 else if firstE (t.rd.map (rdE t)) ≠ 0 then firstE (t.rd.map (rdE t)) else if 3 < t.lk.length then 6 else firstE (t.lk.map (lkE t))) := by
      show _ = _; rw [checkE, if_neg (by rw [← Hhd.out]; decide), if_neg c2, if_neg c3]
    go_wp2_with fail
    clear c1_0 c1_8
    clear c2 c3
    go_loopw [53] (fun iv wr => ∃ i : Nat, i ≤ t.gr.length ∧ iv = .int .i64 i ∧ wr.heap[n1]? = some (.cells #[.int .i64 t.S, .int .i64 t.A, .int .i64 t.T, .int .i64 t.bl, .int .i64 t.bm, .int .i64 t.pl, .int .i64 t.pm, .int .i64 t.sl, .slice ga t.gr.length gcap, .slice ra t.rd.length rcap, .slice la t.lk.length lcap] 28 (0, 0)) ∧ Ext [] w wr ∧ firstE ((t.gr.map grE).drop i) = firstE (t.gr.map grE)) (fun iv _ => t.gr.length - (intOf iv).toNat)
    case atStart => exact ⟨0, Nat.zero_le _, rfl, q1, E, rfl⟩
    case round =>
      clear q1 E
      obtain ⟨i, hi, rfl, q1, E, hf⟩ := hrel
      have HF := Lib.hid hf; clear hf
      by_cases hlt : (i : Int) < (t.gr.length : Int)
      · go_upto_region 11 with (fail)
        obtain ⟨rb, roff, hra, hrr⟩ := rows_in (0, 0) Ht.out.gr E (i := i) (by omega)
        refine wp_region_lit ?_
        refine seq_val rfl rfl (R_ixSlice (sz := 2) rfl (hra t.gr.length gcap) rfl Try.underlying24 (by kernel_rfl) (by omega) (by omega)) (by simp only [List.set_cons_succ, List.set_cons_zero]; exact rfl) ?_
        refine seq_val rfl rfl (R_loadRow (cs := [.int .i64 (t.gr.getD i (0, 0)).1, .int .i64 (t.gr.getD i (0, 0)).2]) rfl rfl Try.underlying23 rfl (by kernel_rfl) hrr) (by simp only [List.set_cons_succ, List.set_cons_zero]; exact rfl) ?_
        refine seq_new rfl rfl (R_alloc rfl Try.zeroValue23) (by simp only [List.set_cons_succ, List.set_cons_zero]; exact rfl) fun w11 hw => ?_
        obtain ⟨n6, hn⟩ : ∃ n, n = wr.heap.size := ⟨_, rfl⟩
        rw [← hn]
        have l6 : w.heap.size ≤ n6 := by rw [hn]; exact E.size
        have m6_1 : n1 < n6 := by rw [hn]; exact blk_lt q1
        replace q1 := keep_alloc hw q1
        have q6 := new_row hw hn
        replace E := ext_alloc E hw
        clear hw hn
        refine seq_to rfl rfl (R_storeRow rfl rfl rfl (by kernel_rfl) (by simp [Value.oneCell']) q6 rfl) fun w12 hw => ?_
        replace q1 := keep_cells hw q1 (by omega)
        replace q6 := put_row hw q6 rfl
        replace E := ext_cells E hw (fun h => by first | exact absurd h (by omega) | simp)
        clear hw
        refine wpList_nil ?_
        clear hrr
        go_upto_region 12 with (fail)
        refine wp_region_lit ?_
        refine seq_val rfl rfl (R_loadBlk rfl rfl Try.underlying23 rfl (by kernel_rfl) q6) (by simp only [List.set_cons_succ, List.set_cons_zero]; exact rfl) ?_
        refine seq_call rfl rfl (by kernel_rfl) (span_any (t.gr.getD i (0, 0)).1 (t.gr.getD i (0, 0)).2 (-20) 20 _) fun e w13 hR => ?_
        obtain ⟨rfl, hb3⟩ := hR
        refine ⟨_, _, rfl, (by simp only [List.set_cons_succ, List.set_cons_zero]; exact rfl), ?_⟩
        replace q1 := (Ext.of_below hb3).keep0 q1
        replace q6 := (Ext.of_below hb3).keep0 q6
        replace E := ext_same E (Ext.of_below hb3)
        refine seq_val rfl rfl (R_assign (v := .int .i64 _) rfl rfl) (by simp only [List.set_cons_succ, List.set_cons_zero]; exact rfl) ?_
        refine wpList_nil ?_
        clear hb3
        obtain ⟨v, hv⟩ : ∃ v, v = grE (t.gr.getD i (0, 0)) := ⟨_, rfl⟩
        rw [show spanE (t.gr.getD i (0, 0)).1 (t.gr.getD i (0, 0)).2 (-20) 20 = v from hv.symm]
        by_cases h0 : v = 0
        · subst h0
          have H1 := Lib.hid ((first_step (0, 0) (by omega) hv.symm).trans HF.out)
          clear hv
          go_wp2
          go_roundw
          case rel => exact ⟨i + 1, by omega, by go_num, q1, E, H1.out⟩
          case measure => simp [intOf]; omega
        · have hh := first_hit (f := grE) (xs := t.gr) (0, 0) (i := i) (by omega) (by rw [← hv]; exact h0)
          have H1 : Hid (checkE t = v) := by show _ = _; rw [HC.out, ← HF.out, hh, ← hv, if_pos h0]
          clear hv hh
          have hb : (v != 0) = true := by simpa using h0
          go_wp2
          go_ret
          exact ⟨ret_int H1.out.symm, E⟩
      · skip
        have HC2 : Hid (checkE t = if 8 < t.rd.length then 6 else if firstE (t.rd.map (rdE t)) ≠ 0 then firstE (t.rd.map (rdE t)) else if 3 < t.lk.length then 6 else firstE (t.lk.map (lkE t))) := by
          show _ = _; rw [HC.out, if_neg (by rw [first_end (by omega) HF.out]; decide)]
        clear HC HF
        have c1_9 := (cells_of_block q1 9).trans rfl
        by_cases c4 : (8 : Int) < (t.rd.length : Int)
        · have H1 : Hid (checkE t = 6) := by show _ = _; rw [HC2.out, if_pos (by omega)]
          go_wp2
          go_ret
          exact ⟨ret_int H1.out.symm, E⟩
        have HC3 : Hid (checkE t = if firstE (t.rd.map (rdE t)) ≠ 0 then firstE (t.rd.map (rdE t)) else if 3 < t.lk.length then 6 else firstE (t.lk.map (lkE t))) := by
          show _ = _; rw [HC2.out, if_neg (by omega)]
        clear HC2
        go_wp2_with fail
        clear c1_9
        clear hlt hi c4
        obtain ⟨wq, rfl⟩ : ∃ wq : World, wq = wr := ⟨_, rfl⟩
        go_loopw [70] (fun iv wr => ∃ j : Nat, j ≤ t.rd.length ∧ iv = .int .i64 j ∧ wr.heap[n1]? = some (.cells #[.int .i64 t.S, .int .i64 t.A, .int .i64 t.T, .int .i64 t.bl, .int .i64 t.bm, .int .i64 t.pl, .int .i64 t.pm, .int .i64 t.sl, .slice ga t.gr.length gcap, .slice ra t.rd.length rcap, .slice la t.lk.length lcap] 28 (0, 0)) ∧ Ext [] w wr ∧ firstE ((t.rd.map (rdE t)).drop j) = firstE (t.rd.map (rdE t))) (fun iv _ => t.rd.length - (intOf iv).toNat)
        case atStart => exact ⟨0, Nat.zero_le _, rfl, q1, E, rfl⟩
        case round =>
          clear q1 E
          obtain ⟨j, hj, rfl, q1, E, hf⟩ := hrel
          have HF := Lib.hid hf; clear hf
          by_cases hlt : (j : Int) < (t.rd.length : Int)
          · go_upto_region 20 with (fail)
            obtain ⟨rb, roff, hra, hrr⟩ := rows_in (0, 0, 0, 0) Ht.out.rd E (i := j) (by omega)
            refine wp_region_lit ?_
            refine seq_val rfl rfl (R_ixSlice (sz := 4) rfl (hra t.rd.length rcap) rfl Try.underlying25 (by kernel_rfl) (by omega) (by omega)) (by simp only [List.set_cons_succ, List.set_cons_zero]; exact rfl) ?_
            refine seq_val rfl rfl (R_loadRow (cs := [.int .i64 (t.rd.getD j (0, 0, 0, 0)).1, .int .i64 (t.rd.getD j (0, 0, 0, 0)).2.1, .int .i64 (t.rd.getD j (0, 0, 0, 0)).2.2.1, .int .i64 (t.rd.getD j (0, 0, 0, 0)).2.2.2]) rfl rfl Try.underlying66 rfl (by kernel_rfl) hrr) (by simp only [List.set_cons_succ, List.set_cons_zero]; exact rfl) ?_
            refine seq_new rfl rfl (R_alloc rfl Try.zeroValue66) (by simp only [List.set_cons_succ, List.set_cons_zero]; exact rfl) fun w11 hw => ?_
            obtain ⟨n9, hn⟩ : ∃ n, n = wr.heap.size := ⟨_, rfl⟩
            rw [← hn]
            have l9 : w.heap.size ≤ n9 := by rw [hn]; exact E.size
            have m9_1 : n1 < n9 := by rw [hn]; exact blk_lt q1
            replace q1 := keep_alloc hw q1
            have q9 := new_row hw hn
            replace E := ext_alloc E hw
            clear hw hn
            refine seq_to rfl rfl (R_storeRow rfl rfl rfl (by kernel_rfl) (by simp [Value.oneCell']) q9 rfl) fun w12 hw => ?_
            replace q1 := keep_cells hw q1 (by omega)
            replace q9 := put_row hw q9 rfl
            replace E := ext_cells E hw (fun h => by first | exact absurd h (by omega) | simp)
            clear hw
            refine wpList_nil ?_
            clear hrr
            go_upto_region 21 with (fail)
            refine wp_region_lit ?_
            refine seq_val rfl rfl (R_loadBlk rfl rfl Try.underlying28 rfl (by kernel_rfl) q1) (by simp only [List.set_cons_succ, List.set_cons_zero]; exact rfl) ?_
            refine seq_val rfl rfl (R_loadBlk rfl rfl Try.underlying66 rfl (by kernel_rfl) q9) (by simp only [List.set_cons_succ, List.set_cons_zero]; exact rfl) ?_
            refine seq_call rfl rfl (by kernel_rfl) (checkReading_any t.S t.A t.T t.bl t.bm t.pl t.pm t.sl (.slice ga t.gr.length gcap) (.slice ra t.rd.length rcap) (.slice la t.lk.length lcap) (t.rd.getD j (0, 0, 0, 0)).1 (t.rd.getD j (0, 0, 0, 0)).2.1 (t.rd.getD j (0, 0, 0, 0)).2.2.1 (t.rd.getD j (0, 0, 0, 0)).2.2.2 _ (by omega) (by omega) (by omega) (by omega) (by omega) (by omega)) fun e w13 hR => ?_
            obtain ⟨rfl, hb3⟩ := hR
            refine ⟨_, _, rfl, (by simp only [List.set_cons_succ, List.set_cons_zero]; exact rfl), ?_⟩
            replace q1 := (Ext.of_below hb3).keep0 q1
            replace q9 := (Ext.of_below hb3).keep0 q9
            replace E := ext_same E (Ext.of_below hb3)
            refine seq_val rfl rfl (R_assign (v := .int .i64 _) rfl rfl) (by simp only [List.set_cons_succ, List.set_cons_zero]; exact rfl) ?_
            refine wpList_nil ?_
            clear hb3
            obtain ⟨v, hv⟩ : ∃ v, v = rdE t (t.rd.getD j (0, 0, 0, 0)) := ⟨_, rfl⟩
            rw [show rdgE t.S t.A t.T (t.rd.getD j (0, 0, 0, 0)).1 (t.rd.getD j (0, 0, 0, 0)).2.1 (t.rd.getD j (0, 0, 0, 0)).2.2.1 (t.rd.getD j (0, 0, 0, 0)).2.2.2 = v from hv.symm]
            by_cases h0 : v = 0
            · subst h0
              have H1 := Lib.hid ((first_step (0, 0, 0, 0) (by omega) hv.symm).trans HF.out)
              clear hv
              go_wp2
              go_roundw
              case rel => exact ⟨j + 1, by omega, by go_num, q1, E, H1.out⟩
              case measure => simp [intOf]; omega
            · have hh := first_hit (f := rdE t) (xs := t.rd) (0, 0, 0, 0) (i := j) (by omega) (by rw [← hv]; exact h0)
              have H1 : Hid (checkE t = v) := by show _ = _; rw [HC3.out, ← HF.out, hh, ← hv, if_pos h0]
              clear hv hh
              have hb : (v != 0) = true := by simpa using h0
              go_wp2
              go_ret
              exact ⟨ret_int H1.out.symm, E⟩
          · skip
            have HC4 : Hid (checkE t = if 3 < t.lk.length then 6 else firstE (t.lk.map (lkE t))) := by
              show _ = _; rw [HC3.out, if_neg (by rw [first_end (by omega) HF.out]; decide)]
            clear HC3 HF
            have c1_10 := (cells_of_block q1 10).trans rfl
            by_cases c5 : (3 : Int) < (t.lk.length : Int)
            · have H1 : Hid (checkE t = 6) := by show _ = _; rw [HC4.out, if_pos (by omega)]
              go_wp2
              go_ret
              exact ⟨ret_int H1.out.symm, E⟩
            have HC5 : Hid (checkE t = firstE (t.lk.map (lkE t))) := by
              show _ = _; rw [HC4.out, if_neg (by omega)]
            clear HC4
            go_wp2_with fail
            clear c1_10
            clear hlt hj c5
            obtain ⟨wq2, rfl⟩ : ∃ wq : World, wq = wr := ⟨_, rfl⟩
            go_loopw [88] (fun iv wr => ∃ j : Nat, j ≤ t.lk.length ∧ iv = .int .i64 j ∧ wr.heap[n1]? = some (.cells #[.int .i64 t.S, .int .i64 t.A, .int .i64 t.T, .int .i64 t.bl, .int .i64 t.bm, .int .i64 t.pl, .int .i64 t.pm, .int .i64 t.sl, .slice ga t.gr.length gcap, .slice ra t.rd.length rcap, .slice la t.lk.length lcap] 28 (0, 0)) ∧ Ext [] w wr ∧ firstE ((t.lk.map (lkE t)).drop j) = firstE (t.lk.map (lkE t))) (fun iv _ => t.lk.length - (intOf iv).toNat)
            case atStart => exact ⟨0, Nat.zero_le _, rfl, q1, E, rfl⟩
            case round =>
              clear q1 E
              obtain ⟨l, hl, rfl, q1, E, hf⟩ := hrel
              have HF := Lib.hid hf; clear hf
              by_cases hlt : (l : Int) < (t.lk.length : Int)
              · go_upto_region 29 with (fail)
                obtain ⟨rb, roff, hra, hrr⟩ := rows_in (0, 0, 0, 0, 0, 0) Ht.out.lk E (i := l) (by omega)
                refine wp_region_lit ?_
                refine seq_val rfl rfl (R_ixSlice (sz := 6) rfl (hra t.lk.length lcap) rfl Try.underlying26 (by kernel_rfl) (by omega) (by omega)) (by simp only [List.set_cons_succ, List.set_cons_zero]; exact rfl) ?_
                refine seq_val rfl rfl (R_loadRow (cs := [.int .i64 (t.lk.getD l (0, 0, 0, 0, 0, 0)).1, .int .i64 (t.lk.getD l (0, 0, 0, 0, 0, 0)).2.1, .int .i64 (t.lk.getD l (0, 0, 0, 0, 0, 0)).2.2.1, .int .i64 (t.lk.getD l (0, 0, 0, 0, 0, 0)).2.2.2.1, .int .i64 (t.lk.getD l (0, 0, 0, 0, 0, 0)).2.2.2.2.1, .int .i64 (t.lk.getD l (0, 0, 0, 0, 0, 0)).2.2.2.2.2]) rfl rfl Try.underlying75 rfl (by kernel_rfl) hrr) (by simp only [List.set_cons_succ, List.set_cons_zero]; exact rfl) ?_
                refine seq_new rfl rfl (R_alloc rfl Try.zeroValue75) (by simp only [List.set_cons_succ, List.set_cons_zero]; exact rfl) fun w11 hw => ?_
                obtain ⟨n12, hn⟩ : ∃ n, n = wr.heap.size := ⟨_, rfl⟩
                rw [← hn]
                have l12 : w.heap.size ≤ n12 := by rw [hn]; exact E.size
                have m12_1 : n1 < n12 := by rw [hn]; exact blk_lt q1
                replace q1 := keep_alloc hw q1
                have q12 := new_row hw hn
                replace E := ext_alloc E hw
                clear hw hn
                refine seq_to rfl rfl (R_storeRow rfl rfl rfl (by kernel_rfl) (by simp [Value.oneCell']) q12 rfl) fun w12 hw => ?_
                replace q1 := keep_cells hw q1 (by omega)
                replace q12 := put_row hw q12 rfl
                replace E := ext_cells E hw (fun h => by first | exact absurd h (by omega) | simp)
                clear hw
                refine wpList_nil ?_
                clear hrr
                go_upto_region 30 with (fail)
                refine wp_region_lit ?_
                refine seq_val rfl rfl (R_loadBlk rfl rfl Try.underlying28 rfl (by kernel_rfl) q1) (by simp only [List.set_cons_succ, List.set_cons_zero]; exact rfl) ?_
                refine seq_val rfl rfl (R_loadBlk rfl rfl Try.underlying75 rfl (by kernel_rfl) q12) (by simp only [List.set_cons_succ, List.set_cons_zero]; exact rfl) ?_
                refine seq_call rfl rfl (by kernel_rfl) (checkLink_any t.S t.A t.T t.bl t.bm t.pl t.pm t.sl (.slice ga t.gr.length gcap) (.slice ra t.rd.length rcap) (.slice la t.lk.length lcap) (t.lk.getD l (0, 0, 0, 0, 0, 0)).1 (t.lk.getD l (0, 0, 0, 0, 0, 0)).2.1 (t.lk.getD l (0, 0, 0, 0, 0, 0)).2.2.1 (t.lk.getD l (0, 0, 0, 0, 0, 0)).2.2.2.1 (t.lk.getD l (0, 0, 0, 0, 0, 0)).2.2.2.2.1 (t.lk.getD l (0, 0, 0, 0, 0, 0)).2.2.2.2.2 _ (by omega) (by omega) (by omega) (by omega)) fun e w13 hR => ?_
                obtain ⟨rfl, e3⟩ := hR
                refine ⟨_, _, rfl, (by simp only [List.set_cons_succ, List.set_cons_zero]; exact rfl), ?_⟩
                replace q1 := (e3).keep0 q1
                replace q12 := (e3).keep0 q12
                replace E := ext_same E (e3)
                refine seq_val rfl rfl (R_assign (v := .int .i64 _) rfl rfl) (by simp only [List.set_cons_succ, List.set_cons_zero]; exact rfl) ?_
                refine wpList_nil ?_
                clear e3
                obtain ⟨v, hv⟩ : ∃ v, v = lkE t (t.lk.getD l (0, 0, 0, 0, 0, 0)) := ⟨_, rfl⟩
                rw [show lnkE t.S t.A (t.lk.getD l (0, 0, 0, 0, 0, 0)).1 (t.lk.getD l (0, 0, 0, 0, 0, 0)).2.1 (t.lk.getD l (0, 0, 0, 0, 0, 0)).2.2.1 (t.lk.getD l (0, 0, 0, 0, 0, 0)).2.2.2.1 (t.lk.getD l (0, 0, 0, 0, 0, 0)).2.2.2.2.1 (t.lk.getD l (0, 0, 0, 0, 0, 0)).2.2.2.2.2 = v from hv.symm]
                by_cases h0 : v = 0
                · subst h0
                  have H1 := Lib.hid ((first_step (0, 0, 0, 0, 0, 0) (by omega) hv.symm).trans HF.out)
                  clear hv
                  go_wp2
                  go_roundw
                  case rel => exact ⟨l + 1, by omega, by go_num, q1, E, H1.out⟩
                  case measure => simp [intOf]; omega
                · have hh := first_hit (f := lkE t) (xs := t.lk) (0, 0, 0, 0, 0, 0) (i := l) (by omega) (by rw [← hv]; exact h0)
                  have H1 : Hid (checkE t = v) := by show _ = _; rw [HC5.out, ← HF.out, hh, ← hv]
                  clear hv hh
                  have hb : (v != 0) = true := by simpa using h0
                  go_wp2
                  go_ret
                  exact ⟨ret_int H1.out.symm, E⟩
              · have H1 : Hid (checkE t = 0) := by show _ = _; rw [HC5.out]; exact first_end (by omega) HF.out
                go_wp2
                go_ret
                exact ⟨ret_int H1.out.symm, E⟩
  · have HC : Hid (checkE t = hd) := by show _ = _; rw [checkE, if_pos (by rw [← Hhd.out]; exact c1), Hhd.out]
    have hb : (hd != 0) = true := by simpa using c1
    go_wp2
    go_ret
    exact ⟨ret_int HC.out.symm, E⟩
end Go.Proofs.Ytholfdgebdlgjaa
