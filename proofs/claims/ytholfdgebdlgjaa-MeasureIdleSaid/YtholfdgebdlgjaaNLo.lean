/- The walk of NewLots, and the beginning of a law over lots. No conditions. -/
import Derived.Test.YtholfdgebdlgjaaMLw
import Derived.Test.YtholfdgebdlgjaaMof
namespace Go.Proofs.Ytholfdgebdlgjaa
open Go.RowKit
set_option linter.unusedVariables false
set_option linter.unusedSimpArgs false
theorem newLots_any (w : World) (a : Option Addr) (n c : Nat) (zs : List Int) (h : IsRow .i64 w a n c zs) :
    Calls Try.prog 27 #[.slice a n c] w fun e w' => ∃ b, e = .returned (.pointer (some ⟨b, 0, none⟩)) ∧ w.heap.size ≤ b ∧ b < w'.heap.size ∧ LotsOk w w' b 0 (.slice a n c) ∧ Ext [] w w' := by
  obtain ⟨xs, hxl, hr⟩ := rows_of_isRow h
  clear h
  have E : Ext [] w w := Ext.refl _ _
  go_enter Try.func27, Try.ntmps27
  go_upto_region 0 with (fail)
  refine wp_region_lit ?_
  refine seq_val rfl rfl (R_assign (v := .pointer none) rfl rfl) (by simp only [List.set_cons_succ, List.set_cons_zero]; exact rfl) ?_
  refine wpList_nil ?_
  go_upto_region 1 with (fail)
  refine wp_region_lit ?_
  refine seq_val rfl rfl (R_move (v := .slice _ _ _) rfl rfl) (by simp only [List.set_cons_succ, List.set_cons_zero]; exact rfl) ?_
  refine seq_val rfl rfl (R_build' rfl (cells := #[.slice a n c, .int .i64 0, .int .u64 1]) (by kernel_rfl)) (by simp only [List.set_cons_succ, List.set_cons_zero]; exact rfl) ?_
  refine seq_new rfl rfl (R_box (v := .agg _) rfl rfl) (by simp only [List.set_cons_succ, List.set_cons_zero]; exact rfl) fun w1 hw => ?_
  obtain ⟨n5, hn⟩ : ∃ n, n = w.heap.size := ⟨_, rfl⟩
  rw [← hn]
  have l5 : w.heap.size ≤ n5 := by rw [hn]; exact E.size
  have q5 := new_row hw hn
  replace E := ext_alloc E hw
  clear hw hn
  refine seq_val rfl rfl (R_assign (v := .pointer (some ⟨_, _, none⟩)) rfl rfl) (by simp only [List.set_cons_succ, List.set_cons_zero]; exact rfl) ?_
  refine wpList_nil ?_
  go_wp2
  go_ret
  exact ⟨n5, rfl, l5, blk_lt q5, ⟨l5, ⟨a, c, xs, by rw [hxl], hr⟩, E.mono (by simp), 0, 1, q5, by omega, by omega, by omega, by omega⟩, E⟩
end Go.Proofs.Ytholfdgebdlgjaa
