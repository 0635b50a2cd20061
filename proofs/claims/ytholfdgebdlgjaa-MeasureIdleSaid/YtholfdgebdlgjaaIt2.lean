/- The iterator over sets of readings, as a value that a range may go over. Conditions: at most 15 readings. -/
import Derived.Test.YtholfdgebdlgjaaIt
namespace Go.Proofs.Ytholfdgebdlgjaa
open Go.RowKit Go.Shelf
set_option linter.unusedVariables false
set_option linter.unusedSimpArgs false
attribute [local go_sem] Oper.semAt_some
abbrev SetN := { x : Nat // x < 65536 }
theorem grown_of_ext {W W' : World} (h : Ext [] W W') : W.grownBy W' none := ⟨h.os, h.tape, h.output, h.size, fun k hk _ => h.block k hk (by simp)⟩
set_option maxRecDepth 100000 in
set_option maxHeartbeats 4000000 in
theorem sets1_stops (n many mb : Nat) (hm : many ≤ 15) (X : List Nat) (w : World) (hb : mb ∉ X) (hX : ∀ b ∈ X, b < w.heap.size) (hmb : w.heap[mb]? = some (.cells #[.int .i64 many] 3 (0, 0))) :
    SeqStopsK Fence.wide n Try.prog 138 #[.pointer (some ⟨mb, 0, none⟩)] (fun x : SetN => #[Value.int .u16 x.1]) (KeepC X) (fun ys => ys.map (·.1) = setsL many) (fun pre => pre.map (·.1) <+: setsL many) (setsL many).length w := by
  intro l J Jx W0 hW hJ hJx hY h0
  have hmb0 : W0.heap[mb]? = some (.cells #[.int .i64 many] 3 (0, 0)) := blk_below hW hmb (blk_lt hmb)
  have hX0 : ∀ b ∈ X, b < W0.heap.size := fun b hbx => Nat.lt_of_lt_of_le (hX b hbx) hW.size
  have HG := Lib.hid (fun (yb gb : Nat) (h1 : yb ∉ X) (h2 : gb ∉ X) => grow_in l yb mb gb many (setsL many).length hm X h1 hb h2 (fun pre W => ∃ p : List SetN, p.map (·.1) = pre ∧ J p W) (fun pre W => ∃ p : List SetN, p.map (·.1) = pre ∧ Jx p W)
    (fun pre W W' h e1 e2 e3 e4 => by
      obtain ⟨p, hp, hj⟩ := h
      exact ⟨p, hp, hJ p W W' none hj ⟨e2, e3, e4, by rw [e1]; exact Nat.le_refl _, fun k _ _ => by rw [e1]⟩ (by simp)⟩)
    (fun m pre x W h hl hx => by
      obtain ⟨p, hp, hj⟩ := h
      have hl' : p.length < (setsL many).length := by rw [← hp, List.length_map] at hl; exact hl
      refine YieldAt.mono (yield_any rfl m (hY p ⟨x, hx⟩ W hj hl')) fun e W' hr => ?_
      rcases hr with ⟨he, hj2, hk⟩ | ⟨he, hj2⟩
      · exact .inl ⟨he, ⟨_, by rw [List.map_append, hp]; rfl, hj2⟩, hk⟩
      · exact .inr ⟨he, ⟨_, by rw [List.map_append, hp]; rfl, hj2⟩⟩))
  have HJ := Lib.hid hJ
  clear hY hJ hJx
  refine callsIn_wide.2 ?_
  show Calls _ _ #[.func (.yield l) #[] #[], .pointer (some ⟨mb, 0, none⟩)] _ _
  have E : Ext [] W0 W0 := Ext.refl _ _
  go_enter Try.func138, Try.ntmps138
  go_upto_region 0 with (fail)
  refine wp_region_lit ?_
  refine seq_new rfl rfl (R_box (v := .func _ _ _) rfl rfl) (by simp only [List.set_cons_succ, List.set_cons_zero]; exact rfl) fun w1 hw => ?_
  obtain ⟨n2, hn⟩ : ∃ n, n = W0.heap.size := ⟨_, rfl⟩
  rw [← hn]
  have l2 : W0.heap.size ≤ n2 := by rw [hn]; exact E.size
  have m2_mb0 : mb < n2 := by rw [hn]; exact blk_lt hmb0
  replace hmb0 := keep_alloc hw hmb0
  have q2 := new_one hw rfl hn
  replace E := ext_alloc E hw
  clear hw hn
  refine wpList_nil ?_
  go_upto_region 1 with (fail)
  refine wp_region_lit ?_
  refine seq_new rfl rfl (R_alloc rfl Try.zeroValue170) (by simp only [List.set_cons_succ, List.set_cons_zero]; exact rfl) fun w2 hw => ?_
  obtain ⟨n3, hn⟩ : ∃ n, n = w1.heap.size := ⟨_, rfl⟩
  rw [← hn]
  have l3 : W0.heap.size ≤ n3 := by rw [hn]; exact E.size
  have m3_mb0 : mb < n3 := by rw [hn]; exact blk_lt hmb0
  have m3_2 : n2 < n3 := by rw [hn]; exact blk_lt q2
  replace hmb0 := keep_alloc hw hmb0
  replace q2 := keep_alloc hw q2
  have q3 := new_one hw rfl hn
  replace E := ext_alloc E hw
  clear hw hn
  refine wpList_nil ?_
  go_upto_region 2 with (fail)
  refine wp_region_lit ?_
  refine seq_val rfl rfl (R_makeFunc (us := #[]) (vs := #[.pointer (some ⟨n2, 0, none⟩), .pointer (some ⟨mb, 0, none⟩), .pointer (some ⟨n3, 0, none⟩)]) rfl (by kernel_rfl) (by kernel_rfl)) (by simp only [List.set_cons_succ, List.set_cons_zero]; exact rfl) ?_
  refine seq_to rfl rfl (R_store (v := .func _ _ _) rfl rfl rfl rfl (by kernel_rfl) ((cells_of_block q3 0).trans rfl) (free_of_block q3 0)) fun w3 hw => ?_
  replace hmb0 := keep_cell hw hmb0 (by omega)
  replace q2 := keep_cell hw q2 (by omega)
  replace q3 := put_cell hw q3 (by simp only [List.setIfInBounds_toArray, List.set_cons_succ, List.set_cons_zero]; exact rfl)
  replace E := ext_cell E hw (fun h => by first | exact absurd h (by omega) | simp)
  clear hw
  refine wpList_nil ?_
  have hJ3 := HJ.out [] W0 _ none h0 (grown_of_ext E) (by simp)
  have ny : n2 ∉ X := fun h => by have := hX0 _ h; omega
  have ng : n3 ∉ X := fun h => by have := hX0 _ h; omega
  have cb := (cells_of_block hmb0 0).trans get0
  go_wp2_with fail
  go_loopw [8] (fun iv wr => ∃ k : Nat, k ≤ many + 1 ∧ iv = .int .i64 k ∧ (∃ p : List SetN, p.map (·.1) = (List.range k).flatMap (fun size => growL many size 0 0) ∧ J p wr) ∧
    wr.heap[n2]? = some (.cells #[.func (.yield l) #[] #[]] 140 (0, 0)) ∧ wr.heap[mb]? = some (.cells #[.int .i64 many] 3 (0, 0)) ∧
    wr.heap[n3]? = some (.cells #[.func (.func 139) #[] #[.pointer (some ⟨n2, 0, none⟩), .pointer (some ⟨mb, 0, none⟩), .pointer (some ⟨n3, 0, none⟩)]] 170 (0, 0))) (fun iv _ => many + 1 - (intOf iv).toNat)
  case atStart => exact ⟨0, Nat.zero_le _, rfl, ⟨[], rfl, hJ3⟩, q2, hmb0, q3⟩
  case round =>
    clear cb q2 q3 hmb0 E hJ3
    obtain ⟨k, hk, rfl, hjk, q2, hmb0, q3⟩ := hrel
    by_cases hlt : k < many + 1
    · have hll : ((List.range k).flatMap (fun size => growL many size 0 0)).length + (growL many k 0 0).length ≤ (setsL many).length := by
        have := (flat_prefix (fun size => growL many size 0 0) (k := k + 1) (n := many + 1) (by omega)).length_le
        rw [flat_succ, List.length_append] at this
        exact this
      have hc : Calls Try.prog 139 #[.int .u16 0, .int .i64 0, .int .i64 k, .pointer (some ⟨n2, 0, none⟩), .pointer (some ⟨mb, 0, none⟩), .pointer (some ⟨n3, 0, none⟩)] wr fun e W' => ∃ b : Bool, e = .returned (.bool b) ∧
          ((b = true ∧ (∃ p : List SetN, p.map (·.1) = (List.range (k + 1)).flatMap (fun size => growL many size 0 0) ∧ J p W') ∧ KeepC X wr W') ∨ (b = false ∧ ∃ p : List SetN, p.map (·.1) <+: setsL many ∧ Jx p W')) :=
        (callsIn_wide.1 (HG.out n2 n3 ny ng k n 0 0 _ wr (by omega) (by omega) (by omega) hjk hll q2 hmb0 q3)).mono fun e W' h => by
          rcases h with ⟨rfl, h, h2⟩ | ⟨rfl, q, hq, p, hp, hx⟩
          · exact ⟨true, rfl, .inl ⟨rfl, by rw [flat_succ]; exact h, h2⟩⟩
          · refine ⟨false, rfl, .inr ⟨rfl, p, ?_, hx⟩⟩
            rw [hp]
            refine List.IsPrefix.trans ?_ (flat_prefix _ (k := k + 1) (n := many + 1) (by omega))
            rw [flat_succ]
            exact (List.prefix_append_right_inj _).2 hq
      have E : Ext [] wr wr := Ext.refl _ _
      go_upto_region 6 with (fail)
      refine wp_region_lit ?_
      refine seq_val rfl rfl (R_load rfl rfl Try.underlying170 rfl ((cells_of_block q3 0).trans (get0))) (by simp only [List.set_cons_succ, List.set_cons_zero]; exact rfl) ?_
      refine seq_val rfl rfl (R_move (v := .int .i64 _) rfl rfl) (by simp only [List.set_cons_succ, List.set_cons_zero]; exact rfl) ?_
      refine seq_call rfl rfl (by kernel_rfl) hc fun e w9 hR => ?_
      obtain ⟨b, rfl, hres⟩ := hR
      refine ⟨_, _, rfl, (by simp only [List.set_cons_succ, List.set_cons_zero]; exact rfl), ?_⟩
      refine seq_val rfl rfl (R_not rfl rfl) (by simp only [List.set_cons_succ, List.set_cons_zero]; exact rfl) ?_
      refine wpList_nil ?_
      rcases hres with ⟨rfl, hJ2, hk2⟩ | ⟨rfl, p, hp, hx⟩
      · have hyb2 := hk2.cells q2 ny
        have hmb2 := hk2.cells hmb0 hb
        have hgb2 := hk2.cells q3 ng
        clear q2 hmb0 q3 hc
        go_wp2
        go_roundw
        case rel => exact ⟨k + 1, by omega, by go_num, hJ2, hyb2, hmb2, hgb2⟩
        case measure => simp [intOf]; omega
      · go_wp2
        refine bodyPost_ret (v := .tuple #[]) (by simp [results, Try.results138]) rfl ⟨⟨_, rfl⟩, .inr ⟨p, hp, hx⟩⟩
    · obtain rfl : k = many + 1 := by omega
      go_wp2
      go_end0
      exact ⟨⟨_, rfl⟩, .inl hjk⟩
theorem sets_any (many : Int) (w : World) :
    Calls Try.prog 111 #[.int .i64 many] w fun e w' => ∃ mb, e = .returned (.func (.func 138) #[] #[.pointer (some ⟨mb, 0, none⟩)]) ∧ w.heap.size ≤ mb ∧ w'.heap[mb]? = some (.cells #[.int .i64 many] 3 (0, 0)) ∧ Ext [] w w' := by
  have E : Ext [] w w := Ext.refl _ _
  go_enter Try.func111, Try.ntmps111
  go_upto_region 0 with (fail)
  refine wp_region_lit ?_
  refine seq_new rfl rfl (R_box (v := .int .i64 _) rfl rfl) (by simp only [List.set_cons_succ, List.set_cons_zero]; exact rfl) fun w1 hw => ?_
  obtain ⟨n1, hn⟩ : ∃ n, n = w.heap.size := ⟨_, rfl⟩
  rw [← hn]
  have l1 : w.heap.size ≤ n1 := by rw [hn]; exact E.size
  have q1 := new_one hw rfl hn
  replace E := ext_alloc E hw
  clear hw hn
  refine seq_val rfl rfl (R_assign (v := .nilFunc) rfl rfl) (by simp only [List.set_cons_succ, List.set_cons_zero]; exact rfl) ?_
  refine wpList_nil ?_
  go_upto_region 1 with (fail)
  refine wp_region_lit ?_
  refine seq_val rfl rfl (R_makeFunc (us := #[]) (vs := #[.pointer (some ⟨n1, 0, none⟩)]) rfl (by kernel_rfl) (by kernel_rfl)) (by simp only [List.set_cons_succ, List.set_cons_zero]; exact rfl) ?_
  refine seq_val rfl rfl (R_assign (v := .func _ _ _) rfl rfl) (by simp only [List.set_cons_succ, List.set_cons_zero]; exact rfl) ?_
  refine wpList_nil ?_
  go_wp2
  go_ret
  exact ⟨n1, rfl, l1, q1, E⟩
end Go.Proofs.Ytholfdgebdlgjaa
