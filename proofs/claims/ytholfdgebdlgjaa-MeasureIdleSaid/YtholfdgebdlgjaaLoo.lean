/- The walk of loose: the bounds of tapes before they are narrowed. Conditions: the tapes are valid. -/
import Derived.Test.YtholfdgebdlgjaaTp
import Derived.LoopTactic
import Derived.Deep.Cut
namespace Go.Proofs.Ytholfdgebdlgjaa
open Go.RowKit
set_option linter.unusedVariables false
theorem MatAt.congr {w : World} {b ty} {m m' : Nat → Nat → Int} (h : MatAt w b ty m) (e : ∀ i j, i < 13 → j < 13 → m i j = m' i j) : MatAt w b ty m' := ⟨by rw [← matCells_congr e]; exact h.blk⟩
theorem getD_mem {α : Type} {l : List α} {i : Nat} (d : α) (h : i < l.length) : l.getD i d ∈ l := by
  rw [List.getD_eq_getElem?_getD, List.getElem?_eq_getElem h]; exact List.getElem_mem h
theorem R_build {P : Program} {ρ : Operand → Value} {o : Oper} {w : World} {t : TypeId} {parts : Array (Nat × Operand)} {cells : Array Value} (ho : o.op = .build t parts) (h : P.built t (parts.map fun (i, x) => (i, ρ x)).toList = some cells) : (execOp ρ o).run P w = .ok (.value (.agg cells)) w := by
  unfold execOp
  simp [ho, run_build w t _ cells h]
theorem rows_at {α : Type} {w w' W : World} {xs : List α} {row : α → List Value} {a : Option Addr} {n cap sz : Nat} (d : α) (h : IsRows w (.slice a n cap) sz (xs.map row)) (E0 : Ext [] w W) {N : Nat} (hN : w.heap.size ≤ N) (e : Ext [N] W w') {i : Nat} (hi : i < xs.length) :
    ∃ b off, (∀ m c, Value.slice a m c = .slice (some ⟨b, off, none⟩) m c) ∧ w'.rangeAt b (off + i * sz) (row (xs.getD i d)) := by
  have hne : xs.map row ≠ [] := by
    intro h; have := congrArg List.length h; simp at this; rw [this] at hi; simp at hi
  obtain ⟨b, off, ha, hb, hr⟩ := h.range rfl hne
  refine ⟨b, off, fun _ _ => by rw [ha], fun j u hu => ?_⟩
  have h0 := hr i (row (xs.getD i d)) (by simp [hi]) j u hu
  have e2 : Ext [N] w w' := (E0.mono (by simp)).trans e
  rw [e2.cell (a := ⟨b, off + i * sz + j, none⟩) hb (by simp; omega)]
  exact h0
def fM (i k : Nat) : Nat → Nat → Int := fun p q => if (p < i ∨ (p = i ∧ q < k)) ∧ p ≠ q then 1048576 else 0
theorem fM_hit {i k : Nat} (h : i ≠ k) : upd (fM i k) i k 1048576 = fM i (k + 1) := by
  funext p q
  unfold upd fM
  by_cases e : p = i ∧ q = k
  · obtain ⟨rfl, rfl⟩ := e
    rw [if_pos ⟨rfl, rfl⟩, if_pos ⟨by omega, h⟩]
  · rw [if_neg e]
    by_cases c : (p < i ∨ (p = i ∧ q < k)) ∧ p ≠ q
    · rw [if_pos c, if_pos ⟨by omega, c.2⟩]
    · rw [if_neg c, if_neg (by omega)]
theorem fM_diag {i : Nat} : fM i i = fM i (i + 1) := by
  funext p q
  unfold fM
  by_cases c : (p < i ∨ (p = i ∧ q < i)) ∧ p ≠ q
  · rw [if_pos c, if_pos ⟨by omega, c.2⟩]
  · rw [if_neg c, if_neg (by omega)]
set_option maxRecDepth 100000 in
set_option maxHeartbeats 1000000 in
theorem loose_any (t : Tp) (ok : t.Ok) (gv rv lv : Value) (out : Int) (ho1 : 0 ≤ out) (ho2 : out < 65536) (w : World) (ht : IsTp w gv rv lv t) :
    Calls Try.prog 133 #[tpV t gv rv lv, .int .u16 out] w fun e w' => e = .returned (.agg (matCells (looseM t out))) ∧ Ext [] w w' := by
  unfold tpV
  obtain ⟨ra, rcap, hrv, -, -⟩ := id ht.rd
  rw [List.length_map] at hrv
  subst hrv
  obtain ⟨la, lcap, hlv, -, -⟩ := id ht.lk
  rw [List.length_map] at hlv
  subst hlv
  obtain ⟨ga, gcap, hgv, -, -⟩ := id ht.gr
  have hgl := ok.grl
  have hS1 := ok.S1
  have hgne : t.gr.map grRow ≠ [] := by
    intro h; have := congrArg List.length h; simp at this; rw [this] at hgl; simp at hgl; omega
  obtain ⟨gb, goff, rfl, hgb, hgr⟩ := ht.gr.range hgv hgne
  rw [List.length_map] at hgv
  subst hgv
  have Hgl := Lib.hid hgl; clear hgl hS1 hgne
  have Hgr := Lib.hid hgr; clear hgr
  have Hgb := Lib.hid hgb; clear hgb
  have Hok := Lib.hid ok; clear ok
  have Ht := Lib.hid ht; clear ht
  go_enter Try.func133, Try.ntmps133
  go_wp2_with fail
  have q0 : (((w.alloc (.cells #[.int .i64 t.S, .int .i64 t.A, .int .i64 t.T, .int .i64 t.bl, .int .i64 t.bm, .int .i64 t.pl, .int .i64 t.pm, .int .i64 t.sl, .slice (some ⟨gb, goff, none⟩) t.gr.length gcap, .slice ra t.rd.length rcap, .slice la t.lk.length lcap] 100)).alloc (.cells Try.zeroCells105 105)).alloc (.cells Try.zeroCells105 105)).heap[w.heap.size]? = _ := blk_old (blk_old (blk_new rfl))
  have q1 : (((w.alloc (.cells #[.int .i64 t.S, .int .i64 t.A, .int .i64 t.T, .int .i64 t.bl, .int .i64 t.bm, .int .i64 t.pl, .int .i64 t.pm, .int .i64 t.sl, .slice (some ⟨gb, goff, none⟩) t.gr.length gcap, .slice ra t.rd.length rcap, .slice la t.lk.length lcap] 100)).alloc (.cells Try.zeroCells105 105)).alloc (.cells Try.zeroCells105 105)).heap[w.heap.size + 1]? = _ := blk_old (blk_new (size_alloc _ _).symm)
  have b0 : MatAt (((w.alloc (.cells #[.int .i64 t.S, .int .i64 t.A, .int .i64 t.T, .int .i64 t.bl, .int .i64 t.bm, .int .i64 t.pl, .int .i64 t.pm, .int .i64 t.sl, .slice (some ⟨gb, goff, none⟩) t.gr.length gcap, .slice ra t.rd.length rcap, .slice la t.lk.length lcap] 100)).alloc (.cells Try.zeroCells105 105)).alloc (.cells Try.zeroCells105 105)) (w.heap.size + 1 + 1) 105 (fM 0 0) := ⟨by rw [show matCells (fM 0 0) = Try.zeroCells105 from (matCells_congr fun i j _ _ => by simp [fM]).trans zeroMat.symm]; exact blk_new (by rw [size_alloc, size_alloc])⟩
  have E0 : Ext [] w (((w.alloc (.cells #[.int .i64 t.S, .int .i64 t.A, .int .i64 t.T, .int .i64 t.bl, .int .i64 t.bm, .int .i64 t.pl, .int .i64 t.pm, .int .i64 t.sl, .slice (some ⟨gb, goff, none⟩) t.gr.length gcap, .slice ra t.rd.length rcap, .slice la t.lk.length lcap] 100)).alloc (.cells Try.zeroCells105 105)).alloc (.cells Try.zeroCells105 105)) := (((Ext.refl _ _).alloc _).alloc _).alloc _
  generalize ((w.alloc (.cells #[.int .i64 t.S, .int .i64 t.A, .int .i64 t.T, .int .i64 t.bl, .int .i64 t.bm, .int .i64 t.pl, .int .i64 t.pm, .int .i64 t.sl, .slice (some ⟨gb, goff, none⟩) t.gr.length gcap, .slice ra t.rd.length rcap, .slice la t.lk.length lcap] 100)).alloc (.cells Try.zeroCells105 105)).alloc (.cells Try.zeroCells105 105) = W at q0 q1 b0 E0 ⊢
  have Q0 := Lib.hid q0; clear q0
  have Q1 := Lib.hid q1; clear q1
  generalize hN0 : w.heap.size = N0 at Q0 Q1 b0 ⊢
  have HN0 := Lib.hid hN0; clear hN0
  have Hrow : Hid (∀ w' : World, Ext [N0 + 1 + 1] W w' → ∀ i : Nat, i < t.gr.length → w'.rangeAt gb (goff + i * 2) [.int .i64 (t.gr.getD i (0, 0)).1, .int .i64 (t.gr.getD i (0, 0)).2]) := by
    intro w' e i hi j u hu
    have hx : (t.gr.map grRow)[i]? = some [.int .i64 (t.gr.getD i (0, 0)).1, .int .i64 (t.gr.getD i (0, 0)).2] := by
      simp [grRow, hi]
    have h0 := Hgr.out i _ hx j u hu
    have e2 : Ext [N0 + 1 + 1] w w' := (E0.mono (by simp)).trans e
    rw [e2.cell (a := ⟨gb, goff + i * 2 + j, none⟩) Hgb.out (by have := Hgb.out; have := HN0.out; simp; omega)]
    exact h0
  have Hrd : Hid (∀ w' : World, Ext [N0 + 1 + 1] W w' → ∀ i : Nat, i < t.rd.length → ∃ b off, (∀ m c, Value.slice ra m c = .slice (some ⟨b, off, none⟩) m c) ∧ w'.rangeAt b (off + i * 4) (rdRow (t.rd.getD i (0, 0, 0, 0)))) :=
    fun w' e i hi => rows_at _ Ht.out.rd E0 (by have := HN0.out; omega) e hi
  have Hlk : Hid (∀ w' : World, Ext [N0 + 1 + 1] W w' → ∀ i : Nat, i < t.lk.length → ∃ b off, (∀ m c, Value.slice la m c = .slice (some ⟨b, off, none⟩) m c) ∧ w'.rangeAt b (off + i * 6) (lkRow (t.lk.getD i (0, 0, 0, 0, 0, 0)))) :=
    fun w' e i hi => rows_at _ Ht.out.lk E0 (by have := HN0.out; omega) e hi
  have nin : Hid (N0 ∉ [N0 + 1 + 1]) := by show _ ∉ _; simp; omega
  go_loopw [15] (fun iv wr => ∃ i : Nat, i ≤ 13 ∧ iv = .int .i64 i ∧ MatAt wr (N0 + 1 + 1) 105 (fM i 0) ∧ Ext [N0 + 1 + 1] W wr) (fun iv _ => 13 - (intOf iv).toNat)
  case atStart => exact ⟨0, Nat.zero_le _, rfl, b0, Ext.refl _ _⟩
  case round =>
    obtain ⟨i, hi, rfl, hb, Ei⟩ := hrel
    by_cases hlt : i < 13
    · go_wp2_with fail
      obtain ⟨wi, rfl⟩ : ∃ wi : World, wi = wr := ⟨_, rfl⟩
      go_loopw [18] (fun kv wr => ∃ k : Nat, k ≤ 13 ∧ kv = .int .i64 k ∧ MatAt wr (N0 + 1 + 1) 105 (fM i k) ∧ Ext [N0 + 1 + 1] W wr) (fun kv _ => 13 - (intOf kv).toNat)
      case atStart => exact ⟨0, Nat.zero_le _, rfl, hb, Ei⟩
      case round =>
        obtain ⟨k, hk, rfl, hbk, Ek⟩ := hrel
        by_cases hltk : k < 13
        · by_cases hik : i = k
          · subst hik
            have hne : (((i : Int)) != (i : Int)) = false := by simp
            have h2 : Hid (MatAt wr (N0 + 1 + 1) 105 (fM i (i + 1))) := by show MatAt _ _ _ _; rw [← fM_diag]; exact hbk
            go_wp2
            go_roundw
            case rel => exact ⟨i + 1, by omega, by go_num, h2.out, Ek⟩
            case measure => simp [intOf]; omega
          · have hne : (((i : Int)) != (k : Int)) = true := by rw [bne_iff_ne]; omega
            have c := hbk.cell i k (by omega) (by omega)
            have f := hbk.frozen (i * 13 + k)
            have h2 : Hid (MatAt (wr.setCell ⟨N0 + 1 + 1, i * 13 + k, none⟩ (.int .i64 1048576)) (N0 + 1 + 1) 105 (fM i (k + 1))) := by
              show MatAt _ _ _ _
              rw [← fM_hit hik]; exact hbk.set i k (by omega) (by omega) _
            have h3 : Hid (Ext [N0 + 1 + 1] W (wr.setCell ⟨N0 + 1 + 1, i * 13 + k, none⟩ (.int .i64 1048576))) := Ek.setCell (by simp) _
            go_wp2
            go_roundw
            case rel => exact ⟨k + 1, by omega, by go_num, h2.out, h3.out⟩
            case measure => simp [intOf]; omega
        · obtain rfl : k = 13 := by omega
          have h2 : Hid (MatAt wr (N0 + 1 + 1) 105 (fM (i + 1) 0)) := hbk.congr fun p q hp hq => by unfold fM; by_cases c : (p < i ∨ (p = i ∧ q < 13)) ∧ p ≠ q; (rw [if_pos c, if_pos ⟨by omega, c.2⟩]); (rw [if_neg c, if_neg (by omega)])
          go_wp2
          go_roundw
          case rel => exact ⟨i + 1, by omega, by go_num, h2.out, Ek⟩
          case measure => simp [intOf]; omega
    · obtain rfl : i = 13 := by omega
      have Q0w := Lib.hid (Ei.keep Q0.out nin.out)
      have c0 := (cells_of_block Q0w.out 0).trans rfl
      have hb1 : MatAt wr (N0 + 1 + 1) 105 farM := hb.congr fun p q hp hq => by
        unfold fM farM
        by_cases c : p = q
        · rw [if_neg (by omega), if_pos c]
        · rw [if_pos ⟨by omega, c⟩, if_neg c]
      clear hb
      go_wp2_with fail
      obtain ⟨w1, rfl⟩ : ∃ w1 : World, w1 = wr := ⟨_, rfl⟩
      clear c0 Q0w
      go_loopw [33] (fun sv wr => ∃ s : Nat, s ≤ t.S.toNat ∧ sv = .int .i64 s ∧ MatAt wr (N0 + 1 + 1) 105 (singTo t farM s) ∧ Ext [N0 + 1 + 1] W wr) (fun sv _ => t.S.toNat - (intOf sv).toNat)
      case atStart => exact ⟨0, Nat.zero_le _, rfl, hb1, Ei⟩
      case round =>
        obtain ⟨s, hs, rfl, hbs, Es⟩ := hrel
        have o1 := Hok.out.S1
        have o2 := Hok.out.S3
        by_cases hlts : (s : Int) < t.S
        · have Q0s := Lib.hid (Es.keep Q0.out nin.out)
          have c1 := (cells_of_block Q0s.out 1).trans rfl
          go_wp2_with fail
          obtain ⟨ws, rfl⟩ : ∃ ws : World, ws = wr := ⟨_, rfl⟩
          clear c1 Q0s
          go_loopw [39] (fun av wr => ∃ a : Nat, a ≤ t.A.toNat ∧ av = .int .i64 a ∧ MatAt wr (N0 + 1 + 1) 105 (cellTo t (singTo t farM s) s a) ∧ Ext [N0 + 1 + 1] W wr) (fun av _ => t.A.toNat - (intOf av).toNat)
          case atStart => exact ⟨0, Nat.zero_le _, rfl, hbs, Es⟩
          case round =>
            obtain ⟨a, ha, rfl, hba, Ea⟩ := hrel
            have o3 := Hok.out.A1
            have o4 := Hok.out.A3
            have o5 := Hok.out.bl1
            have o6 := Hok.out.bm1
            have o7 := Hok.out.b
            by_cases hlta : (a : Int) < t.A
            · go_upto_region 18 with (fail)
              refine wp_region_st 6 follows (by kernel_rfl) fun W3 hW3 eW3 => ?_
              replace hba := hba.same hW3
              replace Ea := Ea.nil eW3
              have Q0a := Lib.hid (Ea.keep Q0.out nin.out)
              clear hW3 eW3
              refine still_val rfl rfl (R_move (v := .int .i64 _) rfl rfl) (by simp only [List.set_cons_succ, List.set_cons_zero]; exact rfl) ?_
              refine still_val rfl rfl (R_move (v := .int .i64 _) rfl rfl) (by simp only [List.set_cons_succ, List.set_cons_zero]; exact rfl) ?_
              refine still_call rfl rfl (by kernel_rfl) (cell_any s a _ (by omega) (by omega) (by omega) (by omega)) (by simp only [List.set_cons_succ, List.set_cons_zero]; exact rfl) ?_
              refine still_val rfl rfl (R_fieldAddr rfl rfl Try.underlying100 rfl (n := 0) (sz := 11) rfl (by kernel_rfl) (by decide)) (by simp only [List.set_cons_succ, List.set_cons_zero]; exact rfl) ?_
              refine still_val rfl rfl (R_fieldAddr rfl rfl Try.underlying28 rfl (n := 3) (sz := 2) rfl (by kernel_rfl) (by decide)) (by simp only [List.set_cons_succ, List.set_cons_zero]; exact rfl) ?_
              refine still_val rfl rfl (R_loadRow (cs := [.int .i64 t.bl, .int .i64 t.bm]) rfl rfl Try.underlying23 rfl (by kernel_rfl) (range_mid Q0a.out (fun j v h => by rcases j with _ | _ | j <;> simp_all))) (by simp only [List.set_cons_succ, List.set_cons_zero]; exact rfl) ?_
              refine wpStill_nil ?_
              refine seq_call rfl rfl (by kernel_rfl) (limit_any _ (N0 + 1 + 1) 0 (1 + (s : Int) * 3 + a) t.bl t.bm _ hba (by omega) (by omega) (by omega) (by omega) (by omega) (by omega)) fun e w' hR => ?_; obtain ⟨rfl, hba', e'⟩ := hR; refine ⟨_, _, rfl, (by simp only [List.set_cons_succ, List.set_cons_zero]; exact rfl), ?_⟩
              refine wpList_nil ?_
              replace Ea := Ea.trans e'
              clear e' hba
              by_cases h0a : (0 : Int) < (a : Int)
              · go_upto_region 20 with (fail)
                have g1 := Hok.out.gr (t.gr.getD s (0, 0)) (getD_mem _ (by have := Hgl.out; omega))
                refine wp_region_st 13 follows (by kernel_rfl) fun W4 hW4 eW4 => ?_
                replace hba' := hba'.same hW4
                replace Ea := Ea.nil eW4
                have Q0b := Lib.hid (Ea.keep Q0.out nin.out)
                have hgl2 := Hgl.out
                have Hr2 := Lib.hid (Hrow.out W4 Ea s (by have := Hgl.out; omega))
                clear hW4 eW4
                refine still_val rfl rfl (R_move (v := .int .i64 _) rfl rfl) (by simp only [List.set_cons_succ, List.set_cons_zero]; exact rfl) ?_
                refine still_val rfl rfl (R_move (v := .int .i64 _) rfl rfl) (by simp only [List.set_cons_succ, List.set_cons_zero]; exact rfl) ?_
                refine still_val rfl rfl (R_sub rfl rfl rfl (by omega) (by omega)) (by simp only [List.set_cons_succ, List.set_cons_zero]; exact rfl) ?_
                refine still_call rfl rfl (by kernel_rfl) (cell_any s ((a : Int) - 1) _ (by omega) (by omega) (by omega) (by omega)) (by simp only [List.set_cons_succ, List.set_cons_zero]; exact rfl) ?_
                refine still_val rfl rfl (R_move (v := .int .i64 _) rfl rfl) (by simp only [List.set_cons_succ, List.set_cons_zero]; exact rfl) ?_
                refine still_val rfl rfl (R_move (v := .int .i64 _) rfl rfl) (by simp only [List.set_cons_succ, List.set_cons_zero]; exact rfl) ?_
                refine still_call rfl rfl (by kernel_rfl) (cell_any s a _ (by omega) (by omega) (by omega) (by omega)) (by simp only [List.set_cons_succ, List.set_cons_zero]; exact rfl) ?_
                refine still_val rfl rfl (R_fieldAddr rfl rfl Try.underlying100 rfl (n := 0) (sz := 11) rfl (by kernel_rfl) (by decide)) (by simp only [List.set_cons_succ, List.set_cons_zero]; exact rfl) ?_
                refine still_val rfl rfl (R_fieldAddr rfl rfl Try.underlying28 rfl (n := 8) (sz := 1) rfl (by kernel_rfl) (by decide)) (by simp only [List.set_cons_succ, List.set_cons_zero]; exact rfl) ?_
                refine still_val rfl rfl (R_load rfl rfl Try.underlying24 rfl ((cells_of_block Q0b.out 8).trans rfl)) (by simp only [List.set_cons_succ, List.set_cons_zero]; exact rfl) ?_
                refine still_val rfl rfl (R_move (v := .int .i64 _) rfl rfl) (by simp only [List.set_cons_succ, List.set_cons_zero]; exact rfl) ?_
                refine still_val rfl rfl (R_ixSlice rfl rfl rfl Try.underlying24 (sz := 2) (by kernel_rfl) (by omega) (by omega)) (by simp only [List.set_cons_succ, List.set_cons_zero]; exact rfl) ?_
                refine still_val rfl rfl (R_loadRow (cs := [.int .i64 (t.gr.getD s (0, 0)).1, .int .i64 (t.gr.getD s (0, 0)).2]) rfl rfl Try.underlying23 rfl (by kernel_rfl) Hr2.out) (by simp only [List.set_cons_succ, List.set_cons_zero]; exact rfl) ?_
                refine wpStill_nil ?_
                refine seq_call rfl rfl (by kernel_rfl) (limit_any _ (N0 + 1 + 1) (1 + (s : Int) * 3 + ((a : Int) - 1)) (1 + (s : Int) * 3 + a) (t.gr.getD s (0, 0)).1 (t.gr.getD s (0, 0)).2 _ hba' (by omega) (by omega) (by omega) (by omega) (by omega) (by omega)) fun e w' hR => ?_; obtain ⟨rfl, hbb, e2⟩ := hR; refine ⟨_, _, rfl, (by simp only [List.set_cons_succ, List.set_cons_zero]; exact rfl), ?_⟩
                refine wpList_nil ?_
                replace Ea := Ea.trans e2
                clear e2 hgl2
                go_wp2
                go_roundw
                case rel => exact ⟨a + 1, by omega, by go_num, by unfold cellTo; rw [if_pos h0a]; exact hbb, Ea⟩
                case measure => simp [intOf]; omega
              · go_wp2
                go_roundw
                case rel => exact ⟨a + 1, by omega, by go_num, by unfold cellTo; rw [if_neg h0a]; exact hba', Ea⟩
                case measure => simp [intOf]; omega
            · go_wp2
              go_roundw
              case rel => exact ⟨s + 1, by omega, by go_num, by unfold singTo; rw [← show a = t.A.toNat by omega]; exact hba, Ea⟩
              case measure => simp [intOf]; omega
        · have hs' : s = t.S.toNat := by omega
          have hb2 : MatAt wr (N0 + 1 + 1) 105 (singTo t farM t.S.toNat) := by rw [← hs']; exact hbs
          clear hbs hs' hs
          have Q0t := Lib.hid (Es.keep Q0.out nin.out)
          have c2 := (cells_of_block Q0t.out 2).trans rfl
          go_wp2_with fail
          obtain ⟨w2, rfl⟩ : ∃ w2 : World, w2 = wr := ⟨_, rfl⟩
          clear c2 Q0t
          go_loopw [70] (fun tv wr => ∃ i : Nat, i ≤ t.T.toNat ∧ tv = .int .i64 i ∧ MatAt wr (N0 + 1 + 1) 105 (tailTo t (singTo t farM t.S.toNat) i) ∧ Ext [N0 + 1 + 1] W wr) (fun tv _ => t.T.toNat - (intOf tv).toNat)
          case atStart => exact ⟨0, Nat.zero_le _, rfl, hb2, Es⟩
          case round =>
            obtain ⟨i, hi, rfl, hbt, Et⟩ := hrel
            have o3 := Hok.out.T1
            have o4 := Hok.out.T3
            have o5 := Hok.out.pl1
            have o6 := Hok.out.pm1
            have o7 := Hok.out.p
            by_cases hltt : (i : Int) < t.T
            · go_upto_region 26 with (fail)
              refine wp_region_st 13 follows (by kernel_rfl) fun W5 hW5 eW5 => ?_
              replace hbt := hbt.same hW5
              replace Et := Et.nil eW5
              have Q0a := Lib.hid (Et.keep Q0.out nin.out)
              clear hW5 eW5
              refine still_val rfl rfl (R_move (v := .int .i64 _) rfl rfl) (by simp only [List.set_cons_succ, List.set_cons_zero]; exact rfl) ?_
              refine still_call rfl rfl (by kernel_rfl) (tug_any i _ (by omega) (by omega)) (by simp only [List.set_cons_succ, List.set_cons_zero]; exact rfl) ?_
              refine still_val rfl rfl (R_fieldAddr rfl rfl Try.underlying100 rfl (n := 0) (sz := 11) rfl (by kernel_rfl) (by decide)) (by simp only [List.set_cons_succ, List.set_cons_zero]; exact rfl) ?_
              refine still_val rfl rfl (R_fieldAddr rfl rfl Try.underlying28 rfl (n := 5) (sz := 2) rfl (by kernel_rfl) (by decide)) (by simp only [List.set_cons_succ, List.set_cons_zero]; exact rfl) ?_
              refine still_val rfl rfl (R_fieldAddr rfl rfl Try.underlying23 rfl (n := 1) (sz := 1) rfl (by kernel_rfl) (by decide)) (by simp only [List.set_cons_succ, List.set_cons_zero]; exact rfl) ?_
              refine still_val rfl rfl (R_load rfl rfl Try.underlying3 rfl ((cells_of_block Q0a.out 6).trans rfl)) (by simp only [List.set_cons_succ, List.set_cons_zero]; exact rfl) ?_
              refine still_val rfl rfl (R_neg rfl rfl (by omega) (by omega)) (by simp only [List.set_cons_succ, List.set_cons_zero]; exact rfl) ?_
              refine still_val rfl rfl (R_fieldAddr rfl rfl Try.underlying100 rfl (n := 0) (sz := 11) rfl (by kernel_rfl) (by decide)) (by simp only [List.set_cons_succ, List.set_cons_zero]; exact rfl) ?_
              refine still_val rfl rfl (R_fieldAddr rfl rfl Try.underlying28 rfl (n := 5) (sz := 2) rfl (by kernel_rfl) (by decide)) (by simp only [List.set_cons_succ, List.set_cons_zero]; exact rfl) ?_
              refine still_val rfl rfl (R_fieldAddr rfl rfl Try.underlying23 rfl (n := 0) (sz := 1) rfl (by kernel_rfl) (by decide)) (by simp only [List.set_cons_succ, List.set_cons_zero]; exact rfl) ?_
              refine still_val rfl rfl (R_load rfl rfl Try.underlying3 rfl ((cells_of_block Q0a.out 5).trans rfl)) (by simp only [List.set_cons_succ, List.set_cons_zero]; exact rfl) ?_
              refine still_val rfl rfl (R_neg rfl rfl (by omega) (by omega)) (by simp only [List.set_cons_succ, List.set_cons_zero]; exact rfl) ?_
              refine still_val rfl rfl (R_build rfl (cells := #[.int .i64 (-t.pm), .int .i64 (-t.pl)]) (by kernel_rfl)) (by simp only [List.set_cons_succ, List.set_cons_zero]; exact rfl) ?_
              refine wpStill_nil ?_
              refine seq_call rfl rfl (by kernel_rfl) (limit_any _ (N0 + 1 + 1) 0 (10 + (i : Int)) (-t.pm) (-t.pl) _ hbt (by omega) (by omega) (by omega) (by omega) (by omega) (by omega)) fun e w' hR => ?_; obtain ⟨rfl, hbt', e'⟩ := hR; refine ⟨_, _, rfl, (by simp only [List.set_cons_succ, List.set_cons_zero]; exact rfl), ?_⟩
              refine wpList_nil ?_
              replace Et := Et.trans e'
              clear e' hbt
              go_wp2
              go_roundw
              case rel => exact ⟨i + 1, by omega, by go_num, hbt', Et⟩
              case measure => simp [intOf]; omega
            · have hi' : i = t.T.toNat := by omega
              have hb3 : MatAt wr (N0 + 1 + 1) 105 (tailTo t (singTo t farM t.S.toNat) t.T.toNat) := by rw [← hi']; exact hbt
              clear hbt hi' hi
              have Q0r := Lib.hid (Et.keep Q0.out nin.out)
              have c3 := (cells_of_block Q0r.out 9).trans rfl
              go_wp2_with fail
              obtain ⟨w3, rfl⟩ : ∃ w3 : World, w3 = wr := ⟨_, rfl⟩
              clear c3 Q0r
              go_loopw [92] (fun jv wr => ∃ j : Nat, j ≤ t.rd.length ∧ jv = .int .i64 j ∧ MatAt wr (N0 + 1 + 1) 105 (readTo t out (tailTo t (singTo t farM t.S.toNat) t.T.toNat) j) ∧ Ext [N0 + 1 + 1] W wr) (fun jv _ => t.rd.length - (intOf jv).toNat)
              case atStart => exact ⟨0, Nat.zero_le _, rfl, hb3, Et⟩
              case round =>
                obtain ⟨j, hj, rfl, hbr, Er⟩ := hrel
                have o8 := Hok.out.rdl
                by_cases hltr : (j : Int) < (t.rd.length : Int)
                · go_upto_region 30 with (fail)
                  obtain ⟨rb, roff, hra, hrr⟩ := Hrd.out wr Er j (by omega)
                  have g1 := Hok.out.rd (t.rd.getD j (0, 0, 0, 0)) (getD_mem _ (by omega))
                  have g2 := Hok.out.sl0
                  have g3 := Hok.out.sl5
                  have g4 := Hok.out.S3
                  have g5 := Hok.out.A3
                  have g6 := Hok.out.T3
                  have hB2 := hbr.lt
                  have hWs := Er.size
                  refine wp_region_lit ?_
                  refine seq_val rfl rfl (R_move (v := .int .i64 _) rfl rfl) (by simp only [List.set_cons_succ, List.set_cons_zero]; exact rfl) ?_
                  refine seq_val rfl rfl (R_ixSlice (sz := 4) rfl (hra t.rd.length rcap) rfl Try.underlying25 (by kernel_rfl) (by omega) (by omega)) (by simp only [List.set_cons_succ, List.set_cons_zero]; exact rfl) ?_
                  refine seq_val rfl rfl (R_loadRow (cs := rdRow (t.rd.getD j (0, 0, 0, 0))) rfl rfl Try.underlying66 rfl (by kernel_rfl) hrr) (by simp only [List.set_cons_succ, List.set_cons_zero]; exact rfl) ?_
                  refine seq_new rfl rfl (R_alloc rfl Try.zeroValue66) (by simp only [List.set_cons_succ, List.set_cons_zero]; exact rfl) fun W6 hW6 => ?_
                  have q6 := (congrArg (fun x : World => x.heap[wr.heap.size]?) hW6).trans (blk_new rfl)
                  have m6 : MatAt W6 (N0 + 1 + 1) 105 _ := hW6 ▸ hbr.alloc _
                  have E6 : Ext [N0 + 1 + 1] W W6 := hW6 ▸ Er.alloc _
                  refine seq_val rfl rfl (R_assign (v := .int .i64 _) rfl rfl) (by simp only [List.set_cons_succ, List.set_cons_zero]; exact rfl) ?_
                  refine seq_to rfl rfl (R_storeRow (cs := (rdRow (t.rd.getD j (0, 0, 0, 0))).toArray) rfl rfl rfl (by kernel_rfl) (by simp [rdRow, Value.oneCell']) q6 (by rfl)) fun W7 hW7 => ?_
                  refine wpList_nil ?_
                  have q7 : W7.heap[wr.heap.size]? = some (.cells (rdRow (t.rd.getD j (0, 0, 0, 0))).toArray 66 (0, 0)) := by rw [hW7]; exact stored_block q6 rfl
                  have m7 : MatAt W7 (N0 + 1 + 1) 105 (readTo t out (tailTo t (singTo t farM t.S.toNat) t.T.toNat) j) := ⟨by rw [hW7, setCells_other _ _ _ _ _ (by omega)]; exact m6.blk⟩
                  have E7 : Ext [N0 + 1 + 1] W W7 := by rw [hW7]; exact E6.setCells (fun h => by omega) _ _
                  clear hW7 E6 m6 q6 hW6 hrr
                  generalize wr.heap.size = R0 at q7 hB2 hWs ⊢
                  go_upto_region 31 with (fail)
                  refine wp_region_lit ?_
                  refine seq_val rfl rfl (R_move (v := .int .u16 _) rfl rfl) (by simp only [List.set_cons_succ, List.set_cons_zero]; exact rfl) ?_
                  refine seq_val rfl rfl (R_move (v := .int .i64 _) rfl rfl) (by simp only [List.set_cons_succ, List.set_cons_zero]; exact rfl) ?_
                  refine seq_call rfl rfl (by kernel_rfl) (has_any out j _ ho1 ho2 (by omega) (by omega)) fun e w' hR => ?_; obtain ⟨rfl, rfl⟩ := hR; refine ⟨_, _, rfl, (by simp only [List.set_cons_succ, List.set_cons_zero]; exact rfl), ?_⟩
                  refine seq_val rfl rfl (R_not rfl rfl) (by simp only [List.set_cons_succ, List.set_cons_zero]; exact rfl) ?_
                  refine wpList_nil ?_
                  rw [Int.toNat_natCast]
                  by_cases hh : hasB out j = true
                  · rw [hh]
                    have h2 : Hid (MatAt W7 (N0 + 1 + 1) 105 (readTo t out (tailTo t (singTo t farM t.S.toNat) t.T.toNat) (j + 1))) := by show MatAt _ _ _ _; unfold readTo; rw [if_pos hh]; exact m7
                    go_wp2
                    go_roundw
                    case rel => exact ⟨j + 1, by omega, by go_num, h2.out, E7⟩
                    case measure => simp [intOf]; omega
                  · rw [Bool.not_eq_true] at hh
                    rw [hh]
                    go_upto_region 32 with (fail)
                    refine wp_region_st 13 follows (by kernel_rfl) fun W8 hW8 eW8 => ?_
                    replace m7 := m7.same hW8
                    replace E7 := E7.nil eW8
                    have Q0c := Lib.hid (E7.keep Q0.out nin.out)
                    replace q7 := keep_same hW8 q7
                    clear hW8 eW8
                    refine still_val rfl rfl (R_fieldAddr rfl rfl Try.underlying66 rfl (n := 2) (sz := 1) rfl (by kernel_rfl) (by decide)) (by simp only [List.set_cons_succ, List.set_cons_zero]; exact rfl) ?_
                    refine still_val rfl rfl (R_load rfl rfl Try.underlying3 rfl ((cells_of_block q7 2).trans rfl)) (by simp only [List.set_cons_succ, List.set_cons_zero]; exact rfl) ?_
                    refine still_call rfl rfl (by kernel_rfl) (tug_any (t.rd.getD j (0, 0, 0, 0)).2.2.1 _ (by omega) (by omega)) (by simp only [List.set_cons_succ, List.set_cons_zero]; exact rfl) ?_
                    refine still_val rfl rfl (R_fieldAddr rfl rfl Try.underlying66 rfl (n := 0) (sz := 1) rfl (by kernel_rfl) (by decide)) (by simp only [List.set_cons_succ, List.set_cons_zero]; exact rfl) ?_
                    refine still_val rfl rfl (R_load rfl rfl Try.underlying3 rfl ((cells_of_block q7 0).trans rfl)) (by simp only [List.set_cons_succ, List.set_cons_zero]; exact rfl) ?_
                    refine still_val rfl rfl (R_fieldAddr rfl rfl Try.underlying66 rfl (n := 1) (sz := 1) rfl (by kernel_rfl) (by decide)) (by simp only [List.set_cons_succ, List.set_cons_zero]; exact rfl) ?_
                    refine still_val rfl rfl (R_load rfl rfl Try.underlying3 rfl ((cells_of_block q7 1).trans rfl)) (by simp only [List.set_cons_succ, List.set_cons_zero]; exact rfl) ?_
                    refine still_call rfl rfl (by kernel_rfl) (cell_any (t.rd.getD j (0, 0, 0, 0)).1 (t.rd.getD j (0, 0, 0, 0)).2.1 _ (by omega) (by omega) (by omega) (by omega)) (by simp only [List.set_cons_succ, List.set_cons_zero]; exact rfl) ?_
                    refine still_val rfl rfl (R_fieldAddr rfl rfl Try.underlying66 rfl (n := 3) (sz := 1) rfl (by kernel_rfl) (by decide)) (by simp only [List.set_cons_succ, List.set_cons_zero]; exact rfl) ?_
                    refine still_val rfl rfl (R_load rfl rfl Try.underlying3 rfl ((cells_of_block q7 3).trans rfl)) (by simp only [List.set_cons_succ, List.set_cons_zero]; exact rfl) ?_
                    refine still_val rfl rfl (R_fieldAddr rfl rfl Try.underlying100 rfl (n := 0) (sz := 11) rfl (by kernel_rfl) (by decide)) (by simp only [List.set_cons_succ, List.set_cons_zero]; exact rfl) ?_
                    refine still_val rfl rfl (R_fieldAddr rfl rfl Try.underlying28 rfl (n := 7) (sz := 1) rfl (by kernel_rfl) (by decide)) (by simp only [List.set_cons_succ, List.set_cons_zero]; exact rfl) ?_
                    refine still_val rfl rfl (R_load rfl rfl Try.underlying3 rfl ((cells_of_block Q0c.out 7).trans rfl)) (by simp only [List.set_cons_succ, List.set_cons_zero]; exact rfl) ?_
                    refine wpStill_nil ?_
                    refine seq_call rfl rfl (by kernel_rfl) (around_any (t.rd.getD j (0, 0, 0, 0)).2.2.2 t.sl _ (by omega) (by omega) (by omega) (by omega)) fun e w' hR => ?_; obtain ⟨rfl, hB8⟩ := hR; refine ⟨_, _, rfl, (by simp only [List.set_cons_succ, List.set_cons_zero]; exact rfl), ?_⟩
                    have m8 : MatAt w' (N0 + 1 + 1) 105 _ := ⟨(Ext.of_below hB8).keep0 m7.blk⟩
                    replace E7 := E7.nil (Ext.of_below hB8)
                    clear hB8
                    refine seq_call rfl rfl (by kernel_rfl) (limit_any _ (N0 + 1 + 1) (10 + (t.rd.getD j (0, 0, 0, 0)).2.2.1) (1 + (t.rd.getD j (0, 0, 0, 0)).1 * 3 + (t.rd.getD j (0, 0, 0, 0)).2.1) ((t.rd.getD j (0, 0, 0, 0)).2.2.2 - t.sl) ((t.rd.getD j (0, 0, 0, 0)).2.2.2 + t.sl) _ m8 (by omega) (by omega) (by omega) (by omega) (by omega) (by omega)) fun e w9 hR => ?_
                    obtain ⟨rfl, m9, e9⟩ := hR
                    refine ⟨_, _, rfl, (by simp only [List.set_cons_succ, List.set_cons_zero]; exact rfl), ?_⟩
                    refine wpList_nil ?_
                    replace E7 := E7.trans e9
                    have h2 : Hid (MatAt w9 (N0 + 1 + 1) 105 (readTo t out (tailTo t (singTo t farM t.S.toNat) t.T.toNat) (j + 1))) := by show MatAt _ _ _ _; unfold readTo; rw [if_neg (by rw [hh]; decide)]; exact m9
                    clear e9 m9 m8 q7
                    go_wp2
                    go_roundw
                    case rel => exact ⟨j + 1, by omega, by go_num, h2.out, E7⟩
                    case measure => simp [intOf]; omega
                · have hj' : j = t.rd.length := by omega
                  have hb4 : MatAt wr (N0 + 1 + 1) 105 (readTo t out (tailTo t (singTo t farM t.S.toNat) t.T.toNat) t.rd.length) := by rw [← hj']; exact hbr
                  clear hbr hj' hj
                  have Q0l := Lib.hid (Er.keep Q0.out nin.out)
                  have c4 := (cells_of_block Q0l.out 10).trans rfl
                  go_wp2_with fail
                  obtain ⟨w4, rfl⟩ : ∃ w4 : World, w4 = wr := ⟨_, rfl⟩
                  clear c4 Q0l
                  go_loopw [121] (fun jv wr => ∃ l : Nat, l ≤ t.lk.length ∧ jv = .int .i64 l ∧ MatAt wr (N0 + 1 + 1) 105 (linkTo t (readTo t out (tailTo t (singTo t farM t.S.toNat) t.T.toNat) t.rd.length) l) ∧ Ext [N0 + 1 + 1] W wr) (fun jv _ => t.lk.length - (intOf jv).toNat)
                  case atStart => exact ⟨0, Nat.zero_le _, rfl, hb4, Er⟩
                  case round =>
                    obtain ⟨l, hl, rfl, hbl, El⟩ := hrel
                    have o9 := Hok.out.lkl
                    by_cases hltl : (l : Int) < (t.lk.length : Int)
                    · go_upto_region 36 with (fail)
                      obtain ⟨rb, roff, hra, hrr⟩ := Hlk.out wr El l (by omega)
                      have g1 := Hok.out.lk (t.lk.getD l (0, 0, 0, 0, 0, 0)) (getD_mem _ (by omega))
                      obtain ⟨g11, g12, g13, g14, g15, g16, g17, g18, -, g19, g20, g21⟩ := g1
                      have g4 := Hok.out.S3
                      have g5 := Hok.out.A3
                      have hB2 := hbl.lt
                      have hWs := El.size
                      refine wp_region_lit ?_
                      refine seq_val rfl rfl (R_ixSlice (sz := 6) rfl (hra t.lk.length lcap) rfl Try.underlying26 (by kernel_rfl) (by omega) (by omega)) (by simp only [List.set_cons_succ, List.set_cons_zero]; exact rfl) ?_
                      refine seq_val rfl rfl (R_loadRow (cs := lkRow (t.lk.getD l (0, 0, 0, 0, 0, 0))) rfl rfl Try.underlying75 rfl (by kernel_rfl) hrr) (by simp only [List.set_cons_succ, List.set_cons_zero]; exact rfl) ?_
                      refine seq_new rfl rfl (R_alloc rfl Try.zeroValue75) (by simp only [List.set_cons_succ, List.set_cons_zero]; exact rfl) fun W6 hW6 => ?_
                      have q6 := (congrArg (fun x : World => x.heap[wr.heap.size]?) hW6).trans (blk_new rfl)
                      have m6 : MatAt W6 (N0 + 1 + 1) 105 _ := hW6 ▸ hbl.alloc _
                      have E6 : Ext [N0 + 1 + 1] W W6 := hW6 ▸ El.alloc _
                      refine seq_to rfl rfl (R_storeRow (cs := (lkRow (t.lk.getD l (0, 0, 0, 0, 0, 0))).toArray) rfl rfl rfl (by kernel_rfl) (by simp [lkRow, Value.oneCell']) q6 (by rfl)) fun W7 hW7 => ?_
                      refine wpList_nil ?_
                      have q7 : W7.heap[wr.heap.size]? = some (.cells (lkRow (t.lk.getD l (0, 0, 0, 0, 0, 0))).toArray 75 (0, 0)) := by rw [hW7]; exact stored_block q6 rfl
                      have m7 : MatAt W7 (N0 + 1 + 1) 105 (linkTo t (readTo t out (tailTo t (singTo t farM t.S.toNat) t.T.toNat) t.rd.length) l) := ⟨by rw [hW7, setCells_other _ _ _ _ _ (by omega)]; exact m6.blk⟩
                      have E7 : Ext [N0 + 1 + 1] W W7 := by rw [hW7]; exact E6.setCells (fun h => by omega) _ _
                      clear hW7 E6 m6 q6 hW6 hrr
                      generalize wr.heap.size = R0 at q7 hB2 hWs ⊢
                      go_upto_region 37 with (fail)
                      refine wp_region_st 12 follows (by kernel_rfl) fun W8 hW8 eW8 => ?_
                      replace m7 := m7.same hW8
                      replace E7 := E7.nil eW8
                      replace q7 := keep_same hW8 q7
                      clear hW8 eW8
                      refine still_val rfl rfl (R_fieldAddr rfl rfl Try.underlying75 rfl (n := 2) (sz := 1) rfl (by kernel_rfl) (by decide)) (by simp only [List.set_cons_succ, List.set_cons_zero]; exact rfl) ?_
                      refine still_val rfl rfl (R_load rfl rfl Try.underlying3 rfl ((cells_of_block q7 2).trans rfl)) (by simp only [List.set_cons_succ, List.set_cons_zero]; exact rfl) ?_
                      refine still_val rfl rfl (R_fieldAddr rfl rfl Try.underlying75 rfl (n := 3) (sz := 1) rfl (by kernel_rfl) (by decide)) (by simp only [List.set_cons_succ, List.set_cons_zero]; exact rfl) ?_
                      refine still_val rfl rfl (R_load rfl rfl Try.underlying3 rfl ((cells_of_block q7 3).trans rfl)) (by simp only [List.set_cons_succ, List.set_cons_zero]; exact rfl) ?_
                      refine still_call rfl rfl (by kernel_rfl) (cell_any (t.lk.getD l (0, 0, 0, 0, 0, 0)).2.2.1 (t.lk.getD l (0, 0, 0, 0, 0, 0)).2.2.2.1 _ (by omega) (by omega) (by omega) (by omega)) (by simp only [List.set_cons_succ, List.set_cons_zero]; exact rfl) ?_
                      refine still_val rfl rfl (R_fieldAddr rfl rfl Try.underlying75 rfl (n := 0) (sz := 1) rfl (by kernel_rfl) (by decide)) (by simp only [List.set_cons_succ, List.set_cons_zero]; exact rfl) ?_
                      refine still_val rfl rfl (R_load rfl rfl Try.underlying3 rfl ((cells_of_block q7 0).trans rfl)) (by simp only [List.set_cons_succ, List.set_cons_zero]; exact rfl) ?_
                      refine still_val rfl rfl (R_fieldAddr rfl rfl Try.underlying75 rfl (n := 1) (sz := 1) rfl (by kernel_rfl) (by decide)) (by simp only [List.set_cons_succ, List.set_cons_zero]; exact rfl) ?_
                      refine still_val rfl rfl (R_load rfl rfl Try.underlying3 rfl ((cells_of_block q7 1).trans rfl)) (by simp only [List.set_cons_succ, List.set_cons_zero]; exact rfl) ?_
                      refine still_call rfl rfl (by kernel_rfl) (cell_any (t.lk.getD l (0, 0, 0, 0, 0, 0)).1 (t.lk.getD l (0, 0, 0, 0, 0, 0)).2.1 _ (by omega) (by omega) (by omega) (by omega)) (by simp only [List.set_cons_succ, List.set_cons_zero]; exact rfl) ?_
                      refine still_val rfl rfl (R_fieldAddr rfl rfl Try.underlying75 rfl (n := 4) (sz := 2) rfl (by kernel_rfl) (by decide)) (by simp only [List.set_cons_succ, List.set_cons_zero]; exact rfl) ?_
                      refine still_val rfl rfl (R_loadRow (cs := [.int .i64 (t.lk.getD l (0, 0, 0, 0, 0, 0)).2.2.2.2.1, .int .i64 (t.lk.getD l (0, 0, 0, 0, 0, 0)).2.2.2.2.2]) rfl rfl Try.underlying23 rfl (by kernel_rfl) (range_mid q7 (fun j v h => by rcases j with _ | _ | j <;> simp_all [lkRow]))) (by simp only [List.set_cons_succ, List.set_cons_zero]; exact rfl) ?_
                      refine wpStill_nil ?_
                      refine seq_call rfl rfl (by kernel_rfl) (limit_any _ (N0 + 1 + 1) (1 + (t.lk.getD l (0, 0, 0, 0, 0, 0)).2.2.1 * 3 + (t.lk.getD l (0, 0, 0, 0, 0, 0)).2.2.2.1) (1 + (t.lk.getD l (0, 0, 0, 0, 0, 0)).1 * 3 + (t.lk.getD l (0, 0, 0, 0, 0, 0)).2.1) (t.lk.getD l (0, 0, 0, 0, 0, 0)).2.2.2.2.1 (t.lk.getD l (0, 0, 0, 0, 0, 0)).2.2.2.2.2 _ m7 (by omega) (by omega) (by omega) (by omega) (by omega) (by omega)) fun e w' hR => ?_; obtain ⟨rfl, m9, e9⟩ := hR; refine ⟨_, _, rfl, (by simp only [List.set_cons_succ, List.set_cons_zero]; exact rfl), ?_⟩
                      refine wpList_nil ?_
                      replace E7 := E7.trans e9
                      clear e9 q7
                      go_wp2
                      go_roundw
                      case rel => exact ⟨l + 1, by omega, by go_num, m9, E7⟩
                      case measure => simp [intOf]; omega
                    · have hl' : l = t.lk.length := by omega
                      have hb5 : MatAt wr (N0 + 1 + 1) 105 (looseM t out) := by unfold looseM; rw [← hl']; exact hbl
                      clear hbl hl' hl
                      have nin1 : N0 + 1 ∉ [N0 + 1 + 1] := by simp
                      have Q1l := El.keep Q1.out nin1
                      clear nin1
                      go_upto_region 39 with (fail)
                      refine wp_region_lit ?_
                      refine seq_val rfl rfl (R_loadRow (cs := matList (looseM t out)) rfl rfl Try.underlying105 rfl (matInfo _) hb5.range) (by simp only [List.set_cons_succ, List.set_cons_zero]; exact rfl) ?_
                      refine seq_to rfl rfl (R_storeRow (cs := (matList (looseM t out)).toArray) rfl rfl rfl (by rw [List.size_toArray]; exact matInfo _) (all_oneCell_toArray (matList_one _)) Q1l (by rw [Try.zeroCells105_size, List.size_toArray, matList_length])) fun W9 hW9 => ?_
                      refine wpList_nil ?_
                      have q9 : W9.heap[N0 + 1]? = some (.cells (matCells (looseM t out)) 105 (0, 0)) := by
                        rw [hW9, stored_block Q1l (by rw [Try.zeroCells105_size, List.size_toArray, matList_length]), matList_toArray]
                      have E9 : Ext [N0 + 1 + 1, N0 + 1] W W9 := by rw [hW9]; exact (El.mono (by simp)).setCells (fun _ => by simp) _ _
                      clear hW9
                      have E10 : Ext [] w W9 := E0.trans' E9 (by have := HN0.out; simp; omega)
                      go_wp2
                      refine bodyPost_ret (res_cell rfl rfl Try.underlying105 rfl (by rw [matCells_size]; kernel_rfl) q9) rfl ⟨rfl, E10⟩
end Go.Proofs.Ytholfdgebdlgjaa
