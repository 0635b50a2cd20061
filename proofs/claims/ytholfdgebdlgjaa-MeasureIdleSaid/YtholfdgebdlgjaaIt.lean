/- The iterator over sets of readings: it comes to each set, in order, or stops. Conditions: at most 15 readings. -/
import Derived.Test.YtholfdgebdlgjaaSetsL
import Derived.Test.YtholfdgebdlgjaaSy
import Derived.RangeFuncNested
import Derived.RangeFuncBound
import Derived.RangeFuncCalls
import Derived.RangeFuncLeaves
import Derived.Shelf.Abstract
import Derived.OwnWalkIn
import Derived.TacticsInMore
import Derived.LoopNIn
import Derived.LoopIn
namespace Go.Proofs.Ytholfdgebdlgjaa
open Go.RowKit Go.Shelf
set_option linter.unusedVariables false
set_option linter.unusedSimpArgs false
attribute [local go_sem] Oper.semAt_some
theorem room_none {F : Fence} (hd : F.depth = none) (k : Nat) : F.room k := fun d h => by rw [hd] at h; cases h
theorem round_any {F : Fence} (hd : F.depth = none) {m m' : Nat} {P : Program} {l : Nat} {f : FuncId} {tmps : Array Value} {assign body : Code} {w : World} {R : Ending → World → Prop}
    (h : RoundIn F m P l f tmps assign body w R) : RoundIn F m' P l f tmps assign body w R := ⟨h.1, fun c cs _ => h.2 c cs (room_none hd _)⟩
theorem yield_any {F : Fence} (hd : F.depth = none) {m : Nat} (m' : Nat) {P : Program} {l : Nat} {args : Array Value} {W : World} {R : Ending → World → Prop} (h : YieldAt F m P l args W R) : YieldAt F m' P l args W R := by
  obtain ⟨fn, tmps, assign, body, hy, hR⟩ := h
  exact ⟨fn, tmps, assign, body, hy, round_any hd hR⟩
set_option maxRecDepth 100000 in
set_option maxHeartbeats 4000000 in
theorem grow_in (l yb mb gb many N : Nat) (hm : many ≤ 15) (X : List Nat) (hy : yb ∉ X) (hb : mb ∉ X) (hgb : gb ∉ X) (J Jx : List Nat → World → Prop)
    (hJd : ∀ pre W W', J pre W → W'.heap = W.heap → W'.os = W.os → W'.tape = W.tape → W'.output = W.output → J pre W')
    (hY : ∀ m pre (x : Nat) W, J pre W → pre.length < N → x < 65536 → YieldAt Fence.wide m Try.prog l #[.int .u16 x] W fun e W' =>
      (e = .returned (.bool true) ∧ J (pre ++ [x]) W' ∧ KeepC X W W') ∨ (e = .returned (.bool false) ∧ Jx (pre ++ [x]) W')) :
    ∀ (more n s from_ : Nat) (pre : List Nat) (W : World), s < 65536 → from_ ≤ 16 → more ≤ many + 1 → J pre W → pre.length + (growL many more s from_).length ≤ N →
      W.heap[yb]? = some (.cells #[.func (.yield l) #[] #[]] 140 (0, 0)) → W.heap[mb]? = some (.cells #[.int .i64 many] 3 (0, 0)) →
      W.heap[gb]? = some (.cells #[.func (.func 139) #[] #[.pointer (some ⟨yb, 0, none⟩), .pointer (some ⟨mb, 0, none⟩), .pointer (some ⟨gb, 0, none⟩)]] 170 (0, 0)) →
      CallsIn Fence.wide n Try.prog 139 #[.int .u16 s, .int .i64 from_, .int .i64 more, .pointer (some ⟨yb, 0, none⟩), .pointer (some ⟨mb, 0, none⟩), .pointer (some ⟨gb, 0, none⟩)] W fun e W' =>
        (e = .returned (.bool true) ∧ J (pre ++ growL many more s from_) W' ∧ KeepC X W W') ∨ (e = .returned (.bool false) ∧ ∃ q, q <+: growL many more s from_ ∧ Jx (pre ++ q) W') := by
  have hdd : ∀ k : Nat, (Fence.wide.depth.isSome = true → 1 ≤ k) := fun k h => by cases h
  intro more
  induction more with
  | zero =>
    intro n s from_ pre W hs hf hmo hJ hN hyb hmb hgbl
    obtain ⟨fn, tmps, assign, body, hyy, hR⟩ := hY (n - 1) pre s W hJ (by simp [growL] at hN; omega) hs
    have cy := (cells_of_block hyb 0).trans get0
    refine callsIn_of_wp Try.func139 rfl trivial ?_ rfl
    simp only [Try.ntmps139, List.size_toArray, List.length_cons, List.length_nil, Nat.reduceAdd, Nat.reduceSub, Array.replicate_succ, Array.replicate_zero, List.push_toArray, List.append_toArray, List.nil_append, List.cons_append]
    gi_wp2_with ((try refine ⟨hdd _, ?_⟩); refine hR.mono ?_; clear hR; rintro e W2 (⟨rfl, hJ2, hk2⟩ | ⟨rfl, hx2⟩))
    · go_ret
      exact .inl ⟨rfl, hJ2, hk2⟩
    · go_ret
      exact .inr ⟨rfl, [s], List.prefix_refl _, hx2⟩
  | succ more ih =>
    intro n s from_ pre W hs hf hmo hJ hN hyb hmb hgbl
    have cb := (cells_of_block hmb 0).trans get0
    have ih' : ∀ (s from_ : Nat) (si fi mi : Int) (pre : List Nat) (W : World), si = s → fi = from_ → mi = more → s < 65536 → from_ ≤ 16 → J pre W → pre.length + (growL many more s from_).length ≤ N →
        W.heap[yb]? = some (.cells #[.func (.yield l) #[] #[]] 140 (0, 0)) → W.heap[mb]? = some (.cells #[.int .i64 many] 3 (0, 0)) →
        W.heap[gb]? = some (.cells #[.func (.func 139) #[] #[.pointer (some ⟨yb, 0, none⟩), .pointer (some ⟨mb, 0, none⟩), .pointer (some ⟨gb, 0, none⟩)]] 170 (0, 0)) →
        Calls Try.prog 139 #[.int .u16 si, .int .i64 fi, .int .i64 mi, .pointer (some ⟨yb, 0, none⟩), .pointer (some ⟨mb, 0, none⟩), .pointer (some ⟨gb, 0, none⟩)] W fun e W' => ∃ b : Bool, e = .returned (.bool b) ∧
          ((b = true ∧ J (pre ++ growL many more s from_) W' ∧ KeepC X W W') ∨ (b = false ∧ ∃ q, q <+: growL many more s from_ ∧ Jx (pre ++ q) W')) := fun s from_ si fi mi pre W g1 g2 g3 h1 h2 h3 h4 h5 h6 h7 => by
      subst g1 g2 g3
      exact (callsIn_wide.1 (ih n s from_ pre W h1 h2 (by omega) h3 h4 h5 h6 h7)).mono fun e W' h => by
        rcases h with ⟨rfl, h⟩ | ⟨rfl, h⟩
        · exact ⟨true, rfl, .inl ⟨rfl, h⟩⟩
        · exact ⟨false, rfl, .inr ⟨rfl, h⟩⟩
    have IH := Lib.hid ih'; clear ih ih'
    have HJd := Lib.hid hJd; clear hJd
    clear hY
    refine callsIn_wide.2 ?_
    go_enter Try.func139, Try.ntmps139
    go_wp2_with fail
    go_loopw [10] (fun p wr => ∃ k : Nat, k ≤ many - more - from_ ∧ p = .int .i64 ((from_ + k : Nat) : Int) ∧ J (pre ++ (List.range k).flatMap fun k => growL many more (s ||| 2 ^ (from_ + k)) (from_ + k + 1)) wr ∧ KeepC X W wr ∧
      wr.heap[yb]? = some (.cells #[.func (.yield l) #[] #[]] 140 (0, 0)) ∧ wr.heap[mb]? = some (.cells #[.int .i64 many] 3 (0, 0)) ∧
      wr.heap[gb]? = some (.cells #[.func (.func 139) #[] #[.pointer (some ⟨yb, 0, none⟩), .pointer (some ⟨mb, 0, none⟩), .pointer (some ⟨gb, 0, none⟩)]] 170 (0, 0))) (fun p _ => many + 1 - (intOf p).toNat)
    case atStart => exact ⟨0, Nat.zero_le _, rfl, by simpa using hJ, KeepC.refl _ _, hyb, hmb, hgbl⟩
    case round =>
      clear cb hyb hmb hgbl hJ
      obtain ⟨k, hk, rfl, hJk, hkc, hyb, hmb, hgbl⟩ := hrel
      have cb := (cells_of_block hmb 0).trans get0
      by_cases hlt : k < many - more - from_
      · have hi : ((from_ + k : Nat) : Int) ≤ (many : Int) - ((more + 1 : Nat) : Int) := by omega
        have hll : (pre ++ (List.range k).flatMap fun k => growL many more (s ||| 2 ^ (from_ + k)) (from_ + k + 1)).length + (growL many more (s ||| 2 ^ (from_ + k)) (from_ + k + 1)).length ≤ N := by
          have := (flat_prefix (fun k => growL many more (s ||| 2 ^ (from_ + k)) (from_ + k + 1)) (k := k + 1) (n := many - more - from_) (by omega)).length_le
          rw [flat_succ, List.length_append] at this
          rw [List.length_append]
          simp only [growL] at hN
          omega
        have E : Ext [] wr wr := Ext.refl _ _
        go_upto_region 6 with (fail)
        refine wp_region_st 8 follows (by kernel_rfl) fun w1 hw1 ew1 => ?_
        replace hyb := keep_same hw1 hyb
        replace hmb := keep_same hw1 hmb
        replace hgbl := keep_same hw1 hgbl
        replace E := ext_same E ew1
        replace hJk := HJd.out _ _ _ hJk hw1 ew1.os ew1.tape ew1.output
        replace hkc := hkc.trans (KeepC.of_ext (ew1.mono (by simp)))
        refine still_val rfl rfl (R_load rfl rfl Try.underlying170 rfl ((cells_of_block hgbl 0).trans (get0))) (by simp only [List.set_cons_succ, List.set_cons_zero]; exact rfl) ?_
        refine still_val rfl rfl (R_move (v := .int .u16 _) rfl rfl) (by simp only [List.set_cons_succ, List.set_cons_zero]; exact rfl) ?_
        refine still_val rfl rfl (R_move (v := .int .i64 _) rfl rfl) (by simp only [List.set_cons_succ, List.set_cons_zero]; exact rfl) ?_
        refine still_call rfl rfl (by kernel_rfl) (with_any (s : Int) ((from_ + k : Nat) : Int) _ (by omega) (by omega) (by omega) (by omega)) (by simp only [List.set_cons_succ, List.set_cons_zero]; exact rfl) ?_
        refine still_val rfl rfl (R_move (v := .int .i64 _) rfl rfl) (by simp only [List.set_cons_succ, List.set_cons_zero]; exact rfl) ?_
        refine still_val rfl rfl (R_add rfl rfl rfl (by omega) (by omega)) (by simp only [List.set_cons_succ, List.set_cons_zero]; exact rfl) ?_
        refine still_val rfl rfl (R_move (v := .int .i64 _) rfl rfl) (by simp only [List.set_cons_succ, List.set_cons_zero]; exact rfl) ?_
        refine still_val rfl rfl (R_sub rfl rfl rfl (by omega) (by omega)) (by simp only [List.set_cons_succ, List.set_cons_zero]; exact rfl) ?_
        refine wpStill_nil ?_
        refine seq_call rfl rfl (by kernel_rfl) (IH.out (s ||| 2 ^ (from_ + k)) (from_ + k + 1) ((((s : Int).toNat ||| 2 ^ (((from_ + k : Nat) : Int)).toNat : Nat) : Int)) (((from_ + k : Nat) : Int) + 1) (((more + 1 : Nat) : Int) - 1) _ _ (by rw [Int.toNat_natCast, Int.toNat_natCast]) (by omega) (by omega) (or_lt16 hs (by omega)) (by omega) hJk hll hyb hmb hgbl) fun e w9 hR => ?_
        obtain ⟨b, rfl, hres⟩ := hR
        refine ⟨_, _, rfl, (by simp only [List.set_cons_succ, List.set_cons_zero]; exact rfl), ?_⟩
        refine seq_val rfl rfl (R_not rfl rfl) (by simp only [List.set_cons_succ, List.set_cons_zero]; exact rfl) ?_
        refine wpList_nil ?_
        rcases hres with ⟨rfl, hJ2, hk2⟩ | ⟨rfl, q, hq, hx⟩
        · have hyb2 := hk2.cells hyb hy
          have hmb2 := hk2.cells hmb hb
          have hgb2 := hk2.cells hgbl hgb
          have hkk := hkc.trans hk2
          have H1 : Hid (J (pre ++ (List.range (k + 1)).flatMap fun k => growL many more (s ||| 2 ^ (from_ + k)) (from_ + k + 1)) w9) := by
            show J _ _
            rw [flat_succ, ← List.append_assoc]; exact hJ2
          clear hyb hmb hgbl cb
          go_wp2
          go_roundw
          case rel => exact ⟨k + 1, by omega, by go_num, H1.out, hkk, hyb2, hmb2, hgb2⟩
          case measure => simp [intOf]; omega
        · go_wp2
          go_ret
          refine .inr ⟨rfl, _, ?_, by rw [← List.append_assoc]; exact hx⟩
          simp only [growL]
          refine List.IsPrefix.trans ?_ (flat_prefix _ (k := k + 1) (by omega))
          rw [flat_succ]
          exact (List.prefix_append_right_inj _).2 hq
      · have hk' : k = many - more - from_ := by omega
        have hi : ¬ ((from_ + k : Nat) : Int) ≤ (many : Int) - ((more + 1 : Nat) : Int) := by omega
        have H1 : Hid (J (pre ++ growL many (more + 1) s from_) wr) := by
          show J _ _
          simp only [growL]; rw [← hk']; exact hJk
        go_wp2
        go_ret
        exact .inl ⟨rfl, H1.out, hkc⟩
end Go.Proofs.Ytholfdgebdlgjaa
