/- What the laws reckon: mixtures, common, used. Conditions: small numbers. -/
import Derived.Test.YtdjeecgddbjbeaaDtu
namespace Go.Proofs.Ytdjeecgddbjbeaa
open Go.RowKit
set_option linter.unusedVariables false
set_option linter.unusedSimpArgs false
def mixB (P : Nat) (l : List Int) : Bool := decide (l.sum ≤ P)
/-- All lists of parts, together at most so many. -/
def mixL (nd P : Nat) : List (List Int) := (tupL (P + 1) nd).filter (mixB P)
def ListsPost (LL : List (List Int)) (w : World) (e : Ending) (w' : World) : Prop := ∃ (M : List (Value × List Int)) (b : Option Addr) (d : Nat), e = .returned (.slice b M.length d) ∧ M.map (·.2) = LL ∧ LolAt w' b M ∧ Ext [] w w'
set_option maxRecDepth 100000 in
set_option maxHeartbeats 2000000 in
theorem mixtures_any (nd P : Nat) (hnd : nd ≤ 4) (hP : P ≤ 6) (w : World) : Calls Try.prog 35 #[.int .i64 ((nd : Nat) : Int), .int .i64 ((P : Nat) : Int)] w (ListsPost (mixL nd P) w) := by
  have E : Ext [] w w := Ext.refl _ _
  refine calls_has 45 Try.func35 rfl Try.ntmps35 (Nat.le_of_ble_eq_true rfl) ?_
  intro fa F
  refine wp_seq_k fun K1 hK1 => ?_
  refine wp_region_lit ?_
  refine F.vl (R_assign rfl (ev_c fa _)) ?_; clear F fa; intro fa F
  refine wpList_nil ?_
  refine hK1 _ _ ?_
  clear hK1
  refine wp_seq_k fun K2 hK2 => ?_
  refine wp_region_lit ?_
  refine F.vl (R_assign rfl (ev_c fa _)) ?_; clear F fa; intro fa F
  refine wpList_nil ?_
  refine hK2 _ _ ?_
  clear hK2
  refine wp_seq_k fun K3 hK3 => ?_
  refine wp_region_lit ?_
  refine F.mv ?_; clear F fa; intro fa F
  refine F.vl (R_add rfl (F.at rfl) (ev_c fa _) (by omega) (by omega)) ?_; clear F fa; intro fa F
  rw [show ((P : Nat) : Int) + 1 = ((P + 1 : Nat) : Int) from rfl] at F
  refine F.mv ?_; clear F fa; intro fa F
  refine sq_call F rfl (by decide) rfl (R_callV rfl rfl Try.call92 (mpS (F.at rfl) (mpS (F.at rfl) mp0))) (tuples_any (P + 1) nd (by omega) hnd _) fun e w1 hR => ?_
  obtain ⟨L, ta, tc, rfl, hL, ot, fam, e9⟩ := hR
  refine ⟨_, rfl, ?_⟩; clear F fa; intro fa F
  replace E := ext_same E (e9)
  clear e9
  obtain ⟨wT, hwT⟩ : ∃ wT, wT = w1 := ⟨_, rfl⟩
  have ET : Ext [] wT w1 := by rw [hwT]; exact Ext.refl _ _
  have hwT0 : w.heap.size ≤ wT.heap.size := by rw [hwT]; exact E.size
  have HSA := Lib.hid (slAt_of_outer ot rfl)
  have HFR : RowKit.Hid (∀ p ∈ L, RowOf w1 p.1 p.2) := Lib.hid (fun p hp => fam_row fam hp)
  rw [← hwT] at HSA HFR
  clear ot fam
  have hLl : L.length ≤ 10000 := by rw [← List.length_map (f := fun p : Value × List Int => p.2), hL, tupL_len]; exact Nat.le_trans (Nat.pow_le_pow_left (show P + 1 ≤ 7 by omega) nd) (Nat.le_trans (Nat.pow_le_pow_right (by decide) hnd) (by decide))
  have HLB : RowKit.Hid (∀ p ∈ L, p.2.length = nd ∧ ∀ n ∈ p.2, 0 ≤ n ∧ n ≤ 6) := Lib.hid (fun p hp => by have hm : p.2 ∈ tupL (P + 1) nd := (by rw [← hL]; exact List.mem_map.2 ⟨p, hp, rfl⟩); obtain ⟨h1, h2⟩ := (mem_tupL _ _ _).1 hm; exact ⟨h1, fun n hn => by have := h2 n hn; omega⟩)
  have oo : w1.ownsRow wT.heap.size 25 1 (.slice none 0 0) 0 (([] : List (Value × List Int)).map (·.1)) := World.ownsRow_nil _ _ _ _
  refine F.as ?_; clear F fa; intro fa F
  refine wpList_nil ?_
  refine hK3 _ _ ?_
  clear hK3
  refine wp_seq_k fun K4 hK4 => ?_
  refine wp_seq_k fun K5 hK5 => ?_
  refine wp_region_lit ?_
  refine F.vl (R_assign rfl (ev_c fa _)) ?_; clear F fa; intro fa F
  refine wpList_nil ?_
  refine hK5 _ _ ?_
  clear hK5
  refine wp_block ?_
  have F0 := F.sub (.c 0 rfl (.c 1 rfl (.c 6 rfl .n)))
  refine lp_for F0 (L.length) (fun i Lv W => ∃ va : Option Addr, ∃ vc : Nat, ∃ M : List (Value × List Int), Lv = [(5, .slice va M.length vc), (7, .int .i64 ((i : Nat) : Int))] ∧ Ext [] w W ∧ Ext [] wT W ∧ W.ownsRow wT.heap.size 25 1 (.slice va M.length vc) M.length (M.map (·.1)) ∧ M = (L.take i).filter (fun p => mixB P p.2)) ⟨_, ⟨none, 0, [], rfl, E, ET, oo, rfl⟩, F.sub (.c 5 rfl (.c 7 rfl (.c 0 rfl (.c 1 rfl (.c 6 rfl .n)))))⟩ ?_
  clear F F0
  clear E ET
  clear oo
  rintro i _ fa w2 hi1 ⟨va, vc, M, rfl, E, ET, oo, hM⟩ F
  have hMl : M.length ≤ i := by rw [hM]; exact Nat.le_trans (List.length_filter_le _ _) (List.length_take_le _ _)
  refine wp_seq_k fun K6 hK6 => ?_
  refine wp_seq_k fun K7 hK7 => ?_
  refine wp_region_lit ?_
  refine F.mv ?_; clear F fa; intro fa F
  refine F.mv ?_; clear F fa; intro fa F
  refine F.vl (R_len rfl rfl (F.at rfl) Try.underlying22) ?_; clear F fa; intro fa F
  refine F.vl (R_lss rfl (F.at rfl) (F.at rfl)) ?_; clear F fa; intro fa F
  refine wpList_nil ?_
  refine hK7 _ _ ?_
  clear hK7
  refine cd_if F rfl (fun hc17 => ?_) (fun hc17 => ?_)
  · skip
    refine wp_skip ?_
    refine hK6 _ _ ?_
    clear hK6
    refine wp_seq_k fun K8 hK8 => ?_
    refine wp_block ?_
    refine wp_seq_k fun K9 hK9 => ?_
    have hrw := HFR.out _ (getD_mem (.bool true, []) (show i < L.length by omega))
    obtain ⟨la, lca, hla, hlr⟩ := hrw
    obtain ⟨hll, hlb⟩ := HLB.out _ (getD_mem (.bool true, []) (show i < L.length by omega))
    have HLR := Lib.hid (slAt_of_rows hlr 0)
    obtain ⟨t, ht⟩ : ∃ t, t = (L.getD i (.bool true, [])).2 := ⟨_, rfl⟩
    rw [← ht] at hll hlb HLR hla
    refine wp_region_lit ?_
    refine F.vl (R_assign rfl (ev_c fa _)) ?_; clear F fa; intro fa F
    rw [show (0 : Int) = (t.take 0).sum from rfl] at F
    refine wpList_nil ?_
    refine hK9 _ _ ?_
    clear hK9
    refine wp_seq_k fun K10 hK10 => ?_
    refine wp_seq_k fun K11 hK11 => ?_
    refine wp_region_lit ?_
    refine F.vl (R_assign rfl (ev_c fa _)) ?_; clear F fa; intro fa F
    refine wpList_nil ?_
    refine hK11 _ _ ?_
    clear hK11
    refine wp_block ?_
    have F0 := F.sub (.c 0 rfl (.c 1 rfl (.c 5 rfl (.c 6 rfl (.c 7 rfl .n)))))
    refine lp_for F0 (nd) (fun k Lv W => Lv = [(8, .int .i64 ((t.take k).sum)), (9, .int .i64 ((k : Nat) : Int))] ∧ Ext [] w W ∧ Ext [] wT W ∧ W.ownsRow wT.heap.size 25 1 (.slice va M.length vc) M.length (M.map (·.1))) ⟨_, ⟨rfl, E, ET, oo⟩, F.sub (.c 8 rfl (.c 9 rfl (.c 0 rfl (.c 1 rfl (.c 5 rfl (.c 6 rfl (.c 7 rfl .n)))))))⟩ ?_
    clear F F0
    clear E ET
    clear oo
    rintro k _ fa w3 hi2 ⟨rfl, E, ET, oo⟩ F
    refine wp_seq_k fun K12 hK12 => ?_
    refine wp_seq_k fun K13 hK13 => ?_
    refine wp_region_lit ?_
    refine F.mv ?_; clear F fa; intro fa F
    refine F.mv ?_; clear F fa; intro fa F
    refine F.vl (R_lss rfl (F.at rfl) (F.at rfl)) ?_; clear F fa; intro fa F
    refine wpList_nil ?_
    refine hK13 _ _ ?_
    clear hK13
    refine cd_if F rfl (fun hc22 => ?_) (fun hc22 => ?_)
    · skip
      refine wp_skip ?_
      refine hK12 _ _ ?_
      clear hK12
      refine wp_seq_k fun K14 hK14 => ?_
      refine wp_block ?_
      have hsb := sum_take_bd hlb k
      have hnb := hlb _ (getD_mem 0 (show k < t.length by omega))
      refine wp_region_lit ?_
      refine F.mv ?_; clear F fa; intro fa F
      refine F.mv ?_; clear F fa; intro fa F
      refine F.mv ?_; clear F fa; intro fa F
      obtain ⟨xb15, xo15, xa15, xr15⟩ := HSA.out i (by omega)
      refine F.vl (R_ixSlice (sz := 1) rfl ((F.at rfl).trans (xa15 _ _)) (F.at rfl) Try.underlying22 (by kernel_rfl) (by omega) (by omega)) ?_; clear F fa; intro fa F
      refine F.vl (R_load rfl (F.at rfl) Try.underlying25 rfl (xr15 _ ET 0 _ rfl)) ?_; clear F fa; intro fa F
      rw [hla] at F
      refine F.mv ?_; clear F fa; intro fa F
      obtain ⟨xb16, xo16, xa16, xr16⟩ := HLR.out k (by omega)
      refine F.vl (R_ixSlice (sz := 1) rfl ((F.at rfl).trans (xa16 _ _)) (F.at rfl) Try.underlying25 (by kernel_rfl) (by omega) (by omega)) ?_; clear F fa; intro fa F
      refine F.vl (R_load rfl (F.at rfl) Try.underlying3 rfl (xr16 _ ET 0 _ rfl)) ?_; clear F fa; intro fa F
      refine F.vl (R_add rfl (F.at rfl) (F.at rfl) (by omega) (by omega)) ?_; clear F fa; intro fa F
      rw [← sum_take t (by omega)] at F
      refine F.as ?_; clear F fa; intro fa F
      refine wpList_nil ?_
      refine hK14 _ _ ?_
      clear hK14
      refine wp_region_lit ?_
      refine F.mv ?_; clear F fa; intro fa F
      refine F.vl (R_add rfl (F.at rfl) (ev_c fa _) (by omega) (by omega)) ?_; clear F fa; intro fa F
      refine F.as ?_; clear F fa; intro fa F
      refine wpList_nil ?_
      show _ ∧ _
      exact ⟨by omega, _, ⟨rfl, E, ET, oo⟩, F.sub (.c 8 rfl (.c 9 rfl (.c 0 rfl (.c 1 rfl (.c 5 rfl (.c 6 rfl (.c 7 rfl .n)))))))⟩
    · skip
      refine wp_exit ?_
      rw [List.take_of_length_le (show t.length ≤ k by omega)] at F
      refine hK10 _ _ ?_
      clear hK10
      refine wp_seq_k fun K17 hK17 => ?_
      refine wp_region_lit ?_
      refine F.mv ?_; clear F fa; intro fa F
      refine F.mv ?_; clear F fa; intro fa F
      refine F.vl (R_leq rfl (F.at rfl) (F.at rfl)) ?_; clear F fa; intro fa F
      refine wpList_nil ?_
      refine hK17 _ _ ?_
      clear hK17
      refine cd_if F rfl (fun hc36 => ?_) (fun hc36 => ?_)
      · skip
        have hb : mixB P t = true := decide_eq_true hc36
        have hst : M ++ [L.getD i (.bool true, [])] = (L.take (i + 1)).filter (fun p => mixB P p.2) := by rw [take_getD L (.bool true, []) (by omega), List.filter_append, ← hM, List.filter_cons_of_pos (by rw [← ht]; exact hb)]; rfl
        refine wp_region_lit ?_
        refine F.mv ?_; clear F fa; intro fa F
        refine F.mv ?_; clear F fa; intro fa F
        refine F.mv ?_; clear F fa; intro fa F
        obtain ⟨xb18, xo18, xa18, xr18⟩ := HSA.out i (by omega)
        refine F.vl (R_ixSlice (sz := 1) rfl ((F.at rfl).trans (xa18 _ _)) (F.at rfl) Try.underlying22 (by kernel_rfl) (by omega) (by omega)) ?_; clear F fa; intro fa F
        refine F.vl (R_load rfl (F.at rfl) Try.underlying25 rfl (xr18 _ ET 0 _ rfl)) ?_; clear F fa; intro fa F
        rw [hla] at F
        refine sq_new F rfl (by decide) rfl (R_buildSliceV rfl (prS (F.at rfl) pr0) Try.underlying22 (size := 1) (by kernel_rfl) (by decide) (by decide) Try.zeroValue25 (cells := #[.slice la t.length lca]) (by kernel_rfl)) ?_; clear F fa; intro fa w4 F hw
        obtain ⟨n42, hn⟩ : ∃ n, n = w3.heap.size := ⟨_, rfl⟩
        rw [← hn] at F
        have s42 : w3.heap.size ≤ n42 := Nat.le_of_eq hn.symm
        have l42_E : w.heap.size ≤ n42 := by rw [hn]; exact E.size
        have l42_ET : wT.heap.size ≤ n42 := by rw [hn]; exact ET.size
        have o42_oo := Lib.hid (own_ne_new oo hn)
        replace oo := owns_alloc hw oo
        replace E := ext_alloc E hw
        replace ET := ext_alloc ET hw
        have q42 := new_block hw hn
        clear hw hn
        have hEs := ET.size
        refine sq_some F rfl (by decide) rfl (append_run rfl (wT.heap.size) (e := 25) (size := 1) (bytes := 24) Try.underlying22 (by kernel_rfl) (by decide) (F.at rfl) oo (F.at rfl) q42 rfl (by simp [Value.oneCell']) (by omega) (by omega) (by omega)) ?_; clear F fa; rintro fa v' w5 F ⟨hown', hg⟩
        obtain ⟨va43, vc43, rfl⟩ := owns_slice hown'
        replace E := ext_appendX E oo hg (by omega)
        replace ET := ext_appendX ET oo hg (by omega)
        replace oo := hown'
        clear hg
        obtain ⟨Q, hQ⟩ : ∃ Q, Q = M ++ [L.getD i (.bool true, [])] := ⟨_, rfl⟩
        have hQl : M.length + 1 = Q.length := by rw [hQ, List.length_append]; rfl
        rw [show M.map (·.1) ++ [Value.slice la t.length lca] = Q.map (·.1) by rw [hQ, List.map_append, ← hla]; rfl, hQl] at oo
        rw [hQl] at F
        rw [← hQ] at hst
        clear hM
        have hM := hst
        refine F.as ?_; clear F fa; intro fa F
        refine wpList_nil ?_
        refine hK8 _ _ ?_
        clear hK8
        refine wp_region_lit ?_
        refine F.mv ?_; clear F fa; intro fa F
        refine F.vl (R_add rfl (F.at rfl) (ev_c fa _) (by omega) (by omega)) ?_; clear F fa; intro fa F
        refine F.as ?_; clear F fa; intro fa F
        refine wpList_nil ?_
        show _ ∧ _
        exact ⟨by omega, _, ⟨_, _, _, rfl, E, ET, oo, hM⟩, F.sub (.c 5 rfl (.c 7 rfl (.c 0 rfl (.c 1 rfl (.c 6 rfl .n)))))⟩
      · skip
        have hb : mixB P t = false := decide_eq_false hc36
        have hst : M = (L.take (i + 1)).filter (fun p => mixB P p.2) := by rw [take_getD L (.bool true, []) (by omega), List.filter_append, ← hM, List.filter_cons_of_neg (by rw [← ht, hb]; decide)]; simp
        replace hM := hst
        refine wp_skip ?_
        refine hK8 _ _ ?_
        clear hK8
        refine wp_region_lit ?_
        refine F.mv ?_; clear F fa; intro fa F
        refine F.vl (R_add rfl (F.at rfl) (ev_c fa _) (by omega) (by omega)) ?_; clear F fa; intro fa F
        refine F.as ?_; clear F fa; intro fa F
        refine wpList_nil ?_
        show _ ∧ _
        exact ⟨by omega, _, ⟨_, _, _, rfl, E, ET, oo, hM⟩, F.sub (.c 5 rfl (.c 7 rfl (.c 0 rfl (.c 1 rfl (.c 6 rfl .n)))))⟩
  · skip
    refine wp_exit ?_
    rw [List.take_of_length_le (show L.length ≤ i by omega)] at hM
    refine hK4 _ _ ?_
    clear hK4
    refine wp_seq_k fun K19 hK19 => ?_
    refine wp_region_lit ?_
    refine F.mv ?_; clear F fa; intro fa F
    refine F.as ?_; clear F fa; intro fa F
    refine wpList_nil ?_
    refine hK19 _ _ ?_
    clear hK19
    refine wp_ret ?_
    (try simp only [Exit.inBlock, Exit.then, reduceIte])
    refine rt_v F (rs_1 F rfl rfl) ?_
    refine ⟨M, va, vc, rfl, ?_, ⟨slAt_of_outer oo rfl, fun p hp => ?_⟩, E⟩
    · rw [hM, mixL, ← hL, List.filter_map]; rfl
    · rw [hM] at hp; exact (HFR.out p (List.mem_filter.1 hp).1).ext ET
end Go.Proofs.Ytdjeecgddbjbeaa
