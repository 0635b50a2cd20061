/- The greatest number that divides all of some numbers. Conditions: small numbers. -/
import Derived.Test.YtdjeecgddbjbeaaDcl
namespace Go.Proofs.Ytdjeecgddbjbeaa
open Go.RowKit
set_option linter.unusedVariables false
set_option linter.unusedSimpArgs false
theorem gcT_pad {l : List Int} : ∀ {n : Nat}, l.length ≤ n → gcT (val l) n = gcT (val l) l.length
  | 0, h => by rw [show l.length = 0 by omega]
  | n + 1, h => by
    by_cases e : l.length = n + 1
    · rw [e]
    · rw [gcT, val_zero (show l.length ≤ n by omega), show (0 : Int).toNat = 0 from rfl, Nat.gcd_zero_right]
      exact gcT_pad (by omega)
set_option maxRecDepth 100000 in
set_option maxHeartbeats 1000000 in
theorem common_any (l : List Int) (hb : ∀ n ∈ l, 0 ≤ n ∧ n ≤ 6) (h4 : l.length ≤ 4) (a : Option Addr) (c : Nat) (w : World) (h : IsRows w (.slice a l.length c) 1 (l.map intRow)) :
    Calls Try.prog 38 #[.slice a l.length c] w fun e w' => e = .returned (.int .i64 ((gcE (val l) : Nat) : Int)) ∧ Ext [] w w' := by
  have E : Ext [] w w := Ext.refl _ _
  have HS := Lib.hid (slAt_of_rows h 0)
  have HB := Lib.hid hb
  have HT : RowKit.Hid (TubS (val l)) := Lib.hid (fun k _ => val_bd hb (by omega) (by omega) k)
  clear h hb
  refine calls_has 26 Try.func38 rfl Try.ntmps38 (Nat.le_of_ble_eq_true rfl) ?_
  intro fa F
  refine wp_seq_k fun K1 hK1 => ?_
  refine wp_region_lit ?_
  refine F.vl (R_assign rfl (ev_c fa _)) ?_; clear F fa; intro fa F
  refine wpList_nil ?_
  refine hK1 _ _ ?_
  clear hK1
  refine wp_seq_k fun K2 hK2 => ?_
  refine wp_region_lit ?_
  refine F.vl (R_assign rfl (ev_c fa _)) ?_; clear F fa; intro fa F
  rw [show (0 : Int) = ((gcT (val l) 0 : Nat) : Int) from rfl] at F
  refine wpList_nil ?_
  refine hK2 _ _ ?_
  clear hK2
  refine wp_seq_k fun K3 hK3 => ?_
  refine wp_seq_k fun K4 hK4 => ?_
  refine wp_region_lit ?_
  refine F.vl (R_assign rfl (ev_c fa _)) ?_; clear F fa; intro fa F
  rw [show (0 : Int) = ((0 : Nat) : Int) from rfl] at F
  refine wpList_nil ?_
  refine hK4 _ _ ?_
  clear hK4
  refine wp_block ?_
  have F0 := F.sub (.c 0 rfl .n)
  refine lp_for F0 (l.length) (fun i Lv W => Lv = [(3, .int .i64 ((gcT (val l) i : Nat) : Int)), (4, .int .i64 ((i : Nat) : Int))] ∧ Ext [] w W) ⟨_, ⟨rfl, E⟩, F.sub (.c 3 rfl (.c 4 rfl (.c 0 rfl .n)))⟩ ?_
  clear F F0
  clear E
  rintro i _ fa w1 hi1 ⟨rfl, E⟩ F
  refine wp_seq_k fun K5 hK5 => ?_
  refine wp_seq_k fun K6 hK6 => ?_
  refine wp_region_lit ?_
  refine F.mv ?_; clear F fa; intro fa F
  refine F.mv ?_; clear F fa; intro fa F
  refine F.vl (R_len rfl rfl (F.at rfl) Try.underlying25) ?_; clear F fa; intro fa F
  refine F.vl (R_lss rfl (F.at rfl) (F.at rfl)) ?_; clear F fa; intro fa F
  refine wpList_nil ?_
  refine hK6 _ _ ?_
  clear hK6
  refine cd_if F rfl (fun hc10 => ?_) (fun hc10 => ?_)
  · skip
    refine wp_skip ?_
    refine hK5 _ _ ?_
    clear hK5
    refine wp_seq_k fun K7 hK7 => ?_
    refine wp_block ?_
    refine wp_seq_k fun K8 hK8 => ?_
    obtain ⟨hf0, hf1⟩ := HT.out i (by omega)
    replace hf0 : 0 ≤ l.getD i 0 := hf0
    replace hf1 : l.getD i 0 ≤ 6 := hf1
    obtain ⟨p, hp⟩ : ∃ p : Nat, l.getD i 0 = p := ⟨(l.getD i 0).toNat, by omega⟩
    have hpn : (val l i).toNat = p := by show (l.getD i 0).toNat = p; omega
    refine wp_region_st 6 follows (by kernel_rfl) fun w2 hh eh => ?_
    replace E := ext_same E eh
    clear hh eh
    refine F.smv ?_; clear F fa; intro fa F
    refine F.smv ?_; clear F fa; intro fa F
    refine F.smv ?_; clear F fa; intro fa F
    obtain ⟨xb9, xo9, xa9, xr9⟩ := HS.out i (by omega)
    refine F.sv (R_ixSlice (sz := 1) rfl ((F.at rfl).trans (xa9 _ _)) (F.at rfl) Try.underlying25 (by kernel_rfl) (by omega) (by omega)) ?_; clear F fa; intro fa F
    refine F.sv (R_load rfl (F.at rfl) Try.underlying3 rfl (xr9 _ E 0 _ rfl)) ?_; clear F fa; intro fa F
    refine F.sv (R_assign rfl (F.at rfl)) ?_; clear F fa; intro fa F
    refine wpStill_nil ?_
    refine F.as ?_; clear F fa; intro fa F
    refine wpList_nil ?_
    rw [hp] at F
    refine hK8 _ _ ?_
    clear hK8
    refine wp_seq_k fun K10 hK10 => ?_
    refine wp_block ?_
    have F0 := F.sub (.c 0 rfl (.c 4 rfl .n))
    refine lp_for F0 (6) (fun j Lv W => ∃ u v : Nat, Lv = [(5, .int .i64 ((u : Nat) : Int)), (6, .int .i64 ((v : Nat) : Int))] ∧ Ext [] w W ∧ Nat.gcd u v = gcT (val l) (i + 1) ∧ v + j ≤ 6 ∧ u ≤ 6) ⟨_, ⟨_, _, rfl, E, (by rw [gcT, hpn]), (by omega), (gcT_le HT.out (by omega))⟩, F.sub (.c 5 rfl (.c 6 rfl (.c 0 rfl (.c 4 rfl .n))))⟩ ?_
    clear F F0
    clear E
    rintro j _ fa w3 hi2 ⟨u, v, rfl, E, hgc, hvj, hu6⟩ F
    refine wp_seq_k fun K11 hK11 => ?_
    refine wp_seq_k fun K12 hK12 => ?_
    refine wp_region_lit ?_
    refine F.mv ?_; clear F fa; intro fa F
    refine F.vl (R_neqD rfl (F.at rfl) (ev_c fa _)) ?_; clear F fa; intro fa F
    refine wpList_nil ?_
    refine hK12 _ _ ?_
    clear hK12
    refine cd_if F rfl (fun hc19 => ?_) (fun hc19 => ?_)
    · skip
      refine wp_skip ?_
      refine hK11 _ _ ?_
      clear hK11
      refine wp_block ?_
      refine wp_region_st 5 follows (by kernel_rfl) fun w4 hh eh => ?_
      replace E := ext_same E eh
      clear hh eh
      refine F.smv ?_; clear F fa; intro fa F
      refine F.smv ?_; clear F fa; intro fa F
      refine F.smv ?_; clear F fa; intro fa F
      refine F.sv (R_remP rfl (F.at rfl) (F.at rfl) (by omega) (by omega)) ?_; clear F fa; intro fa F
      refine F.sv (R_assign rfl (F.at rfl)) ?_; clear F fa; intro fa F
      refine wpStill_nil ?_
      refine F.as ?_; clear F fa; intro fa F
      refine wpList_nil ?_
      rw [show (((u : Nat) : Int) % ((v : Nat) : Int)) = ((u % v : Nat) : Int) from rfl] at F
      show _ ∧ _
      exact ⟨by omega, _, ⟨_, _, rfl, E, (by rw [← hgc]; exact gcd_round (by omega)), (by have := Nat.mod_lt u (show 0 < v by omega); omega), (by omega)⟩, F.sub (.c 5 rfl (.c 6 rfl (.c 0 rfl (.c 4 rfl .n))))⟩
    · skip
      refine wp_exit ?_
      have hv0 : v = 0 := by omega
      rw [show u = gcT (val l) (i + 1) by rw [← hgc, hv0, Nat.gcd_zero_right]] at F
      refine hK10 _ _ ?_
      clear hK10
      refine wp_region_lit ?_
      refine F.mv ?_; clear F fa; intro fa F
      refine F.as ?_; clear F fa; intro fa F
      refine wpList_nil ?_
      refine hK7 _ _ ?_
      clear hK7
      refine wp_region_lit ?_
      refine F.mv ?_; clear F fa; intro fa F
      refine F.vl (R_add rfl (F.at rfl) (ev_c fa _) (by omega) (by omega)) ?_; clear F fa; intro fa F
      refine F.as ?_; clear F fa; intro fa F
      refine wpList_nil ?_
      show _ ∧ _
      exact ⟨by omega, _, ⟨rfl, E⟩, F.sub (.c 3 rfl (.c 4 rfl (.c 0 rfl .n)))⟩
  · skip
    refine wp_exit ?_
    have hi4 : gcT (val l) i = gcE (val l) := by rw [show i = l.length by omega, gcE, gcT_pad h4]
    rw [hi4] at F
    refine hK3 _ _ ?_
    clear hK3
    refine wp_seq_k fun K13 hK13 => ?_
    refine wp_region_lit ?_
    refine F.mv ?_; clear F fa; intro fa F
    refine F.as ?_; clear F fa; intro fa F
    refine wpList_nil ?_
    refine hK13 _ _ ?_
    clear hK13
    refine wp_ret ?_
    (try simp only [Exit.inBlock, Exit.then, reduceIte])
    refine rt_v F (rs_1 F rfl rfl) ?_
    exact ⟨rfl, E⟩
theorem mix_gc : ∀ nd, nd < 5 → (mixL nd 6).filter (fun m => decide (gcE (val m) = 1)) = (recL nd).filter (fun m => decide (gcE (val m) = 1)) := by decide +kernel
/-- All that match, by the mixtures. -/
theorem mat_mix {x : Vm} (hd : x.D.length ≤ 4) (s : Nat → Int) (ls : List Int) : matL x s ls = (mixL x.D.length 6).filter (cndE x s ls) := by
  have key : ∀ L : List (List Int), L.filter (cndE x s ls) = (L.filter (fun m => decide (gcE (val m) = 1))).filter (fun m => matE x (val m) s ls) := fun L => by
    rw [List.filter_filter]
    refine List.filter_congr fun m _ => ?_
    rw [cndE, Bool.and_comm]
  rw [matL, key, key, mix_gc _ (by omega)]
theorem filt_at {p : List Int → Bool} {L : List (List Int)} {i : Nat} (hi : i < L.length) (hp : p (L.getD i []) = true) : ((L.take i).filter p).length < (L.filter p).length ∧ (L.filter p).getD ((L.take i).filter p).length [] = L.getD i [] := by
  have e : L = L.take i ++ L.getD i [] :: L.drop (i + 1) := by
    have h1 := drop_getD L [] hi
    rw [← h1, List.take_append_drop]
  have e2 : L.filter p = (L.take i).filter p ++ L.getD i [] :: (L.drop (i + 1)).filter p := by
    conv => lhs; rw [e]
    rw [List.filter_append, List.filter_cons_of_pos hp]
  rw [e2]
  constructor
  · rw [List.length_append, List.length_cons]; omega
  · rw [List.getD_eq_getElem?_getD, List.getElem?_append_right (Nat.le_refl _), Nat.sub_self]; rfl
end Go.Proofs.Ytdjeecgddbjbeaa
