/- The walk of Mixed: the numbers from 0 on in some order. Conditions: at most 1000 numbers. -/
import Derived.Test.YtholfdgebdlgjaaVd
namespace Go.Proofs.Ytholfdgebdlgjaa
open Go.RowKit
set_option linter.unusedVariables false
set_option linter.unusedSimpArgs false
/-- The numbers from 0 to n - 1. -/
def ints (n : Nat) : List Int := (List.range n).map fun (i : Nat) => (i : Int)
theorem ints_succ (n : Nat) : ints (n + 1) = ints n ++ [(n : Int)] := by simp [ints, List.range_succ]
theorem ints_len (n : Nat) : (ints n).length = n := by simp [ints]
theorem swap_perm {l : List Int} {i j : Nat} (hi : i < l.length) (hj : j < l.length) : ((l.set i (l.getD j 0)).set j (l.getD i 0)).Perm l := by
  have := @List.set_set_perm _ l i j hi hj
  rw [show l.getD j 0 = l[j] by simp [hj], show l.getD i 0 = l[i] by simp [hi]]
  exact this
theorem mix_step {p : List Int} {i j : Nat} (hp : p.Perm (ints i)) (hj : j ≤ i) : (((p ++ [(i : Int)]).set i ((p ++ [(i : Int)]).getD j 0)).set j (i : Int)).Perm (ints (i + 1)) := by
  have hl : p.length = i := by rw [hp.length_eq, ints_len]
  have e : (p ++ [(i : Int)]).getD i 0 = (i : Int) := by simp [hl]
  have h := swap_perm (l := p ++ [(i : Int)]) (i := i) (j := j) (by simp; omega) (by simp; omega)
  rw [e] at h
  refine h.trans ?_
  rw [ints_succ]
  exact hp.append_right _
def MixPost (w0 w : World) (b k : Nat) (nv : Value) (n : Nat) (e : Ending) (w' : World) : Prop :=
  ∃ (p : List Int) (a : Option Addr) (c : Nat), e = .returned (.slice a n c) ∧ p.Perm (ints n) ∧ w'.ownsRow w.heap.size 3 1 (.slice a n c) n (ivs p) ∧ LotsOk w0 w' b (k + n) nv ∧ Ext [b] w w'
theorem ivs_len (xs : List Int) : (ivs xs).length = xs.length := by simp [ivs]
theorem ivs_set (xs : List Int) (i : Nat) (v : Int) : (ivs xs).set i (.int .i64 v) = ivs (xs.set i v) := by simp [ivs, List.map_set]
set_option maxRecDepth 100000 in
theorem mixed_any (w0 w : World) (b k : Nat) (nv : Value) (HL : LotsOk w0 w b k nv) (hk : k ≤ 10000) (n : Nat) (hn : n ≤ 1000) :
    Calls Try.prog 57 #[.pointer (some ⟨b, 0, none⟩), .int .i64 n] w (MixPost w0 w b k nv n) := by
  have hb := HL.1
  have hbw := lots_lt HL
  have hws : w0.heap.size ≤ w.heap.size := HL.2.2.1.size
  have E : Ext [b] w w := Ext.refl _ _
  have ho : w.ownsRow w.heap.size 3 1 (.slice none 0 0) 0 (ivs []) := World.ownsRow_nil _ _ _ _
  refine calls_has 32 Try.func57 rfl Try.ntmps57 (Nat.le_of_ble_eq_true rfl) ?_
  intro fa F
  refine wp_seq_k fun K1 hK1 => ?_
  refine wp_region_lit ?_
  refine F.vl (R_assign rfl (ev_c fa _)) ?_; clear F fa; intro fa F
  refine wpList_nil ?_
  refine hK1 _ _ ?_
  clear hK1
  refine wp_seq_k fun K2 hK2 => ?_
  refine wp_region_lit ?_
  refine F.vl (R_assign rfl (ev_c fa _)) ?_; clear F fa; intro fa F
  refine wpList_nil ?_
  refine hK2 _ _ ?_
  clear hK2
  refine wp_seq_k fun K3 hK3 => ?_
  refine wp_seq_k fun K4 hK4 => ?_
  refine wp_region_lit ?_
  refine F.vl (R_assign rfl (ev_c fa _)) ?_; clear F fa; intro fa F
  refine wpList_nil ?_
  refine hK4 _ _ ?_
  clear hK4
  refine wp_block ?_
  have F0 := F.sub (.c 0 rfl (.c 1 rfl .n))
  replace HL : LotsOk w0 w b (k + 0) nv := lots_mono HL (by omega)
  refine lp_for F0 (n) (fun i Lv W => ∃ va : Option Addr, ∃ vc : Nat, ∃ p : List Int, Lv = [(5, .slice va i vc), (6, .int .i64 ((i : Nat) : Int))] ∧ Ext [b] w W ∧ LotsOk w0 W b (k + i) nv ∧ W.ownsRow w.heap.size 3 1 (.slice va i vc) i (ivs p) ∧ p.Perm (ints i)) ⟨_, ⟨none, 0, [], rfl, E, HL, ho, .refl _⟩, F.sub (.c 5 rfl (.c 6 rfl (.c 0 rfl (.c 1 rfl .n))))⟩ ?_
  clear F F0
  clear E HL
  clear ho
  rintro i _ fa w1 hi1 ⟨va, vc, p, rfl, E, HL, ho, hp⟩ F
  refine wp_seq_k fun K5 hK5 => ?_
  refine wp_seq_k fun K6 hK6 => ?_
  refine wp_region_lit ?_
  refine F.mv ?_; clear F fa; intro fa F
  refine F.mv ?_; clear F fa; intro fa F
  refine F.vl (R_lss rfl (F.at rfl) (F.at rfl)) ?_; clear F fa; intro fa F
  refine wpList_nil ?_
  refine hK6 _ _ ?_
  clear hK6
  refine cd_if F rfl (fun hc10 => ?_) (fun hc10 => ?_)
  · skip
    refine wp_skip ?_
    refine hK5 _ _ ?_
    clear hK5
    refine wp_seq_k fun K7 hK7 => ?_
    refine wp_block ?_
    refine wp_seq_k fun K8 hK8 => ?_
    refine wp_region_lit ?_
    refine F.mv ?_; clear F fa; intro fa F
    refine F.mv ?_; clear F fa; intro fa F
    refine sq_call F rfl (by decide) rfl (R_callV rfl rfl Try.call51 (mpS (F.at rfl) (mpS (F.at rfl) mp0))) (upto_any w0 _ b _ nv (i : Int) HL (by omega) (by omega) (by omega)) fun e w2 hR => ?_
    obtain ⟨j, rfl, hj1, hj2, HL, e1⟩ := hR
    refine ⟨_, rfl, ?_⟩; clear F fa; intro fa F
    replace ho := owns_ext ho (e1) (by simp; omega)
    replace E := E.trans' e1 (fun i hi hl => by simp only [List.mem_cons, List.not_mem_nil, or_false] at hi ⊢; omega)
    refine F.as ?_; clear F fa; intro fa F
    refine wpList_nil ?_
    obtain ⟨j, rfl⟩ := Int.eq_ofNat_of_zero_le hj1
    have hji : j ≤ i := by omega
    refine hK8 _ _ ?_
    clear hK8
    refine wp_seq_k fun K9 hK9 => ?_
    refine wp_region_lit ?_
    refine F.mv ?_; clear F fa; intro fa F
    refine F.mv ?_; clear F fa; intro fa F
    refine sq_new F rfl (by decide) rfl (R_buildSliceV rfl (prS (F.at rfl) pr0) Try.underlying29 (size := 1) (by kernel_rfl) (by decide) (by decide) Try.zeroValue3 (cells := #[.int .i64 ((i : Nat) : Int)]) (by kernel_rfl)) ?_; clear F fa; intro fa w3 F hw
    obtain ⟨n18, hn⟩ : ∃ n, n = w2.heap.size := ⟨_, rfl⟩
    rw [← hn] at F
    have s18 : w2.heap.size ≤ n18 := Nat.le_of_eq hn.symm
    have l18_E : w.heap.size ≤ n18 := by rw [hn]; exact E.size
    have b18_HL := Nat.lt_of_lt_of_eq (lots_lt HL) hn.symm
    have o18_ho := Lib.hid (own_ne_new ho hn)
    replace ho := owns_alloc hw ho
    replace E := ext_alloc E hw
    replace HL := lots_alloc hw HL
    have q18 := new_block hw hn
    clear hw hn
    have hzE := E.size
    refine sq_some F rfl (by decide) rfl (append_run rfl (w.heap.size) (e := 3) (size := 1) (bytes := 8) Try.underlying29 (by kernel_rfl) (by decide) (F.at rfl) ho (F.at rfl) q18 rfl (by simp [Value.oneCell']) (by omega) (by omega) (by omega)) ?_; clear F fa; rintro fa v' w4 F ⟨hown', hg⟩
    obtain ⟨va19, vc19, rfl⟩ := owns_slice hown'
    replace HL := lots_append HL ho hg (by omega) (by decide)
    replace E := ext_appendX E ho hg (by omega)
    replace ho := hown'
    clear hg
    rw [show ivs p ++ [.int .i64 (i : Int)] = ivs (p ++ [(i : Int)]) by simp [ivs]] at ho
    refine F.as ?_; clear F fa; intro fa F
    refine wpList_nil ?_
    refine hK9 _ _ ?_
    clear hK9
    have hpl : (p ++ [(i : Int)]).length = i + 1 := by rw [List.length_append, hp.length_eq, ints_len]; rfl
    have EX : Ext [] w4 w4 := Ext.refl _ _
    have HS := Lib.hid (slAt_of_ivs ho hpl.symm [] (by simp))
    have hil := ivs_len (p ++ [(i : Int)])
    refine wp_region_lit ?_
    refine F.mv ?_; clear F fa; intro fa F
    refine F.mv ?_; clear F fa; intro fa F
    refine F.mv ?_; clear F fa; intro fa F
    refine F.mv ?_; clear F fa; intro fa F
    refine F.mv ?_; clear F fa; intro fa F
    refine F.mv ?_; clear F fa; intro fa F
    obtain ⟨xb10, xo10, xa10, xr10⟩ := HS.out j (by omega)
    refine F.vl (R_ixSlice (sz := 1) rfl ((F.at rfl).trans (xa10 _ _)) (F.at rfl) Try.underlying29 (by kernel_rfl) (by omega) (by omega)) ?_; clear F fa; intro fa F
    refine F.vl (R_load rfl (F.at rfl) Try.underlying3 rfl (xr10 _ EX 0 _ rfl)) ?_; clear F fa; intro fa F
    refine F.mv ?_; clear F fa; intro fa F
    obtain ⟨xb11, xo11, xa11, xr11⟩ := HS.out i (by omega)
    refine F.vl (R_ixSlice (sz := 1) rfl ((F.at rfl).trans (xa11 _ _)) (F.at rfl) Try.underlying29 (by kernel_rfl) (by omega) (by omega)) ?_; clear F fa; intro fa F
    obtain ⟨⟨u0, hcu⟩, hfu, hst⟩ := owns_at ho xa11 (j := i) (p := xo11 + ((i : Nat) : Int).toNat * 1) (by first | omega | (simp; omega)) (by omega)
    refine sq_to rfl rfl (R_store rfl (F.at rfl) (F.at rfl) rfl (by kernel_rfl) hcu hfu) ?_; intro w5 hw
    obtain ⟨hown', hg⟩ := hst _ _ hw
    clear hst hcu hfu hw
    replace HL := lots_append HL ho hg (by omega) (by decide)
    replace E := ext_appendX E ho hg (by omega)
    replace ho := hown'
    clear hg
    rw [ivs_set] at ho
    have hil2 := ivs_len ((p ++ [(i : Int)]).set i ((p ++ [(i : Int)]).getD j 0))
    rw [List.length_set] at hil2
    obtain ⟨xb12, xo12, xa12, xr12⟩ := HS.out j (by omega)
    refine F.vl (R_ixSlice (sz := 1) rfl ((F.at rfl).trans (xa12 _ _)) (F.at rfl) Try.underlying29 (by kernel_rfl) (by omega) (by omega)) ?_; clear F fa; intro fa F
    obtain ⟨⟨u0, hcu⟩, hfu, hst⟩ := owns_at ho xa12 (j := j) (p := xo12 + ((j : Nat) : Int).toNat * 1) (by first | omega | (simp; omega)) (by omega)
    refine sq_to rfl rfl (R_store rfl (F.at rfl) (F.at rfl) rfl (by kernel_rfl) hcu hfu) ?_; intro w6 hw
    obtain ⟨hown', hg⟩ := hst _ _ hw
    clear hst hcu hfu hw
    replace HL := lots_append HL ho hg (by omega) (by decide)
    replace E := ext_appendX E ho hg (by omega)
    replace ho := hown'
    clear hg
    rw [ivs_set] at ho
    have hp2 := mix_step hp hji
    refine wpList_nil ?_
    refine hK7 _ _ ?_
    clear hK7
    refine wp_region_lit ?_
    refine F.mv ?_; clear F fa; intro fa F
    refine F.vl (R_add rfl (F.at rfl) (ev_c fa _) (by omega) (by omega)) ?_; clear F fa; intro fa F
    refine F.as ?_; clear F fa; intro fa F
    refine wpList_nil ?_
    replace HL : LotsOk w0 w6 b (k + (i + 1)) nv := lots_mono HL (by omega)
    show _ ∧ _
    exact ⟨by omega, _, ⟨_, _, _, rfl, E, HL, ho, hp2⟩, F.sub (.c 5 rfl (.c 6 rfl (.c 0 rfl (.c 1 rfl .n))))⟩
  · skip
    refine wp_exit ?_
    refine hK3 _ _ ?_
    clear hK3
    refine wp_seq_k fun K13 hK13 => ?_
    refine wp_region_lit ?_
    refine F.mv ?_; clear F fa; intro fa F
    refine F.as ?_; clear F fa; intro fa F
    refine wpList_nil ?_
    refine hK13 _ _ ?_
    clear hK13
    refine wp_ret ?_
    (try simp only [Exit.inBlock, Exit.then])
    refine rt_v F (rs_1 F rfl rfl) ?_
    exact ⟨p, va, vc, by rw [show i = n by omega], by rw [← show i = n by omega]; exact hp, by rw [← show i = n by omega]; exact ho, lots_mono HL (by omega), E⟩
end Go.Proofs.Ytholfdgebdlgjaa
