/- The walk of Tuples. Conditions: small numbers. -/
import Derived.Test.YtdjeecgddbjbeaaDkv
namespace Go.Proofs.Ytdjeecgddbjbeaa
open Go.RowKit
set_option linter.unusedVariables false
set_option linter.unusedSimpArgs false
/-- All lists of so many numbers below n. -/
def tupF (n : Nat) (L : List (List Int)) : List (List Int) := L.flatMap fun l => (List.range n).map fun (x : Nat) => l ++ [(x : Int)]
def tupL (n : Nat) : Nat → List (List Int)
  | 0 => [[]]
  | k + 1 => tupF n (tupL n k)
theorem tupF_len (n : Nat) (L : List (List Int)) : (tupF n L).length = L.length * n := by
  unfold tupF
  induction L with
  | nil => simp
  | cons a l ih => simp only [List.flatMap_cons, List.length_append, List.length_map, List.length_range, ih, List.length_cons, Nat.add_mul]; omega
theorem tupL_len (n : Nat) : ∀ k, (tupL n k).length = n ^ k
  | 0 => rfl
  | k + 1 => by rw [tupL, tupF_len, tupL_len n k, Nat.pow_succ]
theorem tupL_mem (n : Nat) : ∀ k, ∀ l ∈ tupL n k, l.length = k
  | 0, l, h => by obtain rfl : l = [] := (by simpa [tupL] using h); rfl
  | k + 1, l, h => by
    obtain ⟨l', h', h2⟩ := List.mem_flatMap.1 h
    obtain ⟨x, -, rfl⟩ := List.mem_map.1 h2
    rw [List.length_append, tupL_mem n k l' h', List.length_singleton]
theorem mem_tupL (n : Nat) : ∀ (k : Nat) (l : List Int), l ∈ tupL n k ↔ l.length = k ∧ ∀ x ∈ l, 0 ≤ x ∧ x < n
  | 0, l => by
    constructor
    · intro h
      obtain rfl : l = [] := (by simpa [tupL] using h)
      exact ⟨rfl, fun x hx => by simp at hx⟩
    · rintro ⟨h, -⟩
      obtain rfl := List.length_eq_zero_iff.1 h
      simp [tupL]
  | k + 1, l => by
    constructor
    · intro h
      obtain ⟨l', h', h2⟩ := List.mem_flatMap.1 h
      obtain ⟨x, hx, rfl⟩ := List.mem_map.1 h2
      obtain ⟨a, b⟩ := (mem_tupL n k l').1 h'
      have hx := List.mem_range.1 hx
      refine ⟨by rw [List.length_append, a]; rfl, fun y hy => ?_⟩
      rcases List.mem_append.1 hy with hy | hy
      · exact b y hy
      · obtain rfl := List.mem_singleton.1 hy
        omega
    · rintro ⟨h, hb⟩
      have hne : l ≠ [] := fun e => by subst e; cases h
      have e := List.dropLast_concat_getLast hne
      have hx := hb _ (List.getLast_mem hne)
      refine List.mem_flatMap.2 ⟨l.dropLast, (mem_tupL n k _).2 ⟨by rw [List.length_dropLast, h]; rfl, fun x hx => hb x (List.dropLast_subset _ hx)⟩, List.mem_map.2 ⟨(l.getLast hne).toNat, List.mem_range.2 (by omega), ?_⟩⟩
      rw [Int.toNat_of_nonneg hx.1]
      exact e
theorem fam_right {w : World} {base : Nat} {L O : List (Value × List Int)} (h : FamT w base (L ++ O)) : FamT w base O :=
  ⟨fun p hp => h.1 p (List.mem_append_right _ hp), (List.pairwise_append.1 h.2).2.1⟩
def TupPost (w : World) (n m : Nat) (e : Ending) (w' : World) : Prop :=
  ∃ (L : List (Value × List Int)) (a : Option Addr) (c : Nat), e = .returned (.slice a L.length c) ∧ L.map (·.2) = tupL n m ∧ w'.ownsRow w.heap.size 25 1 (.slice a L.length c) L.length (L.map (·.1)) ∧ FamT w' w.heap.size L ∧ Ext [] w w'
set_option maxRecDepth 100000 in
set_option maxHeartbeats 1000000 in
theorem tuples_any (n m : Nat) (hn : n ≤ 10) (hm : m ≤ 4) (w : World) : Calls Try.prog 92 #[.int .i64 (n : Nat), .int .i64 (m : Nat)] w (TupPost w n m) := by
  have E : Ext [] w w := Ext.refl _ _
  have hB : Hid (∀ k, k ≤ 4 → n ^ k ≤ 10000) := fun k hk => Nat.le_trans (Nat.pow_le_pow_left hn k) (Nat.le_trans (Nat.pow_le_pow_right (by decide) hk) (by decide))
  refine calls_has 38 Try.func92 rfl Try.ntmps92 (Nat.le_of_ble_eq_true rfl) ?_
  intro fa F
  refine wp_seq_k fun K1 hK1 => ?_
  refine wp_region_lit ?_
  refine F.vl (R_assign rfl (ev_c fa _)) ?_; clear F fa; intro fa F
  refine wpList_nil ?_
  refine hK1 _ _ ?_
  clear hK1
  refine wp_seq_k fun K2 hK2 => ?_
  refine wp_region_lit ?_
  refine sq_new F rfl (by decide) rfl (R_buildSliceV rfl (prS (ev_c fa _) pr0) Try.underlying22 (size := 1) (by kernel_rfl) (by decide) (by decide) Try.zeroValue25 (cells := #[.slice none 0 0]) (by kernel_rfl)) ?_; clear F fa; intro fa w1 F hw
  obtain ⟨n9, hn⟩ : ∃ n, n = w.heap.size := ⟨_, rfl⟩
  rw [← hn] at F
  have s9 : w.heap.size ≤ n9 := Nat.le_of_eq hn.symm
  have l9_E : w.heap.size ≤ n9 := by rw [hn]; exact E.size
  replace E := ext_alloc E hw
  have q9 := new_block hw hn
  clear hw hn
  refine F.as ?_; clear F fa; intro fa F
  refine wpList_nil ?_
  obtain ⟨O0, hO0⟩ : ∃ O0, O0 = [(Value.slice none 0 0, ([] : List Int))] := ⟨_, rfl⟩
  have oo : w1.ownsRow w.heap.size 25 1 (.slice (some ⟨n9, 0, none⟩) O0.length 1) O0.length (O0.map (·.1)) := by rw [hO0]; exact owns_lit1 q9 (by omega)
  have fam : FamT w1 w.heap.size O0 := by rw [hO0]; exact ⟨fun p hp => by obtain rfl : p = (Value.slice none 0 0, ([] : List Int)) := (by simpa using hp); exact World.ownsRow_nil _ _ _ _, List.pairwise_singleton _ _⟩
  have hO0l : 1 = O0.length := by rw [hO0]; rfl
  rw [show Value.slice (some ⟨n9, 0, none⟩) 1 1 = Value.slice (some ⟨n9, 0, none⟩) O0.length 1 by rw [← hO0l]] at F
  clear q9
  refine hK2 _ _ ?_
  clear hK2
  refine wp_seq_k fun K3 hK3 => ?_
  refine wp_block ?_
  have F0 := F.sub (.c 0 rfl .n)
  refine lp_for F0 (m) (fun k Lv W => ∃ va : Option Addr, ∃ vc : Nat, ∃ O : List (Value × List Int), Lv = [(1, .int .i64 ((m - k : Nat) : Int)), (5, .slice va O.length vc)] ∧ Ext [] w W ∧ W.ownsRow w.heap.size 25 1 (.slice va O.length vc) O.length (O.map (·.1)) ∧ FamT W w.heap.size O ∧ O.map (·.2) = tupL n k) ⟨_, ⟨some ⟨n9, 0, none⟩, 1, O0, rfl, E, oo, fam, (by rw [hO0]; rfl)⟩, F.sub (.c 1 rfl (.c 5 rfl (.c 0 rfl .n)))⟩ ?_
  clear F F0
  clear E
  clear oo
  clear fam
  rintro k _ fa w2 hi1 ⟨va, vc, O, rfl, E, oo, fam, hO⟩ F
  have hOl : O.length ≤ 10000 := by rw [← List.length_map (f := fun p : Value × List Int => p.2), hO, tupL_len]; exact hB.out k (by omega)
  have lo : w2.ownsRow w.heap.size 25 1 (.slice none 0 0) 0 (([] : List (Value × List Int)).map (·.1)) := World.ownsRow_nil _ _ _ _
  refine wp_seq_k fun K4 hK4 => ?_
  refine wp_seq_k fun K5 hK5 => ?_
  refine wp_region_lit ?_
  refine F.mv ?_; clear F fa; intro fa F
  refine F.vl (R_gtr rfl (F.at rfl) (ev_c fa _)) ?_; clear F fa; intro fa F
  refine wpList_nil ?_
  refine hK5 _ _ ?_
  clear hK5
  refine cd_if F rfl (fun hc11 => ?_) (fun hc11 => ?_)
  · skip
    refine wp_skip ?_
    refine hK4 _ _ ?_
    clear hK4
    refine wp_seq_k fun K6 hK6 => ?_
    refine wp_block ?_
    refine wp_seq_k fun K7 hK7 => ?_
    have hap : Hid ((Value.slice va O.length vc).ownBlock = none ∨ (Value.slice va O.length vc).ownBlock ≠ (Value.slice none 0 0).ownBlock) := by cases va with | none => exact .inl rfl | some x => exact .inr (fun e => by cases e)
    rw [show FamT w2 w.heap.size O = FamT w2 w.heap.size (O ++ []) by rw [List.append_nil]] at fam
    refine wp_region_lit ?_
    refine F.vl (R_assign rfl (ev_c fa _)) ?_; clear F fa; intro fa F
    refine wpList_nil ?_
    refine hK7 _ _ ?_
    clear hK7
    refine wp_seq_k fun K8 hK8 => ?_
    refine wp_seq_k fun K9 hK9 => ?_
    refine wp_region_lit ?_
    refine F.vl (R_assign rfl (ev_c fa _)) ?_; clear F fa; intro fa F
    refine wpList_nil ?_
    refine hK9 _ _ ?_
    clear hK9
    refine wp_block ?_
    have F0 := F.sub (.c 0 rfl (.c 1 rfl (.c 5 rfl .n)))
    refine lp_for F0 (O.length) (fun i Lv W => ∃ va2 : Option Addr, ∃ vc2 : Nat, ∃ P : List (Value × List Int), Lv = [(6, .slice va2 P.length vc2), (7, .int .i64 ((i : Nat) : Int))] ∧ Ext [] w W ∧ W.ownsRow w.heap.size 25 1 (.slice va O.length vc) O.length (O.map (·.1)) ∧ W.ownsRow w.heap.size 25 1 (.slice va2 P.length vc2) P.length (P.map (·.1)) ∧ FamT W w.heap.size (O ++ P) ∧ Hid ((Value.slice va O.length vc).ownBlock = none ∨ (Value.slice va O.length vc).ownBlock ≠ (Value.slice va2 P.length vc2).ownBlock) ∧ P.map (·.2) = tupF n ((O.map (·.2)).take i)) ⟨_, ⟨none, 0, [], rfl, E, oo, lo, fam, hap, rfl⟩, F.sub (.c 6 rfl (.c 7 rfl (.c 0 rfl (.c 1 rfl (.c 5 rfl .n)))))⟩ ?_
    clear F F0
    clear E oo
    clear fam
    clear lo
    rintro i _ fa w3 hi2 ⟨va2, vc2, P, rfl, E, oo, lo, fam, hap, hP⟩ F
    have hPl : P.length ≤ 100000 := by rw [← List.length_map (f := fun p : Value × List Int => p.2), hP, tupF_len, List.length_take, List.length_map]; exact Nat.le_trans (Nat.mul_le_mul (show min i O.length ≤ 10000 by omega) hn) (by decide)
    refine wp_seq_k fun K10 hK10 => ?_
    refine wp_seq_k fun K11 hK11 => ?_
    refine wp_region_lit ?_
    refine F.mv ?_; clear F fa; intro fa F
    refine F.mv ?_; clear F fa; intro fa F
    refine F.vl (R_len rfl rfl (F.at rfl) Try.underlying22) ?_; clear F fa; intro fa F
    refine F.vl (R_lss rfl (F.at rfl) (F.at rfl)) ?_; clear F fa; intro fa F
    refine wpList_nil ?_
    refine hK11 _ _ ?_
    clear hK11
    refine cd_if F rfl (fun hc17 => ?_) (fun hc17 => ?_)
    · skip
      refine wp_skip ?_
      refine hK10 _ _ ?_
      clear hK10
      refine wp_seq_k fun K12 hK12 => ?_
      refine wp_block ?_
      refine wp_seq_k fun K13 hK13 => ?_
      refine wp_region_lit ?_
      refine F.vl (R_assign rfl (ev_c fa _)) ?_; clear F fa; intro fa F
      refine wpList_nil ?_
      refine hK13 _ _ ?_
      clear hK13
      refine wp_block ?_
      have F0 := F.sub (.c 0 rfl (.c 1 rfl (.c 5 rfl (.c 7 rfl .n))))
      refine lp_for F0 (n) (fun x Lv W => ∃ va3 : Option Addr, ∃ vc3 : Nat, ∃ Q : List (Value × List Int), Lv = [(6, .slice va3 Q.length vc3), (8, .int .i64 ((x : Nat) : Int))] ∧ Ext [] w W ∧ W.ownsRow w.heap.size 25 1 (.slice va O.length vc) O.length (O.map (·.1)) ∧ W.ownsRow w.heap.size 25 1 (.slice va3 Q.length vc3) Q.length (Q.map (·.1)) ∧ FamT W w.heap.size (O ++ Q) ∧ Hid ((Value.slice va O.length vc).ownBlock = none ∨ (Value.slice va O.length vc).ownBlock ≠ (Value.slice va3 Q.length vc3).ownBlock) ∧ Q.map (·.2) = P.map (·.2) ++ (List.range x).map (fun (y : Nat) => (O.getD i (.bool true, [])).2 ++ [(y : Int)])) ⟨_, ⟨va2, vc2, P, rfl, E, oo, lo, fam, hap, (by simp)⟩, F.sub (.c 6 rfl (.c 8 rfl (.c 0 rfl (.c 1 rfl (.c 5 rfl (.c 7 rfl .n))))))⟩ ?_
      clear F F0
      clear E oo
      clear fam
      clear lo
      rintro x _ fa w4 hi3 ⟨va3, vc3, Q, rfl, E, oo, lo, fam, hap, hQ⟩ F
      have hQl : Q.length = P.length + x := by have := congrArg List.length hQ; simpa using this
      refine wp_seq_k fun K14 hK14 => ?_
      refine wp_seq_k fun K15 hK15 => ?_
      refine wp_region_lit ?_
      refine F.mv ?_; clear F fa; intro fa F
      refine F.mv ?_; clear F fa; intro fa F
      refine F.vl (R_lss rfl (F.at rfl) (F.at rfl)) ?_; clear F fa; intro fa F
      refine wpList_nil ?_
      refine hK15 _ _ ?_
      clear hK15
      refine cd_if F rfl (fun hc22 => ?_) (fun hc22 => ?_)
      · skip
        refine wp_skip ?_
        refine hK14 _ _ ?_
        clear hK14
        refine wp_seq_k fun K16 hK16 => ?_
        refine wp_block ?_
        have EX : Ext [] w4 w4 := Ext.refl _ _
        have HS := Lib.hid (slAt_of_outer oo rfl)
        have hmm : O.getD i (.bool true, []) ∈ O ++ Q := List.mem_append_left _ (getD_mem _ (by omega))
        refine wp_region_lit ?_
        refine F.mv ?_; clear F fa; intro fa F
        refine F.mv ?_; clear F fa; intro fa F
        refine F.mv ?_; clear F fa; intro fa F
        obtain ⟨xb17, xo17, xa17, xr17⟩ := HS.out i (by omega)
        refine F.vl (R_ixSlice (sz := 1) rfl ((F.at rfl).trans (xa17 _ _)) (F.at rfl) Try.underlying22 (by kernel_rfl) (by omega) (by omega)) ?_; clear F fa; intro fa F
        refine F.vl (R_load rfl (F.at rfl) Try.underlying25 rfl (xr17 _ EX 0 _ rfl)) ?_; clear F fa; intro fa F
        have hflt := Lib.hid (fam_lt fam)
        obtain ⟨B1, hB1⟩ : ∃ B1, B1 = w4.heap.size := ⟨_, rfl⟩
        rw [← hB1] at hflt
        have hB1w : w.heap.size ≤ B1 := by rw [hB1]; exact E.size
        have hxl : (O.getD i (.bool true, [])).2.length ≤ 1000 := by have h := congrArg (fun l => (l.getD i []).length) hO; simp only [getD_key (fun p : Value × List Int => p.2) (.bool true, []) O (show i < O.length by omega)] at h; rw [h, tupL_mem n k _ (getD_mem [] (by rw [← hO, List.length_map]; omega))]; omega
        refine sq_call F rfl (by decide) rfl (R_callV rfl rfl Try.call19 (mpS (F.at rfl) mp0)) (copyInts_any (fam_row fam hmm) hxl) fun e w5 hR => ?_
        obtain ⟨ca, cc, rfl, ro, eX⟩ := hR
        refine ⟨_, rfl, ?_⟩; clear F fa; intro fa F
        replace oo := owns_ext oo (eX) (by simp)
        replace fam := fam_lift fam fun _ _ _ h => owns_ext h (eX) (by simp)
        replace lo := owns_ext lo (eX) (by simp)
        replace E := ext_same E (eX)
        rw [← hB1] at ro
        have hB1E := eX.size
        rw [← hB1] at hB1E
        clear eX
        have EB : Ext [] w5 w5 := Ext.refl _ _
        refine F.mv ?_; clear F fa; intro fa F
        refine sq_new F rfl (by decide) rfl (R_buildSliceV rfl (prS (F.at rfl) pr0) Try.underlying25 (size := 1) (by kernel_rfl) (by decide) (by decide) Try.zeroValue3 (cells := #[.int .i64 ((x : Nat) : Int)]) (by kernel_rfl)) ?_; clear F fa; intro fa w6 F hw
        obtain ⟨n32, hn⟩ : ∃ n, n = w5.heap.size := ⟨_, rfl⟩
        rw [← hn] at F
        have s32 : w5.heap.size ≤ n32 := Nat.le_of_eq hn.symm
        have l32_E : w.heap.size ≤ n32 := by rw [hn]; exact E.size
        have l32_EB : w5.heap.size ≤ n32 := by rw [hn]; exact EB.size
        have o32_oo := Lib.hid (own_ne_new oo hn)
        have o32_lo := Lib.hid (own_ne_new lo hn)
        have o32_ro := Lib.hid (own_ne_new ro hn)
        replace oo := owns_alloc hw oo
        replace fam := fam_lift fam fun _ _ _ h => owns_alloc hw h
        replace lo := owns_alloc hw lo
        replace ro := owns_alloc hw ro
        replace E := ext_alloc E hw
        replace EB := ext_alloc EB hw
        have q32 := new_block hw hn
        clear hw hn
        have hEb := EB.size
        clear EB
        refine sq_some F rfl (by decide) rfl (append_run rfl (B1) (e := 3) (size := 1) (bytes := 8) Try.underlying25 (by kernel_rfl) (by decide) (F.at rfl) ro (F.at rfl) q32 rfl (by simp [Value.oneCell']) (by omega) (by omega) (by omega)) ?_; clear F fa; rintro fa v' w7 F ⟨hown', hg⟩
        obtain ⟨va33, vc33, rfl⟩ := owns_slice hown'
        replace oo := owns_other oo ro hg (by decide)
        replace fam := fam_below fam hflt.out ro hg
        replace lo := owns_other lo ro hg (by decide)
        replace E := ext_appendX E ro hg (by omega)
        replace ro := hown'
        clear hg
        obtain ⟨R, hRe⟩ : ∃ R, R = (O.getD i (.bool true, [])).2 ++ [((x : Nat) : Int)] := ⟨_, rfl⟩
        have hRl : (O.getD i (.bool true, [])).2.length + 1 = R.length := by rw [hRe, List.length_append]; rfl
        rw [ivs_snoc1, ← hRe, hRl] at ro
        rw [hRl] at F
        have fam2 := fam_perm (fam_join (b1 := B1) (L := [(Value.slice va33 R.length vc33, R)]) ⟨fun p hp => (by obtain rfl : p = (Value.slice va33 R.length vc33, R) := (by simpa using hp); exact ro), List.pairwise_singleton _ _⟩ fam hflt.out hB1w) (M := (O ++ Q) ++ [(Value.slice va33 R.length vc33, R)]) List.perm_append_comm
        rw [List.append_assoc] at fam2
        clear fam ro
        have fam := fam2
        clear fam2
        refine sq_new F rfl (by decide) rfl (R_buildSliceV rfl (prS (F.at rfl) pr0) Try.underlying22 (size := 1) (by kernel_rfl) (by decide) (by decide) Try.zeroValue25 (cells := #[.slice va33 R.length vc33]) (by kernel_rfl)) ?_; clear F fa; intro fa w8 F hw
        obtain ⟨n34, hn⟩ : ∃ n, n = w7.heap.size := ⟨_, rfl⟩
        rw [← hn] at F
        have s34 : w7.heap.size ≤ n34 := Nat.le_of_eq hn.symm
        have l34_E : w.heap.size ≤ n34 := by rw [hn]; exact E.size
        have o34_oo := Lib.hid (own_ne_new oo hn)
        have o34_lo := Lib.hid (own_ne_new lo hn)
        replace oo := owns_alloc hw oo
        replace fam := fam_lift fam fun _ _ _ h => owns_alloc hw h
        replace lo := owns_alloc hw lo
        replace E := ext_alloc E hw
        have q34 := new_block hw hn
        clear hw hn
        have hEs2 := E.size
        refine sq_some F rfl (by decide) rfl (append_runB rfl (w.heap.size) (e := 25) (size := 1) (bytes := 24) Try.underlying22 (by kernel_rfl) (by decide) (F.at rfl) lo (F.at rfl) q34 rfl (by simp [Value.oneCell']) (by omega) (by omega) (by omega)) ?_; clear F fa; rintro fa v' w9 F ⟨hown', ⟨hg, hblk⟩⟩
        obtain ⟨va35, vc35, rfl⟩ := owns_slice hown'
        have hap2 := own_apart2 hap.out oo hblk
        replace oo := oo.kept hg hap.out
        replace fam := fam_lift fam fun _ _ _ h => owns_other h lo hg (by decide)
        replace E := ext_appendX E lo hg (by omega)
        replace lo := hown'
        clear hg
        obtain ⟨P2, hP2e⟩ : ∃ P2, P2 = Q ++ [(Value.slice va33 R.length vc33, R)] := ⟨_, rfl⟩
        have hPl3 : Q.length + 1 = P2.length := by rw [hP2e, List.length_append]; rfl
        have hQ3 : P2.map (·.2) = P.map (·.2) ++ (List.range (x + 1)).map (fun (y : Nat) => (O.getD i (.bool true, [])).2 ++ [(y : Int)]) := by rw [hP2e, List.map_append, hQ, List.range_succ, List.map_append, List.append_assoc, hRe]; rfl
        rw [show Q.map (·.1) ++ [Value.slice va33 R.length vc33] = P2.map (·.1) by rw [hP2e, List.map_append]; rfl, hPl3] at lo
        rw [hPl3] at F hap2
        rw [← hP2e] at fam
        clear hap hblk
        have hap := Lib.hid hap2
        clear hap2
        refine F.as ?_; clear F fa; intro fa F
        refine wpList_nil ?_
        refine hK16 _ _ ?_
        clear hK16
        refine wp_region_lit ?_
        refine F.mv ?_; clear F fa; intro fa F
        refine F.vl (R_add rfl (F.at rfl) (ev_c fa _) (by omega) (by omega)) ?_; clear F fa; intro fa F
        refine F.as ?_; clear F fa; intro fa F
        refine wpList_nil ?_
        show _ ∧ _
        exact ⟨by omega, _, ⟨_, _, _, rfl, E, oo, lo, fam, hap, hQ3⟩, F.sub (.c 6 rfl (.c 8 rfl (.c 0 rfl (.c 1 rfl (.c 5 rfl (.c 7 rfl .n))))))⟩
      · skip
        refine wp_exit ?_
        obtain rfl : x = n := by omega
        have hP3 : Q.map (·.2) = tupF x ((O.map (·.2)).take (i + 1)) := by rw [take_snoc [] (by rw [List.length_map]; omega), getD_key (fun p : Value × List Int => p.2) (.bool true, []) O (by omega), hQ, hP]; simp [tupF]
        refine hK12 _ _ ?_
        clear hK12
        refine wp_region_lit ?_
        refine F.mv ?_; clear F fa; intro fa F
        refine F.vl (R_add rfl (F.at rfl) (ev_c fa _) (by omega) (by omega)) ?_; clear F fa; intro fa F
        refine F.as ?_; clear F fa; intro fa F
        refine wpList_nil ?_
        show _ ∧ _
        exact ⟨by omega, _, ⟨_, _, _, rfl, E, oo, lo, fam, hap, hP3⟩, F.sub (.c 6 rfl (.c 7 rfl (.c 0 rfl (.c 1 rfl (.c 5 rfl .n)))))⟩
    · skip
      refine wp_exit ?_
      have hO3 : P.map (·.2) = tupL n (k + 1) := by rw [hP, List.take_of_length_le (by rw [List.length_map]; omega), hO]; rfl
      replace fam := fam_right fam
      clear oo hap
      have oo := lo
      clear lo
      refine hK8 _ _ ?_
      clear hK8
      refine wp_region_lit ?_
      refine F.mv ?_; clear F fa; intro fa F
      refine F.as ?_; clear F fa; intro fa F
      refine wpList_nil ?_
      refine hK6 _ _ ?_
      clear hK6
      refine wp_region_lit ?_
      refine F.mv ?_; clear F fa; intro fa F
      refine F.vl (R_sub rfl (F.at rfl) (ev_c fa _) (by omega) (by omega)) ?_; clear F fa; intro fa F
      rw [show (((m - k : Nat) : Int) - 1) = ((m - (k + 1) : Nat) : Int) by omega] at F
      refine F.as ?_; clear F fa; intro fa F
      refine wpList_nil ?_
      show _ ∧ _
      exact ⟨by omega, _, ⟨_, _, _, rfl, E, oo, fam, hO3⟩, F.sub (.c 1 rfl (.c 5 rfl (.c 0 rfl .n)))⟩
  · skip
    refine wp_exit ?_
    obtain rfl : k = m := by omega
    refine hK3 _ _ ?_
    clear hK3
    refine wp_seq_k fun K18 hK18 => ?_
    refine wp_region_lit ?_
    refine F.mv ?_; clear F fa; intro fa F
    refine F.as ?_; clear F fa; intro fa F
    refine wpList_nil ?_
    refine hK18 _ _ ?_
    clear hK18
    refine wp_ret ?_
    (try simp only [Exit.inBlock, Exit.then, reduceIte])
    refine rt_v F (rs_1 F rfl rfl) ?_
    exact ⟨O, va, vc, rfl, hO, oo, fam, E⟩
end Go.Proofs.Ytdjeecgddbjbeaa
