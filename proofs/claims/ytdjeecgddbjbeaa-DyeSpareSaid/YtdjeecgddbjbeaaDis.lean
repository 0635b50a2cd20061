/- The library's insertion sort over numbers, with a closure. Conditions: few numbers. -/
import Derived.Test.YtdjeecgddbjbeaaDco
namespace Go.Proofs.Ytdjeecgddbjbeaa
open Go.RowKit
set_option linter.unusedVariables false
set_option linter.unusedSimpArgs false
section
variable (c : Int → Int → Int)
def swp (l : List Int) (j : Nat) : List Int := (l.set (j + 1) (l.getD j 0)).set j (l.getD (j + 1) 0)
/-- A number goes down to its place. -/
def bubL : List Int → Nat → List Int
  | l, 0 => l
  | l, j + 1 => if c (l.getD (j + 1) 0) (l.getD j 0) < 0 then bubL (swp l j) j else l
def srtK (l : List Int) : Nat → List Int
  | 0 => l
  | k + 1 => bubL c (srtK l k) (k + 1)
/-- The insertion sort. -/
def srtL (l : List Int) : List Int := srtK c l (l.length - 1)
theorem swp_len (l : List Int) (j : Nat) : (swp l j).length = l.length := by simp [swp]
theorem swp_mem {l : List Int} {j : Nat} (h : j + 1 < l.length) {p : Int → Prop} (hp : ∀ n ∈ l, p n) : ∀ n ∈ swp l j, p n := by
  intro n hn
  rcases List.mem_or_eq_of_mem_set hn with hn | rfl
  · rcases List.mem_or_eq_of_mem_set hn with hn | rfl
    · exact hp n hn
    · exact hp _ (getD_mem 0 (by omega))
  · exact hp _ (getD_mem 0 h)
theorem bub_len : ∀ (j : Nat) (l : List Int), (bubL c l j).length = l.length
  | 0, _ => rfl
  | j + 1, l => by
    rw [bubL]
    split
    · rw [bub_len j, swp_len]
    · rfl
theorem bub_mem {p : Int → Prop} : ∀ (j : Nat) (l : List Int), j < l.length → (∀ n ∈ l, p n) → ∀ n ∈ bubL c l j, p n
  | 0, _, _, h => h
  | j + 1, l, hj, h => by
    rw [bubL]
    split
    · exact bub_mem j _ (by rw [swp_len]; omega) (swp_mem hj h)
    · exact h
theorem srt_len (l : List Int) : ∀ k, (srtK c l k).length = l.length
  | 0 => rfl
  | k + 1 => by rw [srtK, bub_len, srt_len l k]
theorem srt_mem {p : Int → Prop} (l : List Int) (h : ∀ n ∈ l, p n) : ∀ k, k < l.length → ∀ n ∈ srtK c l k, p n
  | 0, _ => h
  | k + 1, hk => by rw [srtK]; exact bub_mem c _ _ (by rw [srt_len]; exact hk) (srt_mem l h k (by omega))
theorem bub_stop {l : List Int} {j : Nat} (h : ¬ c (l.getD (j + 1) 0) (l.getD j 0) < 0) : bubL c l (j + 1) = l := by rw [bubL, if_neg h]
theorem bub_go {l : List Int} {j : Nat} (h : c (l.getD (j + 1) 0) (l.getD j 0) < 0) : bubL c l (j + 1) = bubL c (swp l j) j := by rw [bubL, if_pos h]
end
set_option maxRecDepth 100000 in
set_option maxHeartbeats 2000000 in
theorem isort_any (f : FuncId) (cs : Array Value) (c : Int → Int → Int) (p : Int → Prop) (base r n : Nat) (a : Option Addr) (ca : Nat) (l : List Int) (w : World) (hn : l.length = n) (h1 : n ≤ 1000) (hp : ∀ m ∈ l, p m) (ho : w.ownsRow base 3 1 (.slice a n ca) n (ivs l)) (hr : ∀ b, (Value.slice a n ca).ownBlock = some b → b = r)
    (hf : ∀ args w, (callFunc f args).run Try.prog w = .ok (.enter f args) w) (hc : ∀ W, Ext [r] w W → ∀ m k, p m → p k → Calls Try.prog f (#[] ++ [Value.int .i64 m, Value.int .i64 k].toArray ++ cs) W fun e W' => e = .returned (.int .i64 (c m k)) ∧ Ext [] W W') :
    Calls Try.prog 120 #[.slice a n ca, .int .i64 0, .int .i64 ((n : Nat) : Int), .func (.func f) #[] cs] w fun e w' => e = .returned (.tuple #[]) ∧ w'.ownsRow base 3 1 (.slice a n ca) n (ivs (srtL c l)) ∧ Ext [r] w w' := by
  have E : Ext [r] w w := Ext.refl _ _
  have HC := Lib.hid hc
  have HF := Lib.hid hf
  have HP := Lib.hid hp
  have HR := Lib.hid hr
  replace ho : w.ownsRow base 3 1 (.slice a n ca) n (ivs (srtK c l 0)) := ho
  clear hc hf hp hr
  refine calls_has 53 Try.func120 rfl Try.ntmps120 (Nat.le_of_ble_eq_true rfl) ?_
  intro fa F
  refine wp_seq_k fun K1 hK1 => ?_
  refine wp_region_lit ?_
  refine F.mv ?_; clear F fa; intro fa F
  refine F.vl (R_add rfl (F.at rfl) (ev_c fa _) (by omega) (by omega)) ?_; clear F fa; intro fa F
  rw [show (0 : Int) + 1 = ((0 + 1 : Nat) : Int) from rfl] at F
  refine F.as ?_; clear F fa; intro fa F
  refine wpList_nil ?_
  refine hK1 _ _ ?_
  clear hK1
  refine wp_block ?_
  have F0 := F.sub (.c 0 rfl (.c 1 rfl (.c 2 rfl (.c 3 rfl .n))))
  refine lp_for F0 (n) (fun i Lv W => Lv = [(8, .int .i64 ((i + 1 : Nat) : Int))] ∧ Ext [r] w W ∧ W.ownsRow base 3 1 (.slice a n ca) n (ivs (srtK c l i)) ∧ (i < n ∨ (i = 0 ∧ n = 0))) ⟨_, ⟨rfl, E, ho, (by omega)⟩, F.sub (.c 8 rfl (.c 0 rfl (.c 1 rfl (.c 2 rfl (.c 3 rfl .n)))))⟩ ?_
  clear F F0
  clear E
  clear ho
  rintro i _ fa w1 hi1 ⟨rfl, E, ho, hin⟩ F
  refine wp_seq_k fun K2 hK2 => ?_
  refine wp_seq_k fun K3 hK3 => ?_
  refine wp_region_lit ?_
  refine F.mv ?_; clear F fa; intro fa F
  refine F.mv ?_; clear F fa; intro fa F
  refine F.vl (R_lss rfl (F.at rfl) (F.at rfl)) ?_; clear F fa; intro fa F
  refine wpList_nil ?_
  refine hK3 _ _ ?_
  clear hK3
  refine cd_if F rfl (fun hc14 => ?_) (fun hc14 => ?_)
  · skip
    refine wp_skip ?_
    refine hK2 _ _ ?_
    clear hK2
    refine wp_seq_k fun K4 hK4 => ?_
    refine wp_block ?_
    refine wp_seq_k fun K5 hK5 => ?_
    refine wp_region_lit ?_
    refine F.mv ?_; clear F fa; intro fa F
    refine F.as ?_; clear F fa; intro fa F
    refine wpList_nil ?_
    refine hK5 _ _ ?_
    clear hK5
    refine wp_block ?_
    have F0 := F.sub (.c 0 rfl (.c 1 rfl (.c 2 rfl (.c 3 rfl (.c 8 rfl .n)))))
    refine lp_for F0 (i + 1) (fun k Lv W => ∃ j : Nat, ∃ l2 : List Int, Lv = [(9, .int .i64 ((j : Nat) : Int))] ∧ Ext [r] w W ∧ W.ownsRow base 3 1 (.slice a n ca) n (ivs l2) ∧ j + k = i + 1 ∧ l2.length = n ∧ bubL c l2 j = srtK c l (i + 1) ∧ ∀ m ∈ l2, p m) ⟨_, ⟨_, _, rfl, E, ho, (by omega), (by rw [srt_len]; exact hn), rfl, (srt_mem c l HP.out i (by omega))⟩, F.sub (.c 9 rfl (.c 0 rfl (.c 1 rfl (.c 2 rfl (.c 3 rfl (.c 8 rfl .n))))))⟩ ?_
    clear F F0
    clear E
    clear ho
    rintro k _ fa w2 hi2 ⟨j, l2, rfl, E, ho, hjk, hl2, hb2, hm2⟩ F
    refine wp_seq_k fun K6 hK6 => ?_
    refine wp_seq_k fun K7 hK7 => ?_
    by_cases hj0 : j = 0
    · skip
      subst hj0
      refine wp_region_st 14 follows (by kernel_rfl) fun w3 hh eh => ?_
      replace E := ext_same E eh
      replace ho := owns_same hh ho
      clear hh eh
      refine F.smv ?_; clear F fa; intro fa F
      refine F.smv ?_; clear F fa; intro fa F
      refine F.sv (R_gtrB (b := false) rfl (F.at rfl) (F.at rfl) (decide_eq_false (by omega))) ?_; clear F fa; intro fa F
      refine F.smv ?_; clear F fa; intro fa F
      refine st_no F rfl (by decide) (wantF F rfl rfl (by decide) rfl (by decide)) ?_; clear F fa; intro fa F
      refine st_no F rfl (by decide) (wantF F rfl rfl (by decide) rfl (by decide)) ?_; clear F fa; intro fa F
      refine st_no F rfl (by decide) (wantF F rfl rfl (by decide) rfl (by decide)) ?_; clear F fa; intro fa F
      refine st_no F rfl (by decide) (wantF F rfl rfl (by decide) rfl (by decide)) ?_; clear F fa; intro fa F
      refine st_no F rfl (by decide) (wantF F rfl rfl (by decide) rfl (by decide)) ?_; clear F fa; intro fa F
      refine st_no F rfl (by decide) (wantF F rfl rfl (by decide) rfl (by decide)) ?_; clear F fa; intro fa F
      refine st_no F rfl (by decide) (wantF F rfl rfl (by decide) rfl (by decide)) ?_; clear F fa; intro fa F
      refine st_no F rfl (by decide) (wantF F rfl rfl (by decide) rfl (by decide)) ?_; clear F fa; intro fa F
      refine st_no F rfl (by decide) (wantF F rfl rfl (by decide) rfl (by decide)) ?_; clear F fa; intro fa F
      refine st_no F rfl (by decide) (wantF F rfl rfl (by decide) rfl (by decide)) ?_; clear F fa; intro fa F
      refine wpStill_nil ?_
      refine sq_no F rfl (by decide) (wantF F rfl rfl (by decide) rfl (by decide)) ?_; clear F fa; intro fa F
      refine sq_no F rfl (by decide) (wantF F rfl rfl (by decide) rfl (by decide)) ?_; clear F fa; intro fa F
      refine F.vl (R_pickF rfl (F.at rfl) (ev_c fa _)) ?_; clear F fa; intro fa F
      refine wpList_nil ?_
      rw [show l2 = srtK c l (i + 1) from hb2] at ho
      refine hK7 _ _ ?_
      clear hK7
      refine cd_F F rfl ?_
      refine wp_exit ?_
      refine hK4 _ _ ?_
      clear hK4
      refine wp_region_lit ?_
      refine F.mv ?_; clear F fa; intro fa F
      refine F.vl (R_add rfl (F.at rfl) (ev_c fa _) (by omega) (by omega)) ?_; clear F fa; intro fa F
      rw [show ((i + 1 : Nat) : Int) + 1 = ((i + 1 + 1 : Nat) : Int) from rfl] at F
      refine F.as ?_; clear F fa; intro fa F
      refine wpList_nil ?_
      show _ ∧ _
      exact ⟨by omega, _, ⟨rfl, E, ho, (by omega)⟩, F.sub (.c 8 rfl (.c 0 rfl (.c 1 rfl (.c 2 rfl (.c 3 rfl .n)))))⟩
    · skip
      obtain ⟨j, rfl⟩ : ∃ j', j = j' + 1 := ⟨j - 1, by omega⟩
      have EX : Ext [] w2 w2 := Ext.refl _ _
      have HS := Lib.hid (slAt_of_ivs ho hl2.symm [] (by simp))
      refine wp_region_st 14 follows (by kernel_rfl) fun w4 hh eh => ?_
      replace E := ext_same E eh
      replace EX := ext_same EX eh
      replace ho := owns_same hh ho
      clear hh eh
      refine F.smv ?_; clear F fa; intro fa F
      refine F.smv ?_; clear F fa; intro fa F
      refine F.sv (R_gtrB (b := true) rfl (F.at rfl) (F.at rfl) (decide_eq_true (by omega))) ?_; clear F fa; intro fa F
      refine F.smv ?_; clear F fa; intro fa F
      refine F.smv ?_ (hw := (wantT F rfl rfl (by decide) rfl)); clear F fa; intro fa F
      refine F.smv ?_ (hw := (wantT F rfl rfl (by decide) rfl)); clear F fa; intro fa F
      refine F.smv ?_ (hw := (wantT F rfl rfl (by decide) rfl)); clear F fa; intro fa F
      obtain ⟨xb8, xo8, xa8, xr8⟩ := HS.out (j + 1) (by omega)
      refine F.sv (R_ixSlice (sz := 1) rfl ((F.at rfl).trans (xa8 _ _)) (F.at rfl) Try.underlying25 (by kernel_rfl) (by omega) (by omega)) ?_ (hw := (wantT F rfl rfl (by decide) rfl)); clear F fa; intro fa F
      refine F.sv (R_load rfl (F.at rfl) Try.underlying3 rfl (xr8 _ EX 0 _ rfl)) ?_ (hw := (wantT F rfl rfl (by decide) rfl)); clear F fa; intro fa F
      refine F.smv ?_ (hw := (wantT F rfl rfl (by decide) rfl)); clear F fa; intro fa F
      refine F.smv ?_ (hw := (wantT F rfl rfl (by decide) rfl)); clear F fa; intro fa F
      refine F.sv (R_sub rfl (F.at rfl) (ev_c fa _) (by omega) (by omega)) ?_ (hw := (wantT F rfl rfl (by decide) rfl)); clear F fa; intro fa F
      rw [show ((j + 1 : Nat) : Int) - 1 = ((j : Nat) : Int) by omega] at F
      obtain ⟨xb9, xo9, xa9, xr9⟩ := HS.out j (by omega)
      refine F.sv (R_ixSlice (sz := 1) rfl ((F.at rfl).trans (xa9 _ _)) (F.at rfl) Try.underlying25 (by kernel_rfl) (by omega) (by omega)) ?_ (hw := (wantT F rfl rfl (by decide) rfl)); clear F fa; intro fa F
      refine F.sv (R_load rfl (F.at rfl) Try.underlying3 rfl (xr9 _ EX 0 _ rfl)) ?_ (hw := (wantT F rfl rfl (by decide) rfl)); clear F fa; intro fa F
      refine wpStill_nil ?_
      refine sq_call F rfl (by decide) (wantT F rfl rfl (by decide) rfl) (R_callF rfl (F.at rfl) HF.out (mpS (F.at rfl) (mpS (F.at rfl) mp0)) rfl) (HC.out _ E (l2.getD (j + 1) 0) (l2.getD j 0) (hm2 _ (getD_mem 0 (by omega))) (hm2 _ (getD_mem 0 (by omega)))) fun e w5 hR => ?_
      obtain ⟨rfl, e9⟩ := hR
      refine ⟨_, rfl, ?_⟩; clear F fa; intro fa F
      replace ho := owns_ext ho (e9) (by simp)
      replace E := ext_same E (e9)
      replace EX := ext_same EX (e9)
      clear e9
      refine F.vl (R_lss rfl (F.at rfl) (ev_c fa _)) ?_ (hw := (wantT F rfl rfl (by decide) rfl)); clear F fa; intro fa F
      refine F.vl (R_pickT rfl (F.at rfl) (F.at rfl)) ?_; clear F fa; intro fa F
      refine wpList_nil ?_
      refine hK7 _ _ ?_
      clear hK7
      refine cd_if F rfl (fun hc34 => ?_) (fun hc34 => ?_)
      · skip
        refine wp_skip ?_
        refine hK6 _ _ ?_
        clear hK6
        refine wp_seq_k fun K10 hK10 => ?_
        refine wp_block ?_
        have EX : Ext [] w5 w5 := Ext.refl _ _
        have HS := Lib.hid (slAt_of_ivs ho hl2.symm [] (by simp))
        have hil := ivs_lenZ l2
        refine region_x (Ext [] w5) (some 15) follows fun w6 hh eh => ?_
        have E_ := E
        have zEw6 := E.size
        replace E := ext_same E eh
        have EX_ := EX
        have zEXw6 := EX.size
        replace EX := ext_same EX eh
        replace ho := owns_same hh ho
        have eT := eh
        clear hh eh
        refine F.x (i := 0) rfl (fun w' => R_move rfl (F.at rfl)) (fun _ => eT) ?_; clear F fa; intro fa F
        refine F.x (i := 1) rfl (fun w' => R_move rfl (F.at rfl)) (fun _ => eT) ?_; clear F fa; intro fa F
        refine F.x (i := 2) rfl (fun w' => R_move rfl (F.at rfl)) (fun _ => eT) ?_; clear F fa; intro fa F
        refine F.x (i := 3) rfl (fun w' => R_move rfl (F.at rfl)) (fun _ => eT) ?_; clear F fa; intro fa F
        refine F.x (i := 4) rfl (fun w' => R_sub rfl (F.at rfl) (ev_c fa _) (by omega) (by omega)) (fun _ => eT) ?_; clear F fa; intro fa F
        rw [show ((j + 1 : Nat) : Int) - 1 = ((j : Nat) : Int) by omega] at F
        refine F.x (i := 5) rfl (fun w' => R_move rfl (F.at rfl)) (fun _ => eT) ?_; clear F fa; intro fa F
        refine F.x (i := 6) rfl (fun w' => R_move rfl (F.at rfl)) (fun _ => eT) ?_; clear F fa; intro fa F
        refine F.x (i := 7) rfl (fun w' => R_sub rfl (F.at rfl) (ev_c fa _) (by omega) (by omega)) (fun _ => eT) ?_; clear F fa; intro fa F
        rw [show ((j + 1 : Nat) : Int) - 1 = ((j : Nat) : Int) by omega] at F
        obtain ⟨xb11, xo11, xa11, xr11⟩ := HS.out j (by omega)
        refine F.x (i := 8) rfl (fun w' => R_ixSlice (sz := 1) rfl ((F.at rfl).trans (xa11 _ _)) (F.at rfl) Try.underlying25 (by kernel_rfl) (by omega) (by omega)) (fun _ => eT) ?_; clear F fa; intro fa F
        refine F.xr (i := 9) rfl (fun w' hS => R_load rfl (F.at rfl) Try.underlying3 rfl (xr11 _ (EX_.nil hS) 0 _ rfl)) (fun _ => eT) ?_; clear F fa; intro fa F
        refine F.x (i := 10) rfl (fun w' => R_move rfl (F.at rfl)) (fun _ => eT) ?_; clear F fa; intro fa F
        refine F.x (i := 11) rfl (fun w' => R_move rfl (F.at rfl)) (fun _ => eT) ?_; clear F fa; intro fa F
        obtain ⟨xb12, xo12, xa12, xr12⟩ := HS.out (j + 1) (by omega)
        refine F.x (i := 12) rfl (fun w' => R_ixSlice (sz := 1) rfl ((F.at rfl).trans (xa12 _ _)) (F.at rfl) Try.underlying25 (by kernel_rfl) (by omega) (by omega)) (fun _ => eT) ?_; clear F fa; intro fa F
        refine F.xr (i := 13) rfl (fun w' hS => R_load rfl (F.at rfl) Try.underlying3 rfl (xr12 _ (EX_.nil hS) 0 _ rfl)) (fun _ => eT) ?_; clear F fa; intro fa F
        obtain ⟨xb13, xo13, xa13, xr13⟩ := HS.out (j + 1) (by omega)
        refine F.x (i := 14) rfl (fun w' => R_ixSlice (sz := 1) rfl ((F.at rfl).trans (xa13 _ _)) (F.at rfl) Try.underlying25 (by kernel_rfl) (by omega) (by omega)) (fun _ => eT) ?_; clear F fa; intro fa F
        obtain ⟨⟨u0, hcu⟩, hfu, hst⟩ := owns_at ho xa13 (j := (j + 1)) (p := xo13 + ((j + 1 : Nat) : Int).toNat * 1) (by first | omega | (simp; omega)) (by omega)
        refine ax_only (i := 15) (by kernel_rfl) (op_to rfl rfl rfl (R_store rfl (F.at rfl) (F.at rfl) rfl (by kernel_rfl) hcu hfu) ?_); intro w7 hw
        obtain ⟨hown', hg⟩ := hst _ _ hw
        clear hst hcu hfu hw
        replace E := ext_grownX E hg (fun b hb hl => by rw [HR.out b hb]; simp)
        replace ho := hown'
        clear hg
        refine ⟨gone (by kernel_rfl), ?_⟩
        rw [ivs_setZ] at ho
        have hil2 := ivs_lenZ (l2.set (j + 1) (l2.getD j 0))
        rw [List.length_set] at hil2
        obtain ⟨xb14, xo14, xa14, xr14⟩ := HS.out j (by omega)
        refine F.x (i := 16) rfl (fun w' => R_ixSlice (sz := 1) rfl ((F.at rfl).trans (xa14 _ _)) (F.at rfl) Try.underlying25 (by kernel_rfl) (by omega) (by omega)) (gone (by kernel_rfl)) ?_; clear F fa; intro fa F
        obtain ⟨⟨u0, hcu⟩, hfu, hst⟩ := owns_at ho xa14 (j := j) (p := xo14 + ((j : Nat) : Int).toNat * 1) (by first | omega | (simp; omega)) (by omega)
        refine ax_only (i := 17) (by kernel_rfl) (op_to rfl rfl rfl (R_store rfl (F.at rfl) (F.at rfl) rfl (by kernel_rfl) hcu hfu) ?_); intro w8 hw
        obtain ⟨hown', hg⟩ := hst _ _ hw
        clear hst hcu hfu hw
        replace E := ext_grownX E hg (fun b hb hl => by rw [HR.out b hb]; simp)
        replace ho := hown'
        clear hg
        refine ⟨gone (by kernel_rfl), ?_⟩
        rw [ivs_setZ] at ho
        replace ho : w8.ownsRow base 3 1 (.slice a n ca) n (ivs (swp l2 j)) := ho
        refine ax_done (by kernel_rfl) ?_ _
        clear eT E_ EX_
        refine hK10 _ _ ?_
        clear hK10
        refine wp_region_lit ?_
        refine F.mv ?_; clear F fa; intro fa F
        refine F.vl (R_sub rfl (F.at rfl) (ev_c fa _) (by omega) (by omega)) ?_; clear F fa; intro fa F
        rw [show ((j + 1 : Nat) : Int) - 1 = ((j : Nat) : Int) by omega] at F
        refine F.as ?_; clear F fa; intro fa F
        refine wpList_nil ?_
        show _ ∧ _
        exact ⟨by omega, _, ⟨_, _, rfl, E, ho, (by omega), (by rw [swp_len]; exact hl2), ((bub_go c hc34).symm.trans hb2), (swp_mem (by omega) hm2)⟩, F.sub (.c 9 rfl (.c 0 rfl (.c 1 rfl (.c 2 rfl (.c 3 rfl (.c 8 rfl .n))))))⟩
      · skip
        rw [show l2 = srtK c l (i + 1) from (bub_stop c hc34).symm.trans hb2] at ho
        refine wp_exit ?_
        refine hK4 _ _ ?_
        clear hK4
        refine wp_region_lit ?_
        refine F.mv ?_; clear F fa; intro fa F
        refine F.vl (R_add rfl (F.at rfl) (ev_c fa _) (by omega) (by omega)) ?_; clear F fa; intro fa F
        rw [show ((i + 1 : Nat) : Int) + 1 = ((i + 1 + 1 : Nat) : Int) from rfl] at F
        refine F.as ?_; clear F fa; intro fa F
        refine wpList_nil ?_
        show _ ∧ _
        exact ⟨by omega, _, ⟨rfl, E, ho, (by omega)⟩, F.sub (.c 8 rfl (.c 0 rfl (.c 1 rfl (.c 2 rfl (.c 3 rfl .n)))))⟩
  · skip
    refine wp_exit ?_
    rw [show i = l.length - 1 by omega] at ho
    (try simp only [Exit.inBlock, Exit.then, reduceIte])
    refine rt_vn F (rs_0 rfl) ?_
    exact ⟨rfl, ho, E⟩
end Go.Proofs.Ytdjeecgddbjbeaa
