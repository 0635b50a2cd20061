/- Recipes in memory: arrays of four numbers. No conditions. -/
import Derived.Test.YtdjeecgddbjbeaaDra
namespace Go.Proofs.Ytdjeecgddbjbeaa
open Go.RowKit
set_option linter.unusedVariables false
set_option linter.unusedSimpArgs false
/-- The cells of a recipe. -/
def tubC (f : Nat → Int) : Array Value := #[.int .i64 (f 0), .int .i64 (f 1), .int .i64 (f 2), .int .i64 (f 3)]
def upF (f : Nat → Int) (k : Nat) (v : Int) : Nat → Int := fun j => if j = k then v else f j
def zf : Nat → Int := fun _ => 0
theorem tub_ix {f : Nat → Int} {i : Int} {k : Nat} (h : i.toNat = k) (hk : k < 4) : (tubC f)[i.toNat]? = some (.int .i64 (f k)) := by
  subst h
  rcases hi : i.toNat with _ | _ | _ | _ | n
  · rfl
  · rfl
  · rfl
  · rfl
  · omega
theorem tub_at {w : World} {b : Nat} {T : TypeId} {fz : Nat × Nat} {f : Nat → Int} (H : w.heap[b]? = some (.cells (tubC f) T fz)) {i : Int} {k : Nat} (h : i.toNat = k) (hk : k < 4) : w.cell? ⟨b, 0 + i.toNat * 1, none⟩ = some (.int .i64 (f k)) := by
  rw [cells_of_block H, Nat.zero_add, Nat.mul_one]
  exact tub_ix h hk
theorem put_tub {w w2 : World} {b : Nat} {T : TypeId} {f : Nat → Int} {i v : Int} (e : w2 = w.setCell ⟨b, 0 + i.toNat * 1, none⟩ (.int .i64 v)) (H : w.heap[b]? = some (.cells (tubC f) T (0, 0))) {k : Nat} (h : i.toNat = k) (hk : k < 4) : w2.heap[b]? = some (.cells (tubC (upF f k v)) T (0, 0)) := by
  refine put_cell e H ?_
  rw [Nat.zero_add, Nat.mul_one, h]
  clear e H h
  match k, hk with
  | 0, _ => rfl
  | 1, _ => rfl
  | 2, _ => rfl
  | 3, _ => rfl
theorem tub_congr {f g : Nat → Int} (h : ∀ k, k < 4 → f k = g k) : tubC f = tubC g := by
  rw [tubC, tubC, h 0 (by omega), h 1 (by omega), h 2 (by omega), h 3 (by omega)]
def sumTo (f : Nat → Int) : Nat → Int
  | 0 => 0
  | n + 1 => sumTo f n + f n
theorem sumTo_congr {f g : Nat → Int} : ∀ {n : Nat}, (∀ k, k < n → f k = g k) → sumTo f n = sumTo g n
  | 0, _ => rfl
  | n + 1, h => by rw [sumTo, sumTo, sumTo_congr (n := n) (fun k hk => h k (by omega)), h n (by omega)]
theorem sumTo_bd {f : Nat → Int} {a b : Int} : ∀ {n : Nat}, (∀ k, k < n → a ≤ f k ∧ f k ≤ b) → a * n ≤ sumTo f n ∧ sumTo f n ≤ b * n
  | 0, _ => by simp [sumTo]
  | n + 1, h => by
    have h1 := sumTo_bd (n := n) (fun k hk => h k (by omega))
    have h2 := h n (by omega)
    rw [sumTo, show ((n + 1 : Nat) : Int) = (n : Int) + 1 from rfl, Int.mul_add, Int.mul_add]
    omega
theorem sumTo_list (l : List Int) : ∀ n : Nat, l.length ≤ n → sumTo (val l) n = l.sum := by
  have hk : ∀ n : Nat, n ≤ l.length → sumTo (val l) n = (l.take n).sum := by
    intro n
    induction n with
    | zero => intro _; simp [sumTo]
    | succ n ih => intro h; rw [sumTo, ih (by omega), sum_take l (by omega)]; rfl
  intro n h
  induction n with
  | zero => rw [hk 0 (by omega)]; have : l = [] := List.length_eq_zero_iff.1 (by omega); subst this; rfl
  | succ n ih =>
    by_cases e : l.length = n + 1
    · rw [hk (n + 1) (by omega), List.take_of_length_le (by omega)]
    · rw [sumTo, ih (by omega)]
      simp [val, List.getElem?_eq_none (show l.length ≤ n by omega)]
/-- All parts of a recipe together. -/
def prt (f : Nat → Int) : Int := sumTo f 4
def TubOk (f : Nat → Int) : Prop := ∀ k, k < 4 → 0 ≤ f k ∧ f k ≤ 1000
set_option maxRecDepth 100000 in
theorem parts_any (f : Nat → Int) (hf : TubOk f) (w : World) : Calls Try.prog 61 #[.agg (tubC f)] w fun e w' => e = .returned (.int .i64 (prt f)) ∧ Ext [] w w' := by
  have E : Ext [] w w := Ext.refl _ _
  have HF := Lib.hid hf
  clear hf
  refine calls_has 15 Try.func61 rfl Try.ntmps61 (Nat.le_of_ble_eq_true rfl) ?_
  intro fa F
  refine wp_seq_k fun K1 hK1 => ?_
  refine wp_region_lit ?_
  refine sq_new F rfl (by decide) rfl (R_box rfl (F.at rfl)) ?_; clear F fa; intro fa w1 F hw
  obtain ⟨n1, hn⟩ : ∃ n, n = w.heap.size := ⟨_, rfl⟩
  rw [← hn] at F
  have s1 : w.heap.size ≤ n1 := Nat.le_of_eq hn.symm
  have l1_E : w.heap.size ≤ n1 := by rw [hn]; exact E.size
  replace E := ext_alloc E hw
  have q1 := new_row hw hn
  clear hw hn
  refine F.vl (R_assign rfl (ev_c fa _)) ?_; clear F fa; intro fa F
  refine wpList_nil ?_
  refine hK1 _ _ ?_
  clear hK1
  refine wp_seq_k fun K2 hK2 => ?_
  refine wp_region_lit ?_
  refine F.vl (R_assign rfl (ev_c fa _)) ?_; clear F fa; intro fa F
  rw [show (0 : Int) = sumTo f 0 from rfl] at F
  refine wpList_nil ?_
  refine hK2 _ _ ?_
  clear hK2
  refine wp_seq_k fun K3 hK3 => ?_
  refine wp_seq_k fun K4 hK4 => ?_
  refine wp_region_lit ?_
  refine F.vl (R_loadBlk rfl (F.at rfl) Try.underlying83 rfl (by kernel_rfl) q1) ?_; clear F fa; intro fa F
  refine F.vl (R_move rfl (ev_c fa _)) ?_; clear F fa; intro fa F
  rw [show (0 : Int) = ((0 : Nat) : Int) from rfl] at F
  refine wpList_nil ?_
  refine hK4 _ _ ?_
  clear hK4
  refine wp_block ?_
  have F0 := F.sub (.c 6 rfl .n)
  refine lp_for F0 (4) (fun i Lv W => Lv = [(3, .int .i64 (sumTo f i)), (7, .int .i64 ((i : Nat) : Int))] ∧ Ext [] w1 W ∧ 0 ≤ sumTo f i ∧ sumTo f i ≤ 1000 * (i : Int)) ⟨_, ⟨rfl, Ext.refl _ _, (by simp [sumTo]), (by simp [sumTo])⟩, F.sub (.c 3 rfl (.c 7 rfl (.c 6 rfl .n)))⟩ ?_
  clear F F0
  rintro i _ fa w2 hi1 ⟨rfl, EL1, hs0, hs1⟩ F
  have q1 := EL1.keep0 q1
  have E := E.nil EL1
  refine wp_seq_k fun K5 hK5 => ?_
  refine wp_region_lit ?_
  refine F.vl (R_lss rfl (F.at rfl) (ev_c fa _)) ?_; clear F fa; intro fa F
  refine wpList_nil ?_
  refine hK5 _ _ ?_
  clear hK5
  refine wp_seq_k fun K6 hK6 => ?_
  refine cd_if F rfl (fun hc8 => ?_) (fun hc8 => ?_)
  · skip
    refine wp_skip ?_
    refine hK6 _ _ ?_
    clear hK6
    refine wp_seq_k fun K7 hK7 => ?_
    refine wp_block ?_
    refine wp_seq_k fun K8 hK8 => ?_
    refine wp_region_lit ?_
    refine F.vl (R_index rfl (F.at rfl) (F.at rfl) Try.underlying83 (by kernel_rfl) Try.underlying3 rfl (by omega) (by omega) (tub_ix (k := i) rfl (by omega))) ?_; clear F fa; intro fa F
    refine F.as ?_; clear F fa; intro fa F
    refine wpList_nil ?_
    refine hK8 _ _ ?_
    clear hK8
    obtain ⟨hf0, hf1⟩ := HF.out i (by omega)
    refine wp_region_lit ?_
    refine F.mv ?_; clear F fa; intro fa F
    refine F.mv ?_; clear F fa; intro fa F
    refine F.vl (R_add rfl (F.at rfl) (F.at rfl) (by omega) (by omega)) ?_; clear F fa; intro fa F
    rw [show sumTo f i + f i = sumTo f (i + 1) from rfl] at F
    refine F.as ?_; clear F fa; intro fa F
    refine wpList_nil ?_
    refine hK7 _ _ ?_
    clear hK7
    refine wp_region_lit ?_
    refine F.vl (R_add rfl (F.at rfl) (ev_c fa _) (by omega) (by omega)) ?_; clear F fa; intro fa F
    refine F.mv ?_; clear F fa; intro fa F
    refine wpList_nil ?_
    show _ ∧ _
    exact ⟨by omega, _, ⟨rfl, EL1, (by rw [sumTo]; omega), (by rw [sumTo]; omega)⟩, F.sub (.c 3 rfl (.c 7 rfl (.c 6 rfl .n)))⟩
  · skip
    refine wp_exit ?_
    refine hK3 _ _ ?_
    clear hK3
    refine wp_seq_k fun K9 hK9 => ?_
    refine wp_region_lit ?_
    refine F.mv ?_; clear F fa; intro fa F
    refine F.as ?_; clear F fa; intro fa F
    refine wpList_nil ?_
    refine hK9 _ _ ?_
    clear hK9
    refine wp_ret ?_
    (try simp only [Exit.inBlock, Exit.then, reduceIte])
    refine rt_v F (rs_1 F rfl rfl) ?_
    have hi : i = 4 := (by omega)
    exact ⟨ret_int (by rw [hi, prt]), E⟩
end Go.Proofs.Ytdjeecgddbjbeaa
