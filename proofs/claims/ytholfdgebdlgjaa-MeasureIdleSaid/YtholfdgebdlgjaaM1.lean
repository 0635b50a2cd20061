/- Contracts of the small functions of package measure: checks of numbers, nodes of the differences. Conditions: numbers of singers, autumns and tailors lie within a million. -/
import Derived.Test.YtholfdgebdlgjaaMem
namespace Go.Proofs.Ytholfdgebdlgjaa
open Go.RowKit
/-- Whether a number is from lo to hi. -/
def inB (n lo hi : Int) : Bool := decide (lo ≤ n) && decide (n ≤ hi)
theorem inB_iff {n lo hi : Int} : inB n lo hi = true ↔ lo ≤ n ∧ n ≤ hi := by simp [inB]
theorem within_any (n lo hi : Int) (w : World) :
    Calls Try.prog 136 #[.int .i64 n, .int .i64 lo, .int .i64 hi] w fun e w' => e = .returned (.bool (inB n lo hi)) ∧ w = w' := by
  by_cases h1 : lo ≤ n
  · go_enter Try.func136, Try.ntmps136
    go_wp2
    all_goals (go_ret; exact ⟨ret_bool (by simp [inB]; omega), rfl⟩)
  · go_enter Try.func136, Try.ntmps136
    go_wp2
    all_goals (go_ret; exact ⟨ret_bool (by simp [inB]; omega), rfl⟩)
def numberE (n lo hi : Int) : Int := if inB n lo hi then 0 else 1
theorem number_any (n lo hi : Int) (w : World) :
    Calls Try.prog 83 #[.int .i64 n, .int .i64 lo, .int .i64 hi] w fun e w' => e = .returned (.int .i64 (numberE n lo hi)) ∧ w = w' := by
  cases h : inB n lo hi
  all_goals
    have H := Lib.hid h; clear h
    go_enter Try.func83, Try.ntmps83
    go_wp2_with (go_at_call 136; refine (within_any _ _ _ _).mono ?_; rintro e w' ⟨rfl, rfl⟩)
    all_goals (go_ret; exact ⟨ret_int (by simp_all [numberE, H.out]), rfl⟩)
def knownE (n many : Int) : Int := if inB n 0 (many - 1) then 0 else 3
theorem known_any (n many : Int) (w : World) (hm : -1000000 ≤ many) (hm2 : many ≤ 1000000) :
    Calls Try.prog 130 #[.int .i64 n, .int .i64 many] w fun e w' => e = .returned (.int .i64 (knownE n many)) ∧ w = w' := by
  cases h : inB n 0 (many - 1)
  all_goals
    have H := Lib.hid h; clear h
    go_enter Try.func130, Try.ntmps130
    go_wp2_with (go_at_call 136; refine (within_any _ _ _ _).mono ?_; rintro e w' ⟨rfl, rfl⟩)
    all_goals (go_ret; exact ⟨ret_int (by simp_all [knownE, H.out]), rfl⟩)
/-- The first error of some. -/
def firstE : List Int → Int
  | [] => 0
  | e :: r => if e ≠ 0 then e else firstE r
theorem firstE_drop (es : List Int) (k : Nat) (h : k < es.length) (h0 : es.getD k 0 = 0) : firstE (es.drop k) = firstE (es.drop (k+1)) := by
  rw [List.drop_eq_getElem_cons h]
  simp [List.getD_eq_getElem?_getD, h] at h0
  simp [firstE, h0]
theorem firstE_hit (es : List Int) (k : Nat) (h : k < es.length) (h0 : es.getD k 0 ≠ 0) : firstE (es.drop k) = es.getD k 0 := by
  rw [List.drop_eq_getElem_cons h]
  simp [List.getD_eq_getElem?_getD, h] at h0
  simp [firstE, h0, h]
theorem first_any (es : List Int) (b : Nat) (w : World) (hl : es.length ≤ 100) (hpos : 0 < es.length)
    (hc : ∀ k, k < es.length → w.cell? ⟨b, k, none⟩ = some (.int .i64 (es.getD k 0))) :
    Calls Try.prog 82 #[.slice (some ⟨b, 0, none⟩) es.length es.length] w fun e w' => e = .returned (.int .i64 (firstE es)) ∧ w = w' := by
  obtain ⟨n, hn⟩ : ∃ n, n = es.length := ⟨_, rfl⟩
  rw [← hn] at hl hc hpos ⊢
  have HN := Lib.hid hn; clear hn
  have HC := Lib.hid hc; clear hc
  go_enter Try.func82, Try.ntmps82
  go_wp2
  go_loop [7] (fun i => ∃ k : Nat, k ≤ n ∧ i = .int .i64 k ∧ firstE (es.drop k) = firstE es) (fun i => n - (intOf i).toNat)
  case atStart => exact ⟨0, Nat.zero_le _, rfl, rfl⟩
  case round =>
    obtain ⟨k, hk, rfl, hf⟩ := hrel
    have HF := Lib.hid hf; clear hf
    by_cases hlt : k < n
    · have hc := HC.out k hlt
      by_cases h0 : es.getD k 0 = 0
      · have H0 := Lib.hid h0
        rw [h0] at hc
        clear h0
        go_wp2
        go_round
        case rel => exact ⟨k + 1, by omega, by go_num, by rw [← HF.out, firstE_drop es k (by have := HN.out; omega) H0.out]⟩
        case measure => simp [intOf]; omega
      · have H1 := firstE_hit es k (by have := HN.out; omega) h0
        obtain ⟨v, hv⟩ : ∃ v, v = es.getD k 0 := ⟨_, rfl⟩
        rw [← hv] at hc h0 H1
        have HV := Lib.hid hv; clear hv
        have H2 := Lib.hid H1; clear H1
        have hb : (v != 0) = true := by simpa using h0
        go_wp2
        go_ret
        exact ⟨ret_int (by rw [← HF.out, H2.out]), rfl⟩
    · go_wp2
      go_ret
      exact ⟨ret_int (by rw [← HF.out, List.drop_of_length_le (by have := HN.out; omega)]; simp [firstE]), rfl⟩
theorem first_lit (es : List Int) (n : Nat) (T : TypeId) (b : Nat) (w : World) (hn : n = es.length) (hl : es.length ≤ 100) (hpos : 0 < es.length)
    (hb : w.heap[b]? = some (.cells (es.map (Value.int .i64)).toArray T (0, 0))) :
    Calls Try.prog 82 #[.slice (some ⟨b, 0, none⟩) n n] w fun e w' => e = .returned (.int .i64 (firstE es)) ∧ w = w' := by
  subst hn
  refine first_any es b w hl hpos fun k hk => ?_
  rw [cells_of_block hb]
  simp [hk, List.getD_eq_getElem?_getD]
def spanE (l m lo hi : Int) : Int := firstE [numberE l lo hi, numberE m lo hi, if m < l then 5 else 0]
set_option maxHeartbeats 1000000 in
theorem span_any (l m lo hi : Int) (w : World) :
    Calls Try.prog 84 #[.agg #[.int .i64 l, .int .i64 m], .int .i64 lo, .int .i64 hi] w fun e w' => e = .returned (.int .i64 (spanE l m lo hi)) ∧ Below w.heap.size w w' := by
  obtain ⟨x, hx⟩ : ∃ x : Int, (if m < l then 5 else 0) = x := ⟨_, rfl⟩
  have HE : Hid (spanE l m lo hi = firstE [numberE l lo hi, numberE m lo hi, x]) := by show _ = _; rw [spanE, hx]
  by_cases hml : m < l
  all_goals
    simp only [hml, if_true, if_false] at hx
    subst hx
    go_enter Try.func84, Try.ntmps84
    go_wp2
    go_region_held3 (fun w' => w'.cell? ⟨w.heap.size, 0, none⟩ = some (.int .i64 l) ∧ w'.cell? ⟨w.heap.size, 1, none⟩ = some (.int .i64 m)) (go_keep) (first | (go_at_call 83; refine (number_any _ _ _ _).mono ?_; rintro e w' ⟨rfl, rfl⟩) | (go_at_call 82; refine (first_lit [numberE l lo hi, numberE m lo hi, _] _ 37 _ _ rfl (by simp) (by simp) (blk_drew (blk_new (by simp)))).mono ?_; rintro e w' ⟨rfl, rfl⟩))
    go_wp2
    go_ret
    refine ⟨ret_int HE.out.symm, ?_⟩
    repeat (first | exact Below.refl _ _ | assumption | (refine Below.drew ?_) | (refine Below.alloc ?_ (by first | exact Nat.le_refl _ | (simp; done) | (simp; omega)) _) | (refine Below.setCell ?_ (by first | exact Nat.le_refl _ | (simp; done) | (simp; omega)) _))
end Go.Proofs.Ytholfdgebdlgjaa
