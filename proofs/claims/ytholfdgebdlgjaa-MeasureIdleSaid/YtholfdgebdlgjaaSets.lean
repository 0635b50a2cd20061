/- Contracts of the small methods of sets of readings. Conditions: the number is from 0 to 15, the set below 2^16. -/
import Derived.Test.YtholfdgebdlgjaaSx
namespace Go.Proofs.Ytholfdgebdlgjaa
open Go.RowKit
set_option linter.unusedVariables false
theorem wraps_u16 (n : Int) (h₀ : 0 ≤ n) (h₁ : n < 2 ^ 16) : IntKind.u16.wrap n = n := by
  simp only [IntKind.wrap, IntKind.bits, IntKind.signed]
  simp
  omega
theorem u16_and1 {x : Int} (h₀ : 0 ≤ x) (h₁ : x < 65536) : bits .and .u16 x 1 = x % 2 := bits_mask .u16 16 (by decide) wraps_u16 1 (by decide) x h₀ h₁
theorem pow_lt_16 : ∀ n : Nat, n < 16 → (2 : Int) ^ n ≤ 32768 := by decide
theorem pow_pos' (n : Nat) : (0 : Int) < 2 ^ n := Int.pow_pos (by decide)
theorem div_pow_bd {s : Int} (n : Nat) (h1 : 0 ≤ s) (h2 : s < 65536) : 0 ≤ s / 2 ^ n ∧ s / 2 ^ n < 65536 := by
  refine ⟨Int.ediv_nonneg h1 (Int.le_of_lt (pow_pos' n)), ?_⟩
  have := Int.ediv_le_self (b := 2 ^ n) h1
  omega
def hasB (s : Int) (n : Nat) : Bool := s / 2 ^ n % 2 == 1
theorem has_any (s n : Int) (w : World) (h1 : 0 ≤ s) (h2 : s < 65536) (h3 : 0 ≤ n) (h4 : n < 16) :
    Calls Try.prog 126 #[.int .u16 s, .int .i64 n] w fun e w' => e = .returned (.bool (hasB s n.toNat)) ∧ w = w' := by
  have hm : min n.toNat 16 = n.toNat := by omega
  have hd := div_pow_bd n.toNat h1 h2
  go_enter Try.func126, Try.ntmps126
  go_wp2
  go_ret
  exact ⟨ret_bool (by rw [u16_and1 hd.1 hd.2]; rfl), rfl⟩
theorem with_any (s n : Int) (w : World) (h1 : 0 ≤ s) (h2 : s < 65536) (h3 : 0 ≤ n) (h4 : n < 16) :
    Calls Try.prog 121 #[.int .u16 s, .int .i64 n] w fun e w' => e = .returned (.int .u16 ((s.toNat ||| 2 ^ n.toNat : Nat) : Int)) ∧ w = w' := by
  have hm : min n.toNat 16 = n.toNat := by omega
  have hp := pow_lt_16 n.toNat (by omega)
  have hq := pow_pos' n.toNat
  go_enter Try.func121, Try.ntmps121
  go_wp2
  go_ret
  refine ⟨ret_int ?_, rfl⟩
  obtain ⟨s, rfl⟩ := Int.eq_ofNat_of_zero_le h1
  have e : (2 : Int) ^ n.toNat = ((2 ^ n.toNat : Nat) : Int) := by simp
  rw [e] at hp ⊢
  rw [Int.toNat_natCast]
  exact (bits_nat .u16 16 (by decide) wraps_u16 s (2 ^ n.toNat) (by omega) (by omega)).2
theorem full_any (n : Int) (w : World) (h3 : 0 ≤ n) (h4 : n < 16) :
    Calls Try.prog 109 #[.int .i64 n] w fun e w' => e = .returned (.int .u16 (2 ^ n.toNat - 1)) ∧ w = w' := by
  have hm : min n.toNat 16 = n.toNat := by omega
  have hp := pow_lt_16 n.toNat (by omega)
  have hq := pow_pos' n.toNat
  go_enter Try.func109, Try.ntmps109
  go_wp2
  go_ret
  exact ⟨rfl, rfl⟩
end Go.Proofs.Ytholfdgebdlgjaa
