/- Zigzag numbers: plain laws. -/
import Derived.Test.YthadbaknlipacaaPlain
import Derived.Laws.DeepNot64
import Derived.RowKit
namespace Go.Proofs.Ythadbaknlipacaa
open Go.RowKit
namespace P4
def zz (m : Int) : Nat := if m < 0 then (2 * -(m + 1) + 1).toNat else (2 * m).toNat
def unzz (n : Nat) : Int := if n % 2 = 1 then -1 - ((n / 2 : Nat) : Int) else ((n / 2 : Nat) : Int)
theorem zz_lt (m : Int) (h1 : -9223372036854775808 ≤ m) (h2 : m ≤ 9223372036854775807) : zz m < 18446744073709551616 := by unfold zz; split <;> omega
theorem unzz_zz (m : Int) : unzz (zz m) = m := by unfold unzz zz; split <;> split <;> omega
theorem zz_unzz (n : Nat) : zz (unzz n) = n := by unfold unzz zz; split <;> split <;> omega
theorem xor_ones (a : Nat) (h : a < 18446744073709551616) : a ^^^ 18446744073709551615 = 18446744073709551615 - a := by
  have h1 : a ^^^ (18446744073709551615 - a) = 18446744073709551615 := by
    apply Nat.eq_of_testBit_eq
    intro i
    have e : (18446744073709551615 - a).testBit i = (decide (i < 64) && !a.testBit i) := by
      have := Nat.testBit_two_pow_sub_succ (x := a) (n := 64) (by omega) i
      rw [show 2 ^ 64 - (a + 1) = 18446744073709551615 - a from by omega] at this
      exact this
    rw [Nat.testBit_xor, e]
    have e2 : (18446744073709551615 : Nat).testBit i = decide (i < 64) := Nat.testBit_two_pow_sub_one 64 i
    rw [e2]
    by_cases hi : i < 64
    · simp [hi]
    · have : a.testBit i = false := Nat.testBit_lt_two_pow (Nat.lt_of_lt_of_le h (by exact Nat.pow_le_pow_right (n := 2) (by decide) (show 64 ≤ i by omega)))
      simp [hi, this]
  have h2 : a ^^^ (a ^^^ (18446744073709551615 - a)) = a ^^^ 18446744073709551615 := by rw [h1]
  rw [← Nat.xor_assoc, Nat.xor_self, Nat.zero_xor] at h2
  exact h2.symm
theorem zig (m : Int) (h1 : -9223372036854775808 ≤ m) (h2 : m ≤ 9223372036854775807) :
    bits .xor .u64 (IntKind.u64.wrap (IntKind.u64.wrap m * 2)) (IntKind.u64.wrap (m / 9223372036854775808)) = ((zz m : Nat) : Int) := by
  rw [IntKind.wrap_u64, IntKind.wrap_u64, IntKind.wrap_u64]
  by_cases hm : m < 0
  · have e1 : m % 18446744073709551616 * 2 % 18446744073709551616 = ((2 * m + 18446744073709551616).toNat : Int) := by omega
    have e2 : m / 9223372036854775808 % 18446744073709551616 = ((18446744073709551615 : Nat) : Int) := by omega
    rw [e1, e2, u64_xor_nat _ _ (by omega) (by omega), xor_ones _ (by omega)]
    unfold zz; rw [if_pos hm]; omega
  · have e1 : m % 18446744073709551616 * 2 % 18446744073709551616 = ((2 * m).toNat : Int) := by omega
    have e2 : m / 9223372036854775808 % 18446744073709551616 = ((0 : Nat) : Int) := by omega
    rw [e1, e2, u64_xor_nat _ _ (by omega) (by omega), Nat.xor_zero]
    unfold zz; rw [if_neg hm]
theorem xor_comm (k : IntKind) (x y : Int) : bits .xor k x y = bits .xor k y x := by
  unfold bits
  simp [BitVec.xor_comm]
theorem xor_zero (a : Nat) (h : a < 9223372036854775808) : bits .xor .i64 ((a : Nat) : Int) (-((0 : Nat) : Int)) = (a : Int) := by
  unfold bits
  have e : BitVec.ofInt IntKind.i64.bits (-((0 : Nat) : Int)) = 0 := by decide
  have e2 : (BitVec.ofInt IntKind.i64.bits ((a : Nat) : Int)).toNat = a := ofInt_u64 a (by omega)
  simp only [e]
  rw [show (BitVec.ofInt IntKind.i64.bits ((a : Nat) : Int) ^^^ 0) = BitVec.ofInt IntKind.i64.bits ((a : Nat) : Int) from BitVec.xor_zero, e2, IntKind.wrap_i64]
  omega
theorem zag (n : Nat) (h : n < 18446744073709551616) :
    bits .xor .i64 (wrap64 ((n : Int) / 2)) (wrap64 (-wrap64 (bits .and .u64 (n : Int) 1))) = unzz n := by
  have e0 : bits .and .u64 (n : Int) 1 = ((n % 2 : Nat) : Int) := by
    rw [show (1 : Int) = ((1 : Nat) : Int) from rfl, u64_and_nat _ _ h (by omega), nat_mask1]
  rw [e0, IntWalk.wrap64_in ((n : Int) / 2) ⟨by omega, by omega⟩, IntWalk.wrap64_in (((n % 2 : Nat) : Int)) ⟨by omega, by omega⟩, IntWalk.wrap64_in _ ⟨by omega, by omega⟩]
  unfold unzz
  rcases Nat.mod_two_eq_zero_or_one n with hn | hn
  · rw [hn, if_neg (by omega)]
    exact xor_zero (n / 2) (by omega)
  · rw [hn, if_pos rfl, xor_comm]
    exact i64_not (n / 2) (by omega)
end P4
end Go.Proofs.Ythadbaknlipacaa
