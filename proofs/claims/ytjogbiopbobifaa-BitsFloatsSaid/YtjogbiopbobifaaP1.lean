/- Go's '&', '|', '^', '&^' of int at the masks and signs of floats, as arithmetic. -/
import Derived.Laws.BitsAllLaws
import Derived.Laws.BitsLemmas
import Derived.RowKit
namespace Go.Proofs.Ytjogbiopbobifaa.Flt
open Go.RowKit

theorem ofInt_toNat (x : Int) : (BitVec.ofInt 64 x).toNat = (x % 18446744073709551616).toNat := by
  rw [BitVec.toNat_ofInt]; rfl

theorem i64_and_mask (x : Int) (j : Nat) (hj : j ≤ 63) (m : Int) (hm : m = 2 ^ j - 1) : bits .and .i64 x m = x % 2 ^ j := by
  have hp : (2 : Int) ^ j ≤ 2 ^ 63 := by
    have : (2 : Nat) ^ j ≤ 2 ^ 63 := Nat.pow_le_pow_right (by omega) hj
    exact_mod_cast this
  have h1 : (0 : Int) < 2 ^ j := by
    have : 0 < (2 : Nat) ^ j := Nat.two_pow_pos _
    exact_mod_cast this
  have hN : ((2 ^ j : Nat) : Int) = (2 : Int) ^ j := by norm_cast
  show IntKind.i64.wrap ((BitVec.ofInt 64 x &&& BitVec.ofInt 64 m).toNat : Int) = _
  have hy : (BitVec.ofInt 64 m).toNat = 2 ^ j - 1 := by
    rw [ofInt_toNat]; omega
  rw [BitVec.toNat_and, hy, Nat.and_two_pow_sub_one_eq_mod, ofInt_toNat, IntKind.wrap_i64]
  have hd : (2 : Int) ^ j ∣ 18446744073709551616 := by
    have : (2 : Int) ^ 64 = 2 ^ j * 2 ^ (64 - j) := by rw [← Int.pow_add]; congr 1; omega
    exact ⟨2 ^ (64 - j), this⟩
  have e : (((x % 18446744073709551616).toNat % 2 ^ j : Nat) : Int) = x % 2 ^ j := by
    rw [Int.natCast_emod, hN, Int.toNat_of_nonneg (by omega), Int.emod_emod_of_dvd _ hd]
  rw [e]
  have := Int.emod_nonneg x (show (2 : Int) ^ j ≠ 0 by omega)
  have := Int.emod_lt_of_pos x h1
  omega

theorem nat_xor_bit_lo (i x : Nat) (h : x < 2 ^ i) : x ^^^ 2 ^ i = x + 2 ^ i := by
  apply Nat.eq_of_testBit_eq
  intro j
  rw [Nat.testBit_xor, Nat.testBit_two_pow, Nat.add_comm x]
  rcases Nat.lt_trichotomy j i with hj | hj | hj
  · rw [Nat.testBit_two_pow_add_gt hj]
    have : ¬ i = j := by omega
    simp [this]
  · subst hj
    rw [Nat.testBit_two_pow_add_eq]
    simp [Nat.testBit_lt_two_pow h]
  · have h1 : x < 2 ^ j := Nat.lt_trans h (Nat.pow_lt_pow_right (by omega) hj)
    have h2 : 2 ^ i + x < 2 ^ j := by
      have : 2 ^ (i + 1) ≤ 2 ^ j := Nat.pow_le_pow_right (by omega) hj
      rw [Nat.pow_succ] at this
      omega
    have : ¬ i = j := by omega
    rw [Nat.testBit_lt_two_pow h1, Nat.testBit_lt_two_pow h2]
    simp [this]
theorem nat_xor_bit_hi (i x : Nat) (h : x < 2 ^ i) : (x + 2 ^ i) ^^^ 2 ^ i = x := by
  rw [← nat_xor_bit_lo i x h, Nat.xor_assoc, Nat.xor_self, Nat.xor_zero]
theorem nat_xor_bit (i x : Nat) (h : x < 2 ^ (i + 1)) : x ^^^ 2 ^ i = if x < 2 ^ i then x + 2 ^ i else x - 2 ^ i := by
  split
  · exact nat_xor_bit_lo i x (by assumption)
  · have e := nat_xor_bit_hi i (x - 2 ^ i) (by rw [Nat.pow_succ] at h; omega)
    rw [show x - 2 ^ i + 2 ^ i = x by omega] at e
    exact e
theorem nat_and_bit (i x : Nat) (h : x < 2 ^ (i + 1)) : x &&& 2 ^ i = if x < 2 ^ i then 0 else 2 ^ i := by
  rw [nat_bit]
  split
  · rw [Nat.div_eq_of_lt (by assumption)]; simp
  · have : x / 2 ^ i = 1 := by
      rw [Nat.pow_succ] at h
      exact Nat.div_eq_of_lt_le (by omega) (by omega)
    rw [this]; simp
theorem bv_andNot (a b : BitVec 64) : a &&& ~~~b = a ^^^ (a &&& b) := by
  ext i h
  simp
  cases a[i] <;> cases b[i] <;> rfl

theorem i64_sign : (BitVec.ofInt 64 (-9223372036854775808)).toNat = 2 ^ 63 := by decide
theorem i64_sign32 : (BitVec.ofInt 64 2147483648).toNat = 2 ^ 31 := by decide
theorem i64_lt (x : Int) : (x % 18446744073709551616).toNat < 2 ^ (63 + 1) := by omega

section
variable (x : Int) (h0 : -9223372036854775808 ≤ x) (h1 : x < 9223372036854775808)
include h0 h1
theorem i64_and_sign : bits .and .i64 x (-9223372036854775808) = if x < 0 then -9223372036854775808 else 0 := by
  show IntKind.i64.wrap ((BitVec.ofInt 64 x &&& BitVec.ofInt 64 (-9223372036854775808)).toNat : Int) = _
  rw [BitVec.toNat_and, i64_sign, ofInt_toNat, nat_and_bit 63 _ (i64_lt x), IntKind.wrap_i64]
  split <;> split <;> omega
theorem i64_xor_sign : bits .xor .i64 x (-9223372036854775808) = if x < 0 then x + 9223372036854775808 else x - 9223372036854775808 := by
  show IntKind.i64.wrap ((BitVec.ofInt 64 x ^^^ BitVec.ofInt 64 (-9223372036854775808)).toNat : Int) = _
  rw [BitVec.toNat_xor, i64_sign, ofInt_toNat, nat_xor_bit 63 _ (i64_lt x), IntKind.wrap_i64]
  split <;> split <;> omega
theorem i64_andNot_sign : bits .andNot .i64 x (-9223372036854775808) = if x < 0 then x + 9223372036854775808 else x := by
  show IntKind.i64.wrap ((BitVec.ofInt 64 x &&& ~~~BitVec.ofInt 64 (-9223372036854775808)).toNat : Int) = _
  rw [bv_andNot, BitVec.toNat_xor, BitVec.toNat_and, i64_sign, ofInt_toNat, nat_and_bit 63 _ (i64_lt x)]
  by_cases h : (x % 18446744073709551616).toNat < 2 ^ 63
  · rw [if_pos h, Nat.xor_zero, IntKind.wrap_i64]; split <;> omega
  · rw [if_neg h, nat_xor_bit 63 _ (i64_lt x), if_neg h, IntKind.wrap_i64]; split <;> omega
end
section
variable (x : Int) (h0 : 0 ≤ x) (h1 : x < 4294967296)
include h0 h1
theorem i64_and_sign32 : bits .and .i64 x 2147483648 = if 2147483648 ≤ x then 2147483648 else 0 := by
  show IntKind.i64.wrap ((BitVec.ofInt 64 x &&& BitVec.ofInt 64 2147483648).toNat : Int) = _
  rw [BitVec.toNat_and, i64_sign32, ofInt_toNat, nat_and_bit 31 _ (by omega), IntKind.wrap_i64]
  split <;> split <;> omega
theorem i64_xor_sign32 : bits .xor .i64 x 2147483648 = if 2147483648 ≤ x then x - 2147483648 else x + 2147483648 := by
  show IntKind.i64.wrap ((BitVec.ofInt 64 x ^^^ BitVec.ofInt 64 2147483648).toNat : Int) = _
  rw [BitVec.toNat_xor, i64_sign32, ofInt_toNat, nat_xor_bit 31 _ (by omega), IntKind.wrap_i64]
  split <;> split <;> omega
theorem i64_andNot_sign32 : bits .andNot .i64 x 2147483648 = if 2147483648 ≤ x then x - 2147483648 else x := by
  show IntKind.i64.wrap ((BitVec.ofInt 64 x &&& ~~~BitVec.ofInt 64 2147483648).toNat : Int) = _
  rw [bv_andNot, BitVec.toNat_xor, BitVec.toNat_and, i64_sign32, ofInt_toNat, nat_and_bit 31 _ (by omega)]
  by_cases h : (x % 18446744073709551616).toNat < 2 ^ 31
  · rw [if_pos h, Nat.xor_zero, IntKind.wrap_i64]; split <;> omega
  · rw [if_neg h, nat_xor_bit 31 _ (by omega), if_neg h, IntKind.wrap_i64]; split <;> omega
end
/-- 'a | 1 << j' where a is below it -/
theorem i64_or_bit (x : Int) (j : Nat) (hj : j ≤ 62) (h0 : 0 ≤ x) (h1 : x < 2 ^ j) (m : Int) (hm : m = 2 ^ j) : bits .or .i64 x m = x + m := by
  have hp : (2 : Nat) ^ j ≤ 2 ^ 62 := Nat.pow_le_pow_right (by omega) hj
  have hN : ((2 ^ j : Nat) : Int) = (2 : Int) ^ j := by norm_cast
  show IntKind.i64.wrap ((BitVec.ofInt 64 x ||| BitVec.ofInt 64 m).toNat : Int) = _
  rw [BitVec.toNat_or, ofInt_toNat, ofInt_toNat]
  have e1 : (m % 18446744073709551616).toNat = 2 ^ j := by omega
  rw [e1, Nat.or_comm, nat_join j _ _ (Nat.mod_self _) (by omega), IntKind.wrap_i64]
  omega
end Go.Proofs.Ytjogbiopbobifaa.Flt
