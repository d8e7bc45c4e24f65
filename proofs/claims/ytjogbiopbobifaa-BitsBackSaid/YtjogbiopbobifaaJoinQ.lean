/- What Ldexp's own operations come to. No Go program in sight. -/
import Derived.Test.YtjogbiopbobifaaJoinP
import Derived.Laws.FloatArith
namespace Go.Proofs.Ytjogbiopbobifaa.Flt
open Ieee Go.RowKit

theorem word_false (f : Format) (r : Nat) : f.word false r = r := rfl
theorem read_rung (r : Nat) (h : r < double.infRung) : double.read r = .number false (mg double r) (double.leastPlace + (ex double r : Nat)) := by
  have hs : r < double.signWeight := Nat.lt_trans h ok_double.2.2
  rw [read_eq double ok_double, Nat.mod_eq_of_lt hs, if_pos h, Nat.div_eq_of_lt hs]; rfl
theorem mul_one (r : Nat) (h : r < double.infRung) : floatBits .mul .f64 4607182418800017408 r = some r := by
  show ((double.read 4607182418800017408).product (double.read r)).map double.write = some r
  have e : double.read 4607182418800017408 = .number false (2 ^ 52) (-52) := by decide
  rw [e, read_rung r h]
  show some (double.nearest false (2 ^ 52 * mg double r) (-52 + (double.leastPlace + (ex double r : Nat)))) = some r
  rw [Nat.mul_comm, nearest_shift, show -52 + (double.leastPlace + ((ex double r : Nat) : Int)) + ((52 : Nat) : Int) = double.leastPlace + (ex double r : Nat) by omega, nearest_rung double false r h]; rfl
theorem mul_least (r : Nat) (h : r < double.infRung) : floatBits .mul .f64 4368491638549381120 r = some (double.nearest false (mg double r) (double.leastPlace + (ex double r : Nat) - 53)) := by
  show ((double.read 4368491638549381120).product (double.read r)).map double.write = _
  have e : double.read 4368491638549381120 = .number false (2 ^ 52) (-105) := by decide
  rw [e, read_rung r h]
  show some (double.nearest false (2 ^ 52 * mg double r) (-105 + (double.leastPlace + (ex double r : Nat)))) = _
  rw [Nat.mul_comm, nearest_shift]
  congr 2; omega

theorem u64_abs (F : Nat) (h : F < 9223372036854775808) : bits .andNot .u64 (F : Int) 9223372036854775808 = (F : Int) := by
  have := u64_andNot_nat F 9223372036854775808 (by omega) (by omega)
  rw [show ((9223372036854775808 : Nat) : Int) = 9223372036854775808 from rfl] at this
  rw [this, show 18446744073709551615 - 9223372036854775808 = 2 ^ 63 - 1 from rfl, Nat.and_two_pow_sub_one_eq_mod, Nat.mod_eq_of_lt (by omega)]
theorem u64_sign (F : Nat) (h : F < 9223372036854775808) : bits .and .u64 (F : Int) 9223372036854775808 = 0 := by
  have := u64_and_nat F 9223372036854775808 (by omega) (by omega)
  rw [show ((9223372036854775808 : Nat) : Int) = 9223372036854775808 from rfl] at this
  rw [this, show (9223372036854775808 : Nat) = 2 ^ 63 from rfl, nat_bit, Nat.div_eq_of_lt h]; rfl
theorem u64_frac (F : Nat) (h : F < 9223372036854775808) : bits .andNot .u64 (F : Int) 9218868437227405312 = ((F % 4503599627370496 : Nat) : Int) := by
  have := u64_andNot_nat F 9218868437227405312 (by omega) (by omega)
  rw [show ((9218868437227405312 : Nat) : Int) = 9218868437227405312 from rfl] at this
  rw [this, show 18446744073709551615 - 9218868437227405312 = 2 ^ 63 ||| (2 ^ 52 - 1) from by decide, Nat.and_or_distrib_left, Nat.and_two_pow_sub_one_eq_mod, nat_bit, Nat.div_eq_of_lt h]
  simp
/-- the field laid over the fraction -/
theorem u64_field (F : Nat) (k : Int) (h : F < 9223372036854775808) (h0 : 0 ≤ k) (h1 : k < 2048) : (bits .or .u64 (bits .andNot .u64 (F : Int) 9218868437227405312) (k * 4503599627370496)).toNat = k.toNat * 4503599627370496 + F % 4503599627370496 := by
  rw [u64_frac F h]
  obtain ⟨n, rfl⟩ := Int.eq_ofNat_of_zero_le h0
  have e : (n : Int) * 4503599627370496 = ((n * 4503599627370496 : Nat) : Int) := by omega
  rw [e, u64_or_nat _ _ (by omega) (by omega), Int.toNat_natCast, Int.toNat_natCast, Nat.or_comm, nat_join 52 _ _ (by rw [show (2 : Nat) ^ 52 = 4503599627370496 from rfl]; omega) (by rw [show (2 : Nat) ^ 52 = 4503599627370496 from rfl]; omega)]
theorem fe_eq (F : Nat) (h : F < 9223372036854775808) : bits .and .i64 (wrap64 ((F : Int) / 4503599627370496)) 2047 = ((F / 4503599627370496 : Nat) : Int) := by
  have e : wrap64 ((F : Int) / 4503599627370496) = ((F / 4503599627370496 : Nat) : Int) := by unfold wrap64; omega
  rw [e, i64_and_mask _ 11 (by omega) 2047 (by decide)]
  omega

/-- the order of two words that bear no sign -/
theorem order_pos (x y : Nat) (hx : x ≤ 9218868437227405312) (hy : y ≤ 9218868437227405312) : double.order x y = some (compare (x : Int) (y : Int)) := by
  have n : ∀ z : Nat, z ≤ 9218868437227405312 → isNaN double z = false ∧ srung double z = z := by
    intro z hz
    unfold isNaN srung
    rw [dfields.1, dfields.2.1, Nat.mod_eq_of_lt (by omega), Nat.div_eq_of_lt (by omega)]
    exact ⟨decide_eq_false (by omega), rfl⟩
  rw [order_eq double ok_double, (n x hx).1, (n y hy).1, (n x hx).2, (n y hy).2]; rfl
theorem order_facts (F : Nat) (h0 : 4607182418800017408 ≤ F) (h1 : F ≤ 4890909195324358656) :
    (double.order F 9218868437227405311 == some .gt) = false ∧ (double.order F 4503599627370496 == some .lt) = false ∧ (double.order F 0 == some .eq) = false ∧ (double.order F F != some .eq) = false ∧ (double.order F 0 == some .lt) = false := by
  rw [order_pos F _ (by omega) (by omega), order_pos F _ (by omega) (by omega), order_pos F _ (by omega) (by omega), order_pos F F (by omega) (by omega)]
  rw [compare_int, compare_int, compare_int, compare_int]
  refine ⟨?_, ?_, ?_, ?_, ?_⟩
  · rw [if_pos (by omega)]; rfl
  · rw [if_neg (by omega)]; split <;> rfl
  · rw [if_neg (by omega), if_neg (by omega)]; rfl
  · rw [if_neg (by omega), if_pos rfl]; rfl
  · rw [if_neg (by omega), if_neg (by omega)]; rfl
end Go.Proofs.Ytjogbiopbobifaa.Flt
