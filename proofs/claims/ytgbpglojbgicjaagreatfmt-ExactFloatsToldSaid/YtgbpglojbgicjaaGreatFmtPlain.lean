/- Go's '&', '|', '^', '&^' of int at the masks and signs of floats, as arithmetic. Plain facts on Ieee's formats: a word that is no NaN stands for its signed rung's place; the order of words is the order of signed rungs; a number that the format has is written as itself. No Go in sight. What chapter 1 says of patterns, as plain functions of ints: class, neighbours, sign, order; and how a pattern's place stands to the rungs of Ieee's words. No Go in sight. Rounding to the nearest word hangs on the number alone, not on how it is written; a number that the format has is written as itself. No Go in sight. A binary32 seen as a binary64: the same number; the order of two stays. No Go in sight. -/
import Derived.Laws.BitsAllLaws
import Derived.Laws.BitsLemmas
import Derived.RowKit
import Ieee.Arith
import Derived.Laws.FloatBits
namespace Go.Proofs.YtgbpglojbgicjaaGreatFmt.Flt
open Go.RowKit

theorem ofInt_toNat (x : Int) : (BitVec.ofInt 64 x).toNat = (x % 18446744073709551616).toNat := by
  rw [BitVec.toNat_ofInt]; rfl

theorem i64_and_mask (x : Int) (j : Nat) (hj : j ≤ 63) (m : Int) (hm : m = 2 ^ j - 1) : bits .and .i64 x m = x % 2 ^ j := by
  have hp : (2 : Int) ^ j ≤ 2 ^ 63 := by
    have : (2 : Nat) ^ j ≤ 2 ^ 63 := Nat.pow_le_pow_right (by omega) hj
    exact_mod_cast this
  have h1 : (0 : Int) < 2 ^ j := by
    have : 0 < (2 : Nat) ^ j := Nat.two_pow_pos _
    exact_mod_cast this
  have hN : ((2 ^ j : Nat) : Int) = (2 : Int) ^ j := by norm_cast
  show IntKind.i64.wrap ((BitVec.ofInt 64 x &&& BitVec.ofInt 64 m).toNat : Int) = _
  have hy : (BitVec.ofInt 64 m).toNat = 2 ^ j - 1 := by
    rw [ofInt_toNat]; omega
  rw [BitVec.toNat_and, hy, Nat.and_two_pow_sub_one_eq_mod, ofInt_toNat, IntKind.wrap_i64]
  have hd : (2 : Int) ^ j ∣ 18446744073709551616 := by
    have : (2 : Int) ^ 64 = 2 ^ j * 2 ^ (64 - j) := by rw [← Int.pow_add]; congr 1; omega
    exact ⟨2 ^ (64 - j), this⟩
  have e : (((x % 18446744073709551616).toNat % 2 ^ j : Nat) : Int) = x % 2 ^ j := by
    rw [Int.natCast_emod, hN, Int.toNat_of_nonneg (by omega), Int.emod_emod_of_dvd _ hd]
  rw [e]
  have := Int.emod_nonneg x (show (2 : Int) ^ j ≠ 0 by omega)
  have := Int.emod_lt_of_pos x h1
  omega

theorem nat_xor_bit_lo (i x : Nat) (h : x < 2 ^ i) : x ^^^ 2 ^ i = x + 2 ^ i := by
  apply Nat.eq_of_testBit_eq
  intro j
  rw [Nat.testBit_xor, Nat.testBit_two_pow, Nat.add_comm x]
  rcases Nat.lt_trichotomy j i with hj | hj | hj
  · rw [Nat.testBit_two_pow_add_gt hj]
    have : ¬ i = j := by omega
    simp [this]
  · subst hj
    rw [Nat.testBit_two_pow_add_eq]
    simp [Nat.testBit_lt_two_pow h]
  · have h1 : x < 2 ^ j := Nat.lt_trans h (Nat.pow_lt_pow_right (by omega) hj)
    have h2 : 2 ^ i + x < 2 ^ j := by
      have : 2 ^ (i + 1) ≤ 2 ^ j := Nat.pow_le_pow_right (by omega) hj
      rw [Nat.pow_succ] at this
      omega
    have : ¬ i = j := by omega
    rw [Nat.testBit_lt_two_pow h1, Nat.testBit_lt_two_pow h2]
    simp [this]
theorem nat_xor_bit_hi (i x : Nat) (h : x < 2 ^ i) : (x + 2 ^ i) ^^^ 2 ^ i = x := by
  rw [← nat_xor_bit_lo i x h, Nat.xor_assoc, Nat.xor_self, Nat.xor_zero]
theorem nat_xor_bit (i x : Nat) (h : x < 2 ^ (i + 1)) : x ^^^ 2 ^ i = if x < 2 ^ i then x + 2 ^ i else x - 2 ^ i := by
  split
  · exact nat_xor_bit_lo i x (by assumption)
  · have e := nat_xor_bit_hi i (x - 2 ^ i) (by rw [Nat.pow_succ] at h; omega)
    rw [show x - 2 ^ i + 2 ^ i = x by omega] at e
    exact e
theorem nat_and_bit (i x : Nat) (h : x < 2 ^ (i + 1)) : x &&& 2 ^ i = if x < 2 ^ i then 0 else 2 ^ i := by
  rw [nat_bit]
  split
  · rw [Nat.div_eq_of_lt (by assumption)]; simp
  · have : x / 2 ^ i = 1 := by
      rw [Nat.pow_succ] at h
      exact Nat.div_eq_of_lt_le (by omega) (by omega)
    rw [this]; simp
theorem bv_andNot (a b : BitVec 64) : a &&& ~~~b = a ^^^ (a &&& b) := by
  ext i h
  simp
  cases a[i] <;> cases b[i] <;> rfl

theorem i64_sign : (BitVec.ofInt 64 (-9223372036854775808)).toNat = 2 ^ 63 := by decide
theorem i64_sign32 : (BitVec.ofInt 64 2147483648).toNat = 2 ^ 31 := by decide
theorem i64_lt (x : Int) : (x % 18446744073709551616).toNat < 2 ^ (63 + 1) := by omega

section
variable (x : Int) (h0 : -9223372036854775808 ≤ x) (h1 : x < 9223372036854775808)
include h0 h1
theorem i64_and_sign : bits .and .i64 x (-9223372036854775808) = if x < 0 then -9223372036854775808 else 0 := by
  show IntKind.i64.wrap ((BitVec.ofInt 64 x &&& BitVec.ofInt 64 (-9223372036854775808)).toNat : Int) = _
  rw [BitVec.toNat_and, i64_sign, ofInt_toNat, nat_and_bit 63 _ (i64_lt x), IntKind.wrap_i64]
  split <;> split <;> omega
theorem i64_xor_sign : bits .xor .i64 x (-9223372036854775808) = if x < 0 then x + 9223372036854775808 else x - 9223372036854775808 := by
  show IntKind.i64.wrap ((BitVec.ofInt 64 x ^^^ BitVec.ofInt 64 (-9223372036854775808)).toNat : Int) = _
  rw [BitVec.toNat_xor, i64_sign, ofInt_toNat, nat_xor_bit 63 _ (i64_lt x), IntKind.wrap_i64]
  split <;> split <;> omega
theorem i64_andNot_sign : bits .andNot .i64 x (-9223372036854775808) = if x < 0 then x + 9223372036854775808 else x := by
  show IntKind.i64.wrap ((BitVec.ofInt 64 x &&& ~~~BitVec.ofInt 64 (-9223372036854775808)).toNat : Int) = _
  rw [bv_andNot, BitVec.toNat_xor, BitVec.toNat_and, i64_sign, ofInt_toNat, nat_and_bit 63 _ (i64_lt x)]
  by_cases h : (x % 18446744073709551616).toNat < 2 ^ 63
  · rw [if_pos h, Nat.xor_zero, IntKind.wrap_i64]; split <;> omega
  · rw [if_neg h, nat_xor_bit 63 _ (i64_lt x), if_neg h, IntKind.wrap_i64]; split <;> omega
end
section
variable (x : Int) (h0 : 0 ≤ x) (h1 : x < 4294967296)
include h0 h1
theorem i64_and_sign32 : bits .and .i64 x 2147483648 = if 2147483648 ≤ x then 2147483648 else 0 := by
  show IntKind.i64.wrap ((BitVec.ofInt 64 x &&& BitVec.ofInt 64 2147483648).toNat : Int) = _
  rw [BitVec.toNat_and, i64_sign32, ofInt_toNat, nat_and_bit 31 _ (by omega), IntKind.wrap_i64]
  split <;> split <;> omega
theorem i64_xor_sign32 : bits .xor .i64 x 2147483648 = if 2147483648 ≤ x then x - 2147483648 else x + 2147483648 := by
  show IntKind.i64.wrap ((BitVec.ofInt 64 x ^^^ BitVec.ofInt 64 2147483648).toNat : Int) = _
  rw [BitVec.toNat_xor, i64_sign32, ofInt_toNat, nat_xor_bit 31 _ (by omega), IntKind.wrap_i64]
  split <;> split <;> omega
theorem i64_andNot_sign32 : bits .andNot .i64 x 2147483648 = if 2147483648 ≤ x then x - 2147483648 else x := by
  show IntKind.i64.wrap ((BitVec.ofInt 64 x &&& ~~~BitVec.ofInt 64 2147483648).toNat : Int) = _
  rw [bv_andNot, BitVec.toNat_xor, BitVec.toNat_and, i64_sign32, ofInt_toNat, nat_and_bit 31 _ (by omega)]
  by_cases h : (x % 18446744073709551616).toNat < 2 ^ 31
  · rw [if_pos h, Nat.xor_zero, IntKind.wrap_i64]; split <;> omega
  · rw [if_neg h, nat_xor_bit 31 _ (by omega), if_neg h, IntKind.wrap_i64]; split <;> omega
end
/-- 'a | 1 << j' where a is below it -/
theorem i64_or_bit (x : Int) (j : Nat) (hj : j ≤ 62) (h0 : 0 ≤ x) (h1 : x < 2 ^ j) (m : Int) (hm : m = 2 ^ j) : bits .or .i64 x m = x + m := by
  have hp : (2 : Nat) ^ j ≤ 2 ^ 62 := Nat.pow_le_pow_right (by omega) hj
  have hN : ((2 ^ j : Nat) : Int) = (2 : Int) ^ j := by norm_cast
  show IntKind.i64.wrap ((BitVec.ofInt 64 x ||| BitVec.ofInt 64 m).toNat : Int) = _
  rw [BitVec.toNat_or, ofInt_toNat, ofInt_toNat]
  have e1 : (m % 18446744073709551616).toNat = 2 ^ j := by omega
  rw [e1, Nat.or_comm, nat_join j _ _ (Nat.mod_self _) (by omega), IntKind.wrap_i64]
  omega
end Go.Proofs.YtgbpglojbgicjaaGreatFmt.Flt

namespace Go.Proofs.YtgbpglojbgicjaaGreatFmt.Flt
open Ieee

/-- the value of a rung, in units of the least place -/
def val (B r : Nat) : Nat := if r < B then r else (B + r % B) * 2 ^ (r / B - 1)

theorem val_lt_of_lt {B r s : Nat} (hB : 0 < B) (h : r < s) : val B r < val B s := by
  unfold val
  by_cases hr : r < B
  · rw [if_pos hr]
    by_cases hs : s < B
    · rw [if_pos hs]; exact h
    · rw [if_neg hs]
      have : 0 < 2 ^ (s / B - 1) := Nat.two_pow_pos _
      have h1 : B ≤ (B + s % B) * 2 ^ (s / B - 1) := by
        calc B ≤ B + s % B := Nat.le_add_right _ _
          _ = (B + s % B) * 1 := (Nat.mul_one _).symm
          _ ≤ _ := Nat.mul_le_mul_left _ this
      omega
  · have hs : ¬ s < B := by omega
    rw [if_neg hr, if_neg hs]
    have hrq : 1 ≤ r / B := by
      rw [Nat.le_div_iff_mul_le hB]; omega
    have hle : r / B ≤ s / B := Nat.div_le_div_right (Nat.le_of_lt h)
    have hmr := Nat.mod_lt r hB
    have hmod := Nat.div_add_mod r B
    have hmods := Nat.div_add_mod s B
    rcases Nat.lt_or_ge (r / B) (s / B) with hq | hq
    · have e : s / B - 1 = (r / B - 1) + 1 + (s / B - r / B - 1) := by omega
      have h2 : 2 ^ (s / B - 1) = 2 ^ (r / B - 1) * 2 * 2 ^ (s / B - r / B - 1) := by rw [e, Nat.pow_add, Nat.pow_succ]
      have h3 : 0 < 2 ^ (s / B - r / B - 1) := Nat.two_pow_pos _
      have h4 : 0 < 2 ^ (r / B - 1) := Nat.two_pow_pos _
      calc (B + r % B) * 2 ^ (r / B - 1) < (B + B) * 2 ^ (r / B - 1) := Nat.mul_lt_mul_of_pos_right (by omega) h4
        _ = B * (2 ^ (r / B - 1) * 2) := by rw [← Nat.two_mul, Nat.mul_comm 2 B, Nat.mul_assoc, Nat.mul_comm 2]
        _ ≤ (B + s % B) * (2 ^ (r / B - 1) * 2) := Nat.mul_le_mul_right _ (Nat.le_add_right _ _)
        _ = (B + s % B) * (2 ^ (r / B - 1) * 2) * 1 := (Nat.mul_one _).symm
        _ ≤ (B + s % B) * (2 ^ (r / B - 1) * 2) * 2 ^ (s / B - r / B - 1) := Nat.mul_le_mul_left _ h3
        _ = _ := by rw [h2, Nat.mul_assoc]
    · have heq : r / B = s / B := by omega
      have : r % B < s % B := by
        rw [← heq] at hmods
        omega
      rw [heq]
      exact Nat.mul_lt_mul_of_pos_right (by omega) (Nat.two_pow_pos _)

theorem val_le_iff {B r s : Nat} (hB : 0 < B) : val B r ≤ val B s ↔ r ≤ s := by
  constructor
  · intro h
    rcases Nat.lt_or_ge s r with h1 | h1
    · have := val_lt_of_lt hB h1; omega
    · exact h1
  · intro h
    rcases Nat.lt_or_ge r s with h1 | h1
    · exact Nat.le_of_lt (val_lt_of_lt hB h1)
    · have : r = s := by omega
      rw [this]; exact Nat.le_refl _

theorem val_inj {B r s : Nat} (hB : 0 < B) (h : val B r = val B s) : r = s := by
  have h1 := (val_le_iff (r := r) (s := s) hB).1 (by omega)
  have h2 := (val_le_iff (r := s) (s := r) hB).1 (by omega)
  omega

/-- the signed rung -/
def srung (f : Format) (n : Nat) : Int := if n / f.signWeight % 2 == 1 then -((n % f.signWeight : Nat) : Int) else ((n % f.signWeight : Nat) : Int)
/-- is it no number? -/
def isNaN (f : Format) (n : Nat) : Bool := decide (f.infRung < n % f.signWeight)
def sv (f : Format) (n : Nat) : Int := if n / f.signWeight % 2 == 1 then -((val f.binade (n % f.signWeight) : Nat) : Int) else ((val f.binade (n % f.signWeight) : Nat) : Int)

theorem binade_pos (f : Format) : 0 < f.binade := Nat.two_pow_pos _

theorem compare_int (a b : Int) : compare a b = if a < b then .lt else if a = b then .eq else .gt := rfl

theorem compare_sv (f : Format) (x y : Nat) : compare (sv f x) (sv f y) = compare (srung f x) (srung f y) := by
  have hB := binade_pos f
  have hl := fun r s => val_le_iff (B := f.binade) (r := r) (s := s) hB
  have h0 : val f.binade 0 = 0 := by unfold val; rw [if_pos hB]
  unfold sv srung
  generalize x % f.signWeight = r
  generalize y % f.signWeight = s
  have h1 := hl r s
  have h2 := hl s r
  have h3 := hl r 0
  have h4 := hl s 0
  rw [h0] at h3 h4
  rw [compare_int, compare_int]
  split <;> split
  all_goals
    repeat' split
    all_goals first | rfl | (exfalso; omega)

theorem compare_mul (a b c : Int) (hc : 0 < c) : compare (a * c) (b * c) = compare a b := by
  rw [compare_int, compare_int]
  by_cases h : a < b
  · rw [if_pos h, if_pos (Int.mul_lt_mul_of_pos_right h hc)]
  · by_cases e : a = b
    · subst e; rw [if_neg (by omega), if_pos rfl, if_neg h, if_pos rfl]
    · have hgt : b < a := by omega
      have hh := Int.mul_lt_mul_of_pos_right hgt hc
      rw [if_neg (by omega), if_neg (by omega), if_neg h, if_neg e]

theorem signed_eq (neg : Bool) (m k : Nat) : signed neg m k = if neg then -((m * 2 ^ k : Nat) : Int) else ((m * 2 ^ k : Nat) : Int) := by
  unfold signed; rw [Nat.shiftLeft_eq]

theorem compare_signed (s t : Bool) (m n a b : Nat) (L : Int) :
    compare (signed s m (L + a - min (L + a) (L + b)).toNat) (signed t n (L + b - min (L + a) (L + b)).toNat) = compare (signed s m a) (signed t n b) := by
  have ha : (L + a - min (L + a) (L + b)).toNat = a - min a b := by omega
  have hb : (L + b - min (L + a) (L + b)).toNat = b - min a b := by omega
  rw [ha, hb]
  have hc : (0 : Int) < ((2 ^ min a b : Nat) : Int) := by
    have := Nat.two_pow_pos (min a b); omega
  rw [← compare_mul _ _ _ hc]
  have key : ∀ (s : Bool) (m a k : Nat), k ≤ a → signed s m (a - k) * ((2 ^ k : Nat) : Int) = signed s m a := by
    intro s m a k hk
    rw [signed_eq, signed_eq]
    have e : m * 2 ^ (a - k) * 2 ^ k = m * 2 ^ a := by rw [Nat.mul_assoc, ← Nat.pow_add, Nat.sub_add_cancel hk]
    split
    · rw [Int.neg_mul, ← Int.natCast_mul, e]
    · rw [← Int.natCast_mul, e]
  rw [key s m a _ (Nat.min_le_left _ _), key t n b _ (Nat.min_le_right _ _)]


/-- formats of at least one bit of exponent -/
def Ok (f : Format) : Prop := f.binade ≤ f.infRung ∧ f.infRung % f.binade = 0 ∧ f.infRung < f.signWeight
theorem ok_double : Ok double := by unfold Ok; decide
theorem ok_single : Ok single := by unfold Ok; decide

def mg (f : Format) (r : Nat) : Nat := if r < f.binade then r else f.binade + r % f.binade
def ex (f : Format) (r : Nat) : Nat := r / f.binade - 1
theorem val_eq (f : Format) (r : Nat) : val f.binade r = mg f r * 2 ^ ex f r := by
  unfold val mg ex
  split
  · rename_i h
    rw [Nat.div_eq_of_lt h]; simp
  · rfl

/-- what a word stands for, by its rung -/
theorem read_eq (f : Format) (hf : Ok f) (n : Nat) : f.read n =
    if n % f.signWeight < f.infRung then .number (n / f.signWeight % 2 == 1) (mg f (n % f.signWeight)) (f.leastPlace + (ex f (n % f.signWeight) : Nat))
    else if n % f.signWeight = f.infRung then .infinity (n / f.signWeight % 2 == 1) else .nan (n / f.signWeight % 2 == 1) (n % f.signWeight - f.infRung) := by
  obtain ⟨h0, _⟩ := hf
  unfold Format.read
  dsimp only
  generalize n % f.signWeight = r
  generalize (n / f.signWeight % 2 == 1) = s
  unfold mg ex
  by_cases h1 : r < f.binade
  · rw [if_pos h1, if_pos h1, Nat.div_eq_of_lt h1, if_pos (by omega)]
    simp
  · rw [if_neg h1, if_neg h1]

theorem signed_sv (f : Format) (n : Nat) : signed (n / f.signWeight % 2 == 1) (mg f (n % f.signWeight)) (ex f (n % f.signWeight)) = sv f n := by
  rw [signed_eq, ← val_eq]; rfl

/-- the order of words is the order of their signed rungs -/
theorem order_eq (f : Format) (hf : Ok f) (x y : Nat) : f.order x y = if isNaN f x || isNaN f y then none else some (compare (srung f x) (srung f y)) := by
  have hfin : ∀ n, n % f.signWeight < f.infRung → isNaN f n = false := fun n h => by unfold isNaN; simp; omega
  have hinf : ∀ n, n % f.signWeight = f.infRung → isNaN f n = false := fun n h => by unfold isNaN; simp; omega
  have hnan : ∀ n, ¬ n % f.signWeight < f.infRung → ¬ n % f.signWeight = f.infRung → isNaN f n = true := fun n h h' => by unfold isNaN; simp; omega
  unfold Format.order
  rw [read_eq f hf x, read_eq f hf y]
  by_cases hx : x % f.signWeight < f.infRung
  · rw [if_pos hx, hfin x hx]
    by_cases hy : y % f.signWeight < f.infRung
    · rw [if_pos hy, hfin y hy]
      simp only [Datum.order, Bool.or_self, Bool.false_eq_true, if_false]
      rw [compare_signed, signed_sv, signed_sv, compare_sv]
    · rw [if_neg hy]
      by_cases hy' : y % f.signWeight = f.infRung
      · rw [if_pos hy', hinf y hy']
        simp only [Datum.order, Bool.or_self, Bool.false_eq_true, if_false]
        rw [compare_int]
        unfold srung
        rw [hy']
        cases (y / f.signWeight % 2 == 1) <;> cases (x / f.signWeight % 2 == 1) <;> simp only [Bool.false_eq_true, if_true, if_false] <;> congr 1 <;> (repeat' split) <;> first | rfl | (exfalso; omega)
      · rw [if_neg hy', hnan y hy hy']
        simp [Datum.order]
  · rw [if_neg hx]
    by_cases hx' : x % f.signWeight = f.infRung
    · rw [if_pos hx', hinf x hx']
      by_cases hy : y % f.signWeight < f.infRung
      · rw [if_pos hy, hfin y hy]
        simp only [Datum.order, Bool.or_self, Bool.false_eq_true, if_false]
        rw [compare_int]
        unfold srung
        rw [hx']
        cases (y / f.signWeight % 2 == 1) <;> cases (x / f.signWeight % 2 == 1) <;> simp only [Bool.false_eq_true, if_true, if_false] <;> congr 1 <;> (repeat' split) <;> first | rfl | (exfalso; omega)
      · rw [if_neg hy]
        by_cases hy' : y % f.signWeight = f.infRung
        · rw [if_pos hy', hinf y hy']
          simp only [Datum.order, Bool.or_self, Bool.false_eq_true, if_false]
          have hp : 0 < f.infRung := by have := binade_pos f; have := hf.1; omega
          rw [compare_int]
          unfold srung
          rw [hx', hy']
          cases (y / f.signWeight % 2 == 1) <;> cases (x / f.signWeight % 2 == 1) <;> simp only [Bool.false_eq_true, if_true, if_false] <;> congr 1 <;> (repeat' split) <;> first | rfl | (exfalso; omega)
        · rw [if_neg hy', hnan y hy hy']
          simp [Datum.order]
    · rw [if_neg hx', hnan x hx hx']
      simp [Datum.order]
end Go.Proofs.YtgbpglojbgicjaaGreatFmt.Flt

namespace Go.Proofs.YtgbpglojbgicjaaGreatFmt.Flt
open Ieee

/-- an int -/
def I64 (b : Int) : Prop := -9223372036854775808 ≤ b ∧ b < 9223372036854775808
def valid32 (b : Int) : Bool := decide (0 ≤ b) && decide (b < 4294967296)

def cls64 (b : Int) : Int := if b / 4503599627370496 % 2048 = 2047 then (if b % 4503599627370496 = 0 then 3 else 4) else if b / 4503599627370496 % 2048 = 0 then (if b % 4503599627370496 = 0 then 0 else 1) else 2
def cls32 (b : Int) : Int := if valid32 b = true then (if b / 8388608 % 256 = 255 then (if b % 8388608 = 0 then 3 else 4) else if b / 8388608 % 256 = 0 then (if b % 8388608 = 0 then 0 else 1) else 2) else 4
def cls (b w : Int) : Int := if w = 64 then cls64 b else if w = 32 then cls32 b else 0

/-- a pattern's signed rung -/
def sr64 (b : Int) : Int := if b < 0 then -(b + 9223372036854775808) else b
def sr32 (b : Int) : Int := if 2147483648 ≤ b then -(b - 2147483648) else b

/-- the words -/
def w64 (b : Int) : Nat := (b % 18446744073709551616).toNat
def w32 (b : Int) : Nat := if valid32 b = true then b.toNat else 2143289345

theorem dfields : double.signWeight = 9223372036854775808 ∧ double.infRung = 9218868437227405312 ∧ double.binade = 4503599627370496 := by decide
theorem sfields : single.signWeight = 2147483648 ∧ single.infRung = 2139095040 ∧ single.binade = 8388608 := by decide

theorem w64_nan (b : Int) (h : I64 b) : isNaN double (w64 b) = decide (cls64 b = 4) := by
  obtain ⟨h0, h1⟩ := h
  unfold isNaN w64 cls64
  rw [dfields.1, dfields.2.1]
  rw [decide_eq_decide]
  have e : (b % 18446744073709551616).toNat % 9223372036854775808 = (b % 9223372036854775808).toNat := by omega
  rw [e]
  constructor
  · intro h
    rw [if_pos (by omega), if_neg (by omega)]
  · intro h
    by_cases c : b / 4503599627370496 % 2048 = 2047
    · rw [if_pos c] at h
      by_cases c2 : b % 4503599627370496 = 0
      · rw [if_pos c2] at h; omega
      · omega
    · rw [if_neg c] at h
      split at h
      · split at h <;> omega
      · omega
theorem w64_srung (b : Int) (h : I64 b) : srung double (w64 b) = sr64 b := by
  obtain ⟨h0, h1⟩ := h
  unfold srung w64 sr64
  rw [dfields.1]
  by_cases c : b < 0
  · have e : ((b % 18446744073709551616).toNat / 9223372036854775808 % 2 == 1) = true := by simp only [beq_iff_eq]; omega
    rw [e, if_pos rfl, if_pos c]; omega
  · have e : ((b % 18446744073709551616).toNat / 9223372036854775808 % 2 == 1) = false := by rw [beq_eq_false_iff_ne]; omega
    rw [e, if_neg (by decide), if_neg c]; omega
theorem w32_lt (b : Int) : w32 b < 4294967296 := by
  unfold w32 valid32
  split
  · rename_i h; simp at h; omega
  · omega
theorem w32_nan (b : Int) : isNaN single (w32 b) = decide (cls32 b = 4) := by
  unfold isNaN w32 cls32
  rw [sfields.1, sfields.2.1, decide_eq_decide]
  by_cases hv : valid32 b = true
  · rw [if_pos hv, if_pos hv]
    have hv' : 0 ≤ b ∧ b < 4294967296 := by unfold valid32 at hv; simpa using hv
    constructor
    · intro h
      rw [if_pos (by omega), if_neg (by omega)]
    · intro h
      by_cases c : b / 8388608 % 256 = 255
      · rw [if_pos c] at h
        by_cases c2 : b % 8388608 = 0
        · rw [if_pos c2] at h; omega
        · omega
      · rw [if_neg c] at h
        split at h
        · split at h <;> omega
        · omega
  · rw [if_neg hv, if_neg hv]; decide
theorem w32_srung (b : Int) (h : valid32 b = true) : srung single (w32 b) = sr32 b := by
  unfold srung w32 sr32
  rw [sfields.1, if_pos h]
  unfold valid32 at h
  simp at h
  by_cases c : 2147483648 ≤ b
  · have e : (b.toNat / 2147483648 % 2 == 1) = true := by simp only [beq_iff_eq]; omega
    rw [e, if_pos rfl, if_pos c]; omega
  · have e : (b.toNat / 2147483648 % 2 == 1) = false := by rw [beq_eq_false_iff_ne]; omega
    rw [e, if_neg (by decide), if_neg c]; omega

theorem order_self (f : Format) (hf : Ok f) (n : Nat) : (f.order n n != some .eq) = isNaN f n := by
  rw [order_eq f hf]
  cases h : isNaN f n
  · simp
  · simp
end Go.Proofs.YtgbpglojbgicjaaGreatFmt.Flt

namespace Go.Proofs.YtgbpglojbgicjaaGreatFmt.Flt
open Ieee

theorem log2_mul_pow (m k : Nat) (hm : m ≠ 0) : (m * 2 ^ k).log2 = m.log2 + k := by
  induction k with
  | zero => simp
  | succ k ih =>
    have h0 : m * 2 ^ k ≠ 0 := Nat.mul_ne_zero hm (Nat.ne_of_gt (Nat.two_pow_pos _))
    rw [Nat.pow_succ, ← Nat.mul_assoc, Nat.mul_comm _ 2, Nat.log2_two_mul h0, ih, Nat.add_assoc]

theorem cut_eq (neg : Bool) (n d : Nat) : Toward.even.cut neg n d =
    n / 2 ^ min d (n.log2 + 2) + (decide (2 ^ min d (n.log2 + 2) < 2 * (n % 2 ^ min d (n.log2 + 2))) || (2 ^ min d (n.log2 + 2) == 2 * (n % 2 ^ min d (n.log2 + 2)) && n / 2 ^ min d (n.log2 + 2) % 2 == 1)).toNat := by
  unfold Toward.cut
  simp only [Nat.shiftLeft_eq, Nat.one_mul]

theorem cut_zero (neg : Bool) (n : Nat) : Toward.even.cut neg n 0 = n := by
  rw [cut_eq]
  simp [Nat.mod_one]

theorem cut_shift (neg : Bool) (n d j : Nat) (hn : n ≠ 0) : Toward.even.cut neg (n * 2 ^ j) (d + j) = Toward.even.cut neg n d := by
  rw [cut_eq, cut_eq, log2_mul_pow n j hn]
  have e : min (d + j) (n.log2 + j + 2) = min d (n.log2 + 2) + j := by omega
  rw [e]
  generalize min d (n.log2 + 2) = g
  have hj := Nat.two_pow_pos j
  rw [Nat.pow_add, Nat.mul_div_mul_right _ _ hj, Nat.mul_mod_mul_right, ← Nat.mul_assoc 2]
  have e1 : decide (2 ^ g * 2 ^ j < 2 * (n % 2 ^ g) * 2 ^ j) = decide (2 ^ g < 2 * (n % 2 ^ g)) := by
    rw [decide_eq_decide]; exact Nat.mul_lt_mul_right hj
  have e2 : (2 ^ g * 2 ^ j == 2 * (n % 2 ^ g) * 2 ^ j) = (2 ^ g == 2 * (n % 2 ^ g)) := by
    rw [Bool.eq_iff_iff, beq_iff_eq, beq_iff_eq]
    exact ⟨fun h => Nat.eq_of_mul_eq_mul_right hj h, fun h => congrArg (· * 2 ^ j) h⟩
  rw [e1, e2]

/-- the same number, written with 'k' digits more -/
theorem nearest_shift (f : Format) (neg : Bool) (m k : Nat) (place : Int) : f.nearest neg (m * 2 ^ k) place = f.nearest neg m (place + k) := by
  unfold Format.nearest
  by_cases hm : m = 0
  · subst hm; simp
  have h0 : m * 2 ^ k ≠ 0 := Nat.mul_ne_zero hm (Nat.ne_of_gt (Nat.two_pow_pos _))
  rw [if_neg h0, if_neg hm, log2_mul_pow m k hm]
  have e : place + ((m.log2 + k : Nat) : Int) - f.fractionBits = place + k + (m.log2 : Int) - f.fractionBits := by omega
  rw [e]
  generalize max (place + k + (m.log2 : Int) - f.fractionBits) f.leastPlace = last
  have key : Toward.even.cut neg ((m * 2 ^ k) <<< (place - last).toNat) (last - place).toNat = Toward.even.cut neg (m <<< (place + k - last).toNat) (last - (place + k)).toNat := by
    rw [Nat.shiftLeft_eq, Nat.shiftLeft_eq]
    by_cases h1 : last ≤ place
    · rw [show (last - place).toNat = 0 by omega, show (last - (place + k)).toNat = 0 by omega, cut_zero, cut_zero, Nat.mul_assoc, ← Nat.pow_add]
      congr 2; omega
    · by_cases h2 : last ≤ place + k
      · rw [show (last - (place + k)).toNat = 0 by omega, show (place - last).toNat = 0 by omega, cut_zero, Nat.pow_zero, Nat.mul_one]
        have e3 : m * 2 ^ k = m * 2 ^ (place + k - last).toNat * 2 ^ (last - place).toNat := by
          rw [Nat.mul_assoc, ← Nat.pow_add]; congr 2; omega
        have h3 : m * 2 ^ (place + k - last).toNat ≠ 0 := Nat.mul_ne_zero hm (Nat.ne_of_gt (Nat.two_pow_pos _))
        rw [e3]
        have := cut_shift neg (m * 2 ^ (place + k - last).toNat) 0 (last - place).toNat h3
        rw [Nat.zero_add] at this
        rw [this, cut_zero]
      · rw [show (place - last).toNat = 0 by omega, show (place + k - last).toNat = 0 by omega, Nat.pow_zero, Nat.mul_one, Nat.mul_one]
        have e4 : (last - place).toNat = (last - (place + k)).toNat + k := by omega
        rw [e4, cut_shift neg m _ k hm]
  dsimp only
  rw [key]

/-- a word's own number is written as that word -/
theorem nearest_rung (f : Format) (neg : Bool) (r : Nat) (hr : r < f.infRung) : f.nearest neg (mg f r) (f.leastPlace + (ex f r : Nat)) = f.word neg r := by
  have hB := binade_pos f
  unfold Format.nearest
  by_cases hm : mg f r = 0
  · rw [if_pos hm]
    have : r = 0 := by
      unfold mg at hm
      split at hm <;> omega
    rw [this]
  rw [if_neg hm]
  have hBdef : f.binade = 2 ^ f.fractionBits := rfl
  by_cases h1 : r < f.binade
  · have hmr : mg f r = r := by unfold mg; rw [if_pos h1]
    have hex : ex f r = 0 := by unfold ex; rw [Nat.div_eq_of_lt h1]
    rw [hmr] at hm
    rw [hmr, hex]
    have hlog : r.log2 < f.fractionBits := by rw [Nat.log2_lt hm, ← hBdef]; exact h1
    have e : max (f.leastPlace + ((0 : Nat) : Int) + (r.log2 : Int) - f.fractionBits) f.leastPlace = f.leastPlace := by omega
    rw [e]
    simp only [Int.natCast_zero, Int.add_zero, Int.sub_self, Int.toNat_zero, Nat.shiftLeft_zero, cut_zero, Nat.zero_mul, Nat.zero_add]
    rw [Nat.min_eq_left (Nat.le_of_lt hr)]
  · have hmr : mg f r = f.binade + r % f.binade := by unfold mg; rw [if_neg h1]
    have hmod := Nat.mod_lt r hB
    have hlog : (mg f r).log2 = f.fractionBits := by
      rw [hmr, Nat.log2_eq_iff (by omega), Nat.pow_succ, ← hBdef]
      omega
    have hq : 1 ≤ r / f.binade := by rw [Nat.le_div_iff_mul_le hB]; omega
    rw [hlog]
    have e : max (f.leastPlace + (ex f r : Int) + (f.fractionBits : Int) - f.fractionBits) f.leastPlace = f.leastPlace + (ex f r : Int) := by omega
    rw [e]
    simp only [Int.sub_self, Int.toNat_zero, Nat.shiftLeft_zero, cut_zero]
    have e2 : (f.leastPlace + (ex f r : Int) - f.leastPlace).toNat = ex f r := by omega
    rw [e2, hmr]
    have e3 : ex f r * f.binade + (f.binade + r % f.binade) = r := by
      unfold ex
      have hdm := Nat.div_add_mod r f.binade
      have : (r / f.binade - 1) * f.binade + f.binade = f.binade * (r / f.binade) := by
        rw [← Nat.succ_mul, Nat.succ_eq_add_one, Nat.sub_add_cancel hq, Nat.mul_comm]
      omega
    rw [e3, Nat.min_eq_left (Nat.le_of_lt hr)]

/-- a number that the format has is written as itself -/
theorem nearest_exact (f : Format) (neg : Bool) (m : Nat) (place : Int) (r : Nat) (hr : r < f.infRung) (hp : f.leastPlace ≤ place) (h : m * 2 ^ (place - f.leastPlace).toNat = val f.binade r) :
    f.nearest neg m place = f.word neg r := by
  have h1 := nearest_shift f neg m (place - f.leastPlace).toNat f.leastPlace
  have h2 := nearest_shift f neg (mg f r) (ex f r) f.leastPlace
  rw [← val_eq] at h2
  rw [h, h2, nearest_rung f neg r hr] at h1
  rw [h1]
  congr 1; omega

/-- every number of at most so many digits stands on a rung -/
theorem rung_of (f : Format) (e : Nat) : ∀ m : Nat, m < 2 * f.binade → ∃ r, val f.binade r = m * 2 ^ e := by
  have hB := binade_pos f
  have top : ∀ e m : Nat, f.binade ≤ m → m < 2 * f.binade → val f.binade ((e + 1) * f.binade + (m - f.binade)) = m * 2 ^ e := by
    intro e m h1 h2
    unfold val
    have hd : ((e + 1) * f.binade + (m - f.binade)) / f.binade = e + 1 := by
      rw [Nat.mul_comm, Nat.mul_add_div hB, Nat.div_eq_of_lt (by omega), Nat.add_zero]
    have hmod : ((e + 1) * f.binade + (m - f.binade)) % f.binade = m - f.binade := by
      rw [Nat.mul_comm, Nat.mul_add_mod, Nat.mod_eq_of_lt (by omega)]
    have hge : ¬ ((e + 1) * f.binade + (m - f.binade)) < f.binade := by
      have : f.binade ≤ (e + 1) * f.binade := Nat.le_mul_of_pos_left _ (by omega)
      omega
    rw [if_neg hge, hd, hmod]
    congr 1; omega
  induction e with
  | zero =>
    intro m hm
    by_cases h : m < f.binade
    · exact ⟨m, by unfold val; rw [if_pos h]; simp⟩
    · exact ⟨_, top 0 m (by omega) hm⟩
  | succ e ih =>
    intro m hm
    by_cases h : m < f.binade
    · obtain ⟨r, hr⟩ := ih (2 * m) (by omega)
      exact ⟨r, by rw [hr, Nat.pow_succ, Nat.mul_comm 2 m, Nat.mul_assoc, Nat.mul_comm 2]⟩
    · exact ⟨_, top (e + 1) m (by omega) hm⟩
end Go.Proofs.YtgbpglojbgicjaaGreatFmt.Flt

namespace Go.Proofs.YtgbpglojbgicjaaGreatFmt.Flt
open Ieee

theorem dplace : double.leastPlace = -1074 := by decide
theorem splace : single.leastPlace = -149 := by decide

/-- the word of binary64 that a word of binary32 is seen as (no NaN) -/
def wide (n : Nat) : Nat := double.write (single.read n)

theorem word_mod (f : Format) (neg : Bool) (r : Nat) (hr : r < f.signWeight) : f.word neg r % f.signWeight = r ∧ (f.word neg r / f.signWeight % 2 == 1) = neg := by
  unfold Format.word
  cases neg
  · rw [if_neg (by decide), Nat.mod_eq_of_lt hr, Nat.div_eq_of_lt hr]; exact ⟨rfl, rfl⟩
  · rw [if_pos rfl, Nat.add_mod_left, Nat.mod_eq_of_lt hr, Nat.add_div_left _ (by omega), Nat.div_eq_of_lt hr]; exact ⟨rfl, rfl⟩

/-- how far the least place of binary64 lies below that of binary32 -/
def gapW : Nat := 925
def topD : Nat := 2046
def topS : Nat := 254
theorem gapW_eq : (gapW : Int) = 925 := rfl
theorem val_inf (f : Format) (hf : Ok f) (e : Nat) (he : f.infRung / f.binade - 1 = e) : val f.binade f.infRung = 2 ^ f.fractionBits * 2 ^ e := by
  unfold val
  rw [if_neg (by have := hf.1; omega), hf.2.1, he, Nat.add_zero]; rfl
theorem val_single_lt (r : Nat) (hr : r < single.infRung) : val single.binade r * 2 ^ gapW < val double.binade double.infRung := by
  have h := val_lt_of_lt (B := single.binade) (binade_pos _) hr
  rw [val_inf single ok_single topS (by decide), ← Nat.pow_add] at h
  rw [val_inf double ok_double topD (by decide), ← Nat.pow_add]
  calc val single.binade r * 2 ^ gapW < 2 ^ (single.fractionBits + topS) * 2 ^ gapW := Nat.mul_lt_mul_of_pos_right h (Nat.two_pow_pos _)
    _ = 2 ^ (single.fractionBits + topS + gapW) := by rw [← Nat.pow_add]
    _ ≤ 2 ^ (double.fractionBits + topD) := Nat.pow_le_pow_right (by omega) (by decide)

/-- a finite one's rung -/
theorem wide_fin (n : Nat) (h : n % single.signWeight < single.infRung) : ∃ R, R < double.infRung ∧ val double.binade R = val single.binade (n % single.signWeight) * 2 ^ gapW ∧ wide n = double.word (n / single.signWeight % 2 == 1) R := by
  have hm : mg single (n % single.signWeight) < 2 * double.binade := by
    have hB : single.binade ≤ double.binade := by decide
    unfold mg
    split
    · omega
    · have := Nat.mod_lt (n % single.signWeight) (binade_pos single)
      omega
  obtain ⟨R, hR⟩ := rung_of double (ex single (n % single.signWeight) + gapW) (mg single (n % single.signWeight)) hm
  have hv : val double.binade R = val single.binade (n % single.signWeight) * 2 ^ gapW := by rw [hR, val_eq, Nat.mul_assoc, ← Nat.pow_add]
  have hlt : R < double.infRung := by
    have h1 := val_single_lt _ h
    rw [← hv] at h1
    have h2 := val_le_iff (r := double.infRung) (s := R) (binade_pos double)
    omega
  refine ⟨R, hlt, hv, ?_⟩
  unfold wide
  rw [read_eq single ok_single n, if_pos h]
  show double.nearest _ _ _ = _
  refine nearest_exact double _ _ _ R hlt (by rw [dplace, splace]; omega) ?_
  rw [hR, dplace, splace]
  have := gapW_eq
  congr 2
  omega
theorem wide_inf (n : Nat) (h : n % single.signWeight = single.infRung) : wide n = double.word (n / single.signWeight % 2 == 1) double.infRung := by
  unfold wide
  rw [read_eq single ok_single n, if_neg (by omega), if_pos h]
  rfl

/-- what a word that is no NaN is seen as: its sign stays, its rung keeps the order -/
theorem wide_rung (n : Nat) (h : isNaN single n = false) : ∃ R, R ≤ double.infRung ∧ wide n = double.word (n / single.signWeight % 2 == 1) R ∧
    ((n % single.signWeight < single.infRung ∧ R < double.infRung ∧ val double.binade R = val single.binade (n % single.signWeight) * 2 ^ gapW) ∨ (n % single.signWeight = single.infRung ∧ R = double.infRung)) := by
  unfold isNaN at h
  have h' : ¬ single.infRung < n % single.signWeight := by simpa using h
  by_cases c : n % single.signWeight < single.infRung
  · obtain ⟨R, h1, h2, h3⟩ := wide_fin n c
    exact ⟨R, by omega, h3, .inl ⟨c, h1, h2⟩⟩
  · have c' : n % single.signWeight = single.infRung := by omega
    exact ⟨_, Nat.le_refl _, wide_inf n c', .inr ⟨c', rfl⟩⟩

theorem wide_lt (n : Nat) : wide n < 18446744073709551616 := double.write_lt _
theorem wide_num (n : Nat) (h : isNaN single n = false) : isNaN double (wide n) = false := by
  obtain ⟨R, hR, hw, _⟩ := wide_rung n h
  have hlt : R < double.signWeight := Nat.lt_of_le_of_lt hR ok_double.2.2
  unfold isNaN
  rw [hw, (word_mod double _ R hlt).1]
  simp; omega
theorem wide_sign (n : Nat) (h : isNaN single n = false) : (wide n / double.signWeight % 2 == 1) = (n / single.signWeight % 2 == 1) := by
  obtain ⟨R, hR, hw, _⟩ := wide_rung n h
  have hlt : R < double.signWeight := Nat.lt_of_le_of_lt hR ok_double.2.2
  rw [hw, (word_mod double _ R hlt).2]

theorem wide_compare (a b : Nat) (ha : isNaN single a = false) (hb : isNaN single b = false) : compare (srung double (wide a)) (srung double (wide b)) = compare (srung single a) (srung single b) := by
  obtain ⟨R, hR, hw, hc⟩ := wide_rung a ha
  obtain ⟨S, hS, hv, hd⟩ := wide_rung b hb
  have hRl : R < double.signWeight := Nat.lt_of_le_of_lt hR ok_double.2.2
  have hSl : S < double.signWeight := Nat.lt_of_le_of_lt hS ok_double.2.2
  unfold srung
  rw [hw, hv, (word_mod double _ R hRl).1, (word_mod double _ R hRl).2, (word_mod double _ S hSl).1, (word_mod double _ S hSl).2]
  have hp := Nat.two_pow_pos gapW
  have hDB := binade_pos double
  have hSB := binade_pos single
  generalize a % single.signWeight = r at *
  generalize b % single.signWeight = s at *
  generalize (a / single.signWeight % 2 == 1) = p
  generalize (b / single.signWeight % 2 == 1) = q
  have key : ∀ {R S r s : Nat}, (r < single.infRung ∧ R < double.infRung ∧ val double.binade R = val single.binade r * 2 ^ gapW) ∨ (r = single.infRung ∧ R = double.infRung) → (s < single.infRung ∧ S < double.infRung ∧ val double.binade S = val single.binade s * 2 ^ gapW) ∨ (s = single.infRung ∧ S = double.infRung) → (R ≤ S ↔ r ≤ s) := by
    intro R S r s h1 h2
    rcases h1 with ⟨h1, h3, h5⟩ | ⟨h1, h3⟩ <;> rcases h2 with ⟨h2, h4, h6⟩ | ⟨h2, h4⟩
    · rw [← val_le_iff hDB, ← val_le_iff (r := r) (s := s) hSB, h5, h6]
      exact Nat.mul_le_mul_right_iff hp
    · omega
    · omega
    · omega
  have hz : ∀ {R r : Nat}, (r < single.infRung ∧ R < double.infRung ∧ val double.binade R = val single.binade r * 2 ^ gapW) ∨ (r = single.infRung ∧ R = double.infRung) → (R ≤ 0 ↔ r ≤ 0) := by
    intro R r h
    have h0 : (0 < single.infRung ∧ 0 < double.infRung ∧ val double.binade 0 = val single.binade 0 * 2 ^ gapW) := ⟨by decide, by decide, by unfold val; rw [if_pos hDB, if_pos hSB, Nat.zero_mul]⟩
    exact key h (.inl h0)
  have k1 := key hc hd
  have k2 := key hd hc
  have k3 := hz hc
  have k4 := hz hd
  rw [compare_int, compare_int]
  cases p <;> cases q <;> simp only [Bool.false_eq_true, if_false, if_true] <;> (repeat' split) <;> first | rfl | (exfalso; omega)

/-! ## a float that stands for a pattern -/
def neg64 (b : Int) : Bool := decide (b < 0)
def neg32 (b : Int) : Bool := decide (2147483648 ≤ b)

structure Stands (b w : Int) (r : Nat) : Prop where
  lt : r < 18446744073709551616
  wide64 : w = 64 → r = w64 b
  nan : w = 32 → cls32 b = 4 → isNaN double r = true
  num : w = 32 → ¬ cls32 b = 4 → r = wide (w32 b)

def sr (b w : Int) : Int := if w = 64 then sr64 b else sr32 b

theorem valid_of_cls {b : Int} (h : ¬ cls32 b = 4) : valid32 b = true := by
  cases hv : valid32 b
  · exfalso; apply h; unfold cls32; rw [hv]; rfl
  · rfl
theorem w32_num {b : Int} (h : ¬ cls32 b = 4) : isNaN single (w32 b) = false := by rw [w32_nan]; simpa using h

theorem stands_nan {b w : Int} {r : Nat} (hw : w = 64 ∨ w = 32) (hb : I64 b) (h : Stands b w r) : isNaN double r = decide (cls b w = 4) := by
  rcases hw with rfl | rfl
  · rw [h.wide64 rfl, w64_nan b hb]; rfl
  · by_cases c : cls32 b = 4
    · rw [h.nan rfl c]; symm; exact decide_eq_true c
    · rw [h.num rfl c, wide_num _ (w32_num c)]; symm; exact decide_eq_false c

theorem stands_order {b c w : Int} {r s : Nat} (hw : w = 64 ∨ w = 32) (hb : I64 b) (hc : I64 c) (h : Stands b w r) (k : Stands c w s) :
    double.order r s = if cls b w = 4 ∨ cls c w = 4 then none else some (compare (sr b w) (sr c w)) := by
  rw [order_eq double ok_double, stands_nan hw hb h, stands_nan hw hc k]
  by_cases c1 : cls b w = 4
  · simp [c1]
  · by_cases c2 : cls c w = 4
    · simp [c2]
    · simp only [c1, c2, decide_false, Bool.or_self, Bool.false_eq_true, if_false, or_self]
      rcases hw with rfl | rfl
      · rw [h.wide64 rfl, k.wide64 rfl, w64_srung b hb, w64_srung c hc]; rfl
      · have c1' : ¬ cls32 b = 4 := c1
        have c2' : ¬ cls32 c = 4 := c2
        rw [h.num rfl c1', k.num rfl c2', wide_compare _ _ (w32_num c1') (w32_num c2'), w32_srung b (valid_of_cls c1'), w32_srung c (valid_of_cls c2')]; rfl
end Go.Proofs.YtgbpglojbgicjaaGreatFmt.Flt
