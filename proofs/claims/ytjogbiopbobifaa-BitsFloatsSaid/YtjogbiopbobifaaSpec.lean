/- What chapter 1 says of patterns, as plain functions of ints: class, neighbours, sign, order; and how a pattern's place stands to the rungs of Ieee's words. No Go in sight. -/
import Derived.Test.YtjogbiopbobifaaFlt
namespace Go.Proofs.Ytjogbiopbobifaa.Flt
open Ieee

/-- an int -/
def I64 (b : Int) : Prop := -9223372036854775808 ≤ b ∧ b < 9223372036854775808
def valid32 (b : Int) : Bool := decide (0 ≤ b) && decide (b < 4294967296)

def cls64 (b : Int) : Int := if b / 4503599627370496 % 2048 = 2047 then (if b % 4503599627370496 = 0 then 3 else 4) else if b / 4503599627370496 % 2048 = 0 then (if b % 4503599627370496 = 0 then 0 else 1) else 2
def cls32 (b : Int) : Int := if valid32 b = true then (if b / 8388608 % 256 = 255 then (if b % 8388608 = 0 then 3 else 4) else if b / 8388608 % 256 = 0 then (if b % 8388608 = 0 then 0 else 1) else 2) else 4
def cls (b w : Int) : Int := if w = 64 then cls64 b else if w = 32 then cls32 b else 0

/-- a pattern's signed rung -/
def sr64 (b : Int) : Int := if b < 0 then -(b + 9223372036854775808) else b
def sr32 (b : Int) : Int := if 2147483648 ≤ b then -(b - 2147483648) else b

/-- the words -/
def w64 (b : Int) : Nat := (b % 18446744073709551616).toNat
def w32 (b : Int) : Nat := if valid32 b = true then b.toNat else 2143289345

theorem dfields : double.signWeight = 9223372036854775808 ∧ double.infRung = 9218868437227405312 ∧ double.binade = 4503599627370496 := by decide
theorem sfields : single.signWeight = 2147483648 ∧ single.infRung = 2139095040 ∧ single.binade = 8388608 := by decide

theorem w64_nan (b : Int) (h : I64 b) : isNaN double (w64 b) = decide (cls64 b = 4) := by
  obtain ⟨h0, h1⟩ := h
  unfold isNaN w64 cls64
  rw [dfields.1, dfields.2.1]
  rw [decide_eq_decide]
  have e : (b % 18446744073709551616).toNat % 9223372036854775808 = (b % 9223372036854775808).toNat := by omega
  rw [e]
  constructor
  · intro h
    rw [if_pos (by omega), if_neg (by omega)]
  · intro h
    by_cases c : b / 4503599627370496 % 2048 = 2047
    · rw [if_pos c] at h
      by_cases c2 : b % 4503599627370496 = 0
      · rw [if_pos c2] at h; omega
      · omega
    · rw [if_neg c] at h
      split at h
      · split at h <;> omega
      · omega
theorem w64_srung (b : Int) (h : I64 b) : srung double (w64 b) = sr64 b := by
  obtain ⟨h0, h1⟩ := h
  unfold srung w64 sr64
  rw [dfields.1]
  by_cases c : b < 0
  · have e : ((b % 18446744073709551616).toNat / 9223372036854775808 % 2 == 1) = true := by simp only [beq_iff_eq]; omega
    rw [e, if_pos rfl, if_pos c]; omega
  · have e : ((b % 18446744073709551616).toNat / 9223372036854775808 % 2 == 1) = false := by rw [beq_eq_false_iff_ne]; omega
    rw [e, if_neg (by decide), if_neg c]; omega
theorem w32_lt (b : Int) : w32 b < 4294967296 := by
  unfold w32 valid32
  split
  · rename_i h; simp at h; omega
  · omega
theorem w32_nan (b : Int) : isNaN single (w32 b) = decide (cls32 b = 4) := by
  unfold isNaN w32 cls32
  rw [sfields.1, sfields.2.1, decide_eq_decide]
  by_cases hv : valid32 b = true
  · rw [if_pos hv, if_pos hv]
    have hv' : 0 ≤ b ∧ b < 4294967296 := by unfold valid32 at hv; simpa using hv
    constructor
    · intro h
      rw [if_pos (by omega), if_neg (by omega)]
    · intro h
      by_cases c : b / 8388608 % 256 = 255
      · rw [if_pos c] at h
        by_cases c2 : b % 8388608 = 0
        · rw [if_pos c2] at h; omega
        · omega
      · rw [if_neg c] at h
        split at h
        · split at h <;> omega
        · omega
  · rw [if_neg hv, if_neg hv]; decide
theorem w32_srung (b : Int) (h : valid32 b = true) : srung single (w32 b) = sr32 b := by
  unfold srung w32 sr32
  rw [sfields.1, if_pos h]
  unfold valid32 at h
  simp at h
  by_cases c : 2147483648 ≤ b
  · have e : (b.toNat / 2147483648 % 2 == 1) = true := by simp only [beq_iff_eq]; omega
    rw [e, if_pos rfl, if_pos c]; omega
  · have e : (b.toNat / 2147483648 % 2 == 1) = false := by rw [beq_eq_false_iff_ne]; omega
    rw [e, if_neg (by decide), if_neg c]; omega

theorem order_self (f : Format) (hf : Ok f) (n : Nat) : (f.order n n != some .eq) = isNaN f n := by
  rw [order_eq f hf]
  cases h : isNaN f n
  · simp
  · simp
end Go.Proofs.Ytjogbiopbobifaa.Flt
