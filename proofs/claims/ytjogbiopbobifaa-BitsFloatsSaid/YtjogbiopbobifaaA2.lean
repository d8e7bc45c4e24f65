/- Walks of the small functions on binary32: bits in and out, the neighbour. -/
import Derived.Test.YtjogbiopbobifaaA
import Derived.Test.YtjogbiopbobifaaSpec
import Derived.Lib.Hide
namespace Go.Proofs.Ytjogbiopbobifaa
open Go.RowKit

/-! binary32, in and out -/
set_option maxRecDepth 100000 in
set_option maxHeartbeats 400000 in
theorem valid32_any (b : Int) (w : World) :
    Calls Try.prog 48 #[.int .i64 b, .int .i64 32] w fun e w' => e = .returned (.bool (b == b % 4294967296)) ∧ w = w' := by
  go_enter Try.func48, Try.ntmps48
  go_wp2
  go_ret
  exact ⟨rfl, rfl⟩
theorem valid32_b (b : Int) : (b == b % 4294967296) = Flt.valid32 b := by
  unfold Flt.valid32
  by_cases h : 0 ≤ b ∧ b < 4294967296
  · rw [beq_iff_eq.2 (by omega), decide_eq_true h.1, decide_eq_true h.2]; rfl
  · rw [beq_eq_false_iff_ne.2 (by omega)]
    by_cases h0 : 0 ≤ b
    · rw [decide_eq_false (show ¬ b < 4294967296 by omega), Bool.and_false]
    · rw [decide_eq_false h0, Bool.false_and]
set_option maxRecDepth 100000 in
set_option maxHeartbeats 400000 in
theorem float32_ok (b : Int) (w : World) (h : (b == b % 4294967296) = true) :
    Calls Try.prog 17 #[.int .i64 b] w fun e w' => e = .returned (.float .f32 (b % 4294967296).toNat) ∧ w = w' := by
  have H := Lib.hid h
  clear h
  go_enter Try.func17, Try.ntmps17
  go_wp2_with (go_at_call 48; (with_reducible refine (valid32_any _ _).mono ?_); rintro e w1 ⟨rfl, rfl⟩; rw [H.out])
  go_wp2
  go_ret
  exact ⟨rfl, rfl⟩
set_option maxRecDepth 100000 in
set_option maxHeartbeats 400000 in
theorem float32_no (b : Int) (w : World) (h : (b == b % 4294967296) = false) :
    Calls Try.prog 17 #[.int .i64 b] w fun e w' => e = .returned (.float .f32 2143289345) ∧ w = w' := by
  have H := Lib.hid h
  clear h
  go_enter Try.func17, Try.ntmps17
  go_wp2_with (go_at_call 48; (with_reducible refine (valid32_any _ _).mono ?_); rintro e w1 ⟨rfl, rfl⟩; rw [H.out])
  go_wp2
  go_ret
  exact ⟨rfl, rfl⟩
theorem float32_any (b : Int) (w : World) :
    Calls Try.prog 17 #[.int .i64 b] w fun e w' => e = .returned (.float .f32 (Flt.w32 b)) ∧ w = w' := by
  unfold Flt.w32
  by_cases h : Flt.valid32 b = true
  · rw [if_pos h]
    have h' : (b == b % 4294967296) = true := by rw [valid32_b]; exact h
    refine (float32_ok b w h').mono ?_
    rintro e w' ⟨he, hw⟩
    refine ⟨?_, hw⟩
    rw [he]
    have : b = b % 4294967296 := by simpa using h'
    rw [← this]
  · rw [if_neg h]
    exact float32_no b w (by rw [valid32_b]; simpa using h)

set_option maxRecDepth 100000 in
set_option maxHeartbeats 400000 in
theorem of32_num (n : Nat) (w : World) (h : (FloatKind.f32.format.order n n != some .eq) = false) :
    Calls Try.prog 20 #[.float .f32 n] w fun e w' => e = .returned (.int .i64 (wrap64 n)) ∧ w = w' := by
  go_enter Try.func20, Try.ntmps20
  go_wp2
  go_ret
  exact ⟨rfl, rfl⟩
set_option maxRecDepth 100000 in
set_option maxHeartbeats 400000 in
theorem of32_nan (n : Nat) (w : World) (h : (FloatKind.f32.format.order n n != some .eq) = true) :
    Calls Try.prog 20 #[.float .f32 n] w fun e w' => e = .returned (.int .i64 2143289345) ∧ w = w' := by
  go_enter Try.func20, Try.ntmps20
  go_wp2
  go_ret
  exact ⟨rfl, rfl⟩

/-- what 'Of' tells of a word -/
def told64 (n : Nat) : Int := if Flt.isNaN Ieee.double n = true then 9221120237041090561 else if n < 9223372036854775808 then (n : Int) else (n : Int) - 18446744073709551616
def told32 (n : Nat) : Int := if Flt.isNaN Ieee.single n = true then 2143289345 else (n : Int)
theorem told64_num {n : Nat} (hn : n < 18446744073709551616) (h : Flt.isNaN Ieee.double n = false) : told64 n = wrap64 n := by
  unfold told64 wrap64
  rw [h, if_neg (by decide)]
  split <;> omega
theorem told64_nan {n : Nat} (h : Flt.isNaN Ieee.double n = true) : told64 n = 9221120237041090561 := by unfold told64; rw [if_pos h]
theorem told32_num {n : Nat} (hn : n < 4294967296) (h : Flt.isNaN Ieee.single n = false) : told32 n = wrap64 n := by
  unfold told32 wrap64
  rw [h, if_neg (by decide)]
  omega
theorem told32_nan {n : Nat} (h : Flt.isNaN Ieee.single n = true) : told32 n = 2143289345 := by unfold told32; rw [if_pos h]
theorem of_any (n : Nat) (w : World) (hn : n < 18446744073709551616) :
    Calls Try.prog 19 #[.float .f64 n] w fun e w' => e = .returned (.int .i64 (told64 n)) ∧ w = w' := by
  have hs := Flt.order_self Ieee.double Flt.ok_double n
  cases h : Flt.isNaN Ieee.double n
  · rw [told64_num hn h]
    exact of_num n w (by rw [← h]; exact hs)
  · rw [told64_nan h]
    exact of_nan n w (by rw [← h]; exact hs)
theorem of32_any (n : Nat) (w : World) (hn : n < 4294967296) :
    Calls Try.prog 20 #[.float .f32 n] w fun e w' => e = .returned (.int .i64 (told32 n)) ∧ w = w' := by
  have hs := Flt.order_self Ieee.single Flt.ok_single n
  cases h : Flt.isNaN Ieee.single n
  · rw [told32_num hn h]
    exact of32_num n w (by rw [← h]; exact hs)
  · rw [told32_nan h]
    exact of32_nan n w (by rw [← h]; exact hs)
end Go.Proofs.Ytjogbiopbobifaa
