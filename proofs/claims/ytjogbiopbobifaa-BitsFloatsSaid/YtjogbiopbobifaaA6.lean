/- Walks: Next, at every width: what it tells. -/
import Derived.Test.YtjogbiopbobifaaA5
import Derived.Below
namespace Go.Proofs.Ytjogbiopbobifaa
open Go.RowKit

theorem f64to32_nan (n : Nat) (h : Flt.isNaN Ieee.double n = true) (w : World) : ∃ r, r < 4294967296 ∧ Flt.isNaN Ieee.single r = true ∧ (convert 24 26 (.float .f64 n)).run Try.prog w = .ok (.float .f32 r) w.drew := by
  have hrd := Flt.read_eq Ieee.double Flt.ok_double n
  unfold Flt.isNaN at h
  have h' : Ieee.double.infRung < n % Ieee.double.signWeight := by simpa using h
  rw [if_neg (by omega), if_neg (by omega)] at hrd
  have hu1 : Try.prog.underlying 24 = some (.float .f64) := Try.underlying24
  have hu2 : Try.prog.underlying 26 = some (.float .f32) := Try.underlying26
  refine ⟨Question.cut (.nanConv .f32 n) (w.tape w.drawn (.nanConv .f32 n)), (nan32_word _).1, (nan32_word _).2, ?_⟩
  simp only [convert, run_underlying hu1, run_underlying hu2, Sem.run_bind, Result.andThen]
  have hd : FloatKind.f64.decode n = Ieee.double.read n := rfl
  simp only [Conv.floatToFloat, hd, hrd]
  rfl

set_option maxRecDepth 100000 in
set_option maxHeartbeats 400000 in
theorem next32_of (b : Int) (x r : Nat) (w w2 : World) (hx : Hid (Flt.w32 b = x)) (hr : Hid (r < 4294967296))
    (hna : Hid (Calls Try.prog 67 #[.float .f32 x, .float .f32 2139095040] w fun e w' => e = .returned (.float .f32 r) ∧ w2 = w')) :
    Calls Try.prog 29 #[.int .i64 b, .int .i64 32] w fun e w' => e = .returned (.int .i64 (told32 r)) ∧ w2 = w' := by
  have hi := conv_inf
  go_enter Try.func29, Try.ntmps29
  go_wp2_with (first | (go_at_call 17; (with_reducible refine (float32_any _ _).mono ?_); rintro e w1 ⟨rfl, rfl⟩; rw [hx.out]) | (go_at_call 66; (with_reducible refine (inf_any _).mono ?_); rintro e w1 ⟨rfl, rfl⟩) | (go_at_call 67; (refine hna.out.mono ?_); rintro e w1 ⟨rfl, rfl⟩) | (go_at_call 20; (with_reducible refine (of32_any _ _ hr.out).mono ?_); rintro e w1 ⟨rfl, rfl⟩))
  go_ret
  exact ⟨rfl, rfl⟩
set_option maxRecDepth 100000 in
set_option maxHeartbeats 400000 in
theorem next_no (b v : Int) (w : World) (h64 : (v == 64) = false) (h32 : (v == 32) = false) :
    Calls Try.prog 29 #[.int .i64 b, .int .i64 v] w fun e w' => e = .returned (.int .i64 0) ∧ w = w' := by
  go_enter Try.func29, Try.ntmps29
  go_wp2
  go_ret
  exact ⟨rfl, rfl⟩

/-! ## what they tell -/
namespace Flt
open Ieee
def inf64 : Int := 9218868437227405312
def inf32 : Int := 2139095040
def nan64 : Int := 9221120237041090561
def nan32 : Int := 2143289345
def nxt64 (b : Int) : Int := if cls64 b = 4 then nan64 else if b = inf64 then b else if cls64 b = 0 then 1 else if b < 0 then b - 1 else b + 1
def nxt32 (b : Int) : Int := if cls32 b = 4 then nan32 else if b = inf32 then b else if cls32 b = 0 then 1 else if 2147483648 ≤ b then b - 1 else b + 1
def nxt (b w : Int) : Int := if w = 64 then nxt64 b else if w = 32 then nxt32 b else 0

theorem cls64_zero (b : Int) (h : I64 b) : cls64 b = 0 ↔ sr64 b = 0 := by
  obtain ⟨h0, h1⟩ := h
  unfold cls64 sr64
  constructor
  · intro h
    by_cases c : b / 4503599627370496 % 2048 = 2047
    · rw [if_pos c] at h; split at h <;> omega
    · rw [if_neg c] at h
      split at h
      · split at h
        · split <;> omega
        · omega
      · omega
  · intro h
    have hb : b = 0 ∨ b = -9223372036854775808 := by split at h <;> omega
    rcases hb with rfl | rfl <;> decide
theorem cls32_zero (b : Int) (h : valid32 b = true) : cls32 b = 0 ↔ sr32 b = 0 := by
  have hv : 0 ≤ b ∧ b < 4294967296 := by unfold valid32 at h; simpa using h
  unfold cls32 sr32
  rw [if_pos h]
  constructor
  · intro h
    by_cases c : b / 8388608 % 256 = 255
    · rw [if_pos c] at h; split at h <;> omega
    · rw [if_neg c] at h
      split at h
      · split at h
        · split <;> omega
        · omega
      · omega
  · intro h
    have hb : b = 0 ∨ b = 2147483648 := by split at h <;> omega
    rcases hb with rfl | rfl <;> decide
/-- the greatest of what is a number -/
theorem sr64_le (b : Int) (h : I64 b) (hc : ¬ cls64 b = 4) : -9218868437227405312 ≤ sr64 b ∧ sr64 b ≤ 9218868437227405312 := by
  obtain ⟨h0, h1⟩ := h
  unfold cls64 at hc
  unfold sr64
  by_cases c : b / 4503599627370496 % 2048 = 2047
  · rw [if_pos c] at hc
    by_cases c2 : b % 4503599627370496 = 0
    · split <;> omega
    · rw [if_neg c2] at hc; omega
  · split <;> omega
theorem sr32_le (b : Int) (hc : ¬ cls32 b = 4) : -2139095040 ≤ sr32 b ∧ sr32 b ≤ 2139095040 := by
  have h := valid_of_cls hc
  have hv : 0 ≤ b ∧ b < 4294967296 := by unfold valid32 at h; simpa using h
  unfold cls32 at hc
  rw [if_pos h] at hc
  unfold sr32
  by_cases c : b / 8388608 % 256 = 255
  · rw [if_pos c] at hc
    by_cases c2 : b % 8388608 = 0
    · split <;> omega
    · rw [if_neg c2] at hc; omega
  · split <;> omega
end Flt

theorem ord64 (a b : Int) (ha : Flt.I64 a) (hb : Flt.I64 b) (h1 : ¬ Flt.cls64 a = 4) (h2 : ¬ Flt.cls64 b = 4) : FloatKind.f64.format.order (Flt.w64 a) (Flt.w64 b) = some (compare (Flt.sr64 a) (Flt.sr64 b)) := by
  show Ieee.double.order _ _ = _
  rw [Flt.order_eq Ieee.double Flt.ok_double, Flt.w64_nan a ha, Flt.w64_nan b hb, Flt.w64_srung a ha, Flt.w64_srung b hb]
  simp [h1, h2]
theorem ord32 (a b : Int) (h1 : ¬ Flt.cls32 a = 4) (h2 : ¬ Flt.cls32 b = 4) : FloatKind.f32.format.order (Flt.w32 a) (Flt.w32 b) = some (compare (Flt.sr32 a) (Flt.sr32 b)) := by
  show Ieee.single.order _ _ = _
  rw [Flt.order_eq Ieee.single Flt.ok_single, Flt.w32_nan a, Flt.w32_nan b, Flt.w32_srung a (Flt.valid_of_cls h1), Flt.w32_srung b (Flt.valid_of_cls h2)]
  simp [h1, h2]
end Go.Proofs.Ytjogbiopbobifaa
