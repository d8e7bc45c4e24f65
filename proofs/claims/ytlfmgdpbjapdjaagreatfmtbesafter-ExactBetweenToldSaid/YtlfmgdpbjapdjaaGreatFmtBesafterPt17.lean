/- Part 17 of the walk: BitA. -/
import Derived.Test.YtlfmgdpbjapdjaaGreatFmtBesafterRows
import Derived.WalkKit
import Derived.WalkSpells
import Derived.WalkLawsBesides
import Derived.Test.YtlfmgdpbjapdjaaGreatFmtBesafterPt11
import Derived.Test.YtlfmgdpbjapdjaaGreatFmtBesafterPt15
import Derived.Lib.Hide
import Derived.Laws.FloatArith
import Derived.Below
import Derived.Test.YtlfmgdpbjapdjaaGreatFmtBesafterPt08
import Derived.Test.YtlfmgdpbjapdjaaGreatFmtBesafterPt16
import Derived.BigQuiet
import Derived.Deep.QuietTactic
namespace Go.Proofs.YtlfmgdpbjapdjaaGreatFmtBesafter
open Go.RowKit
set_option maxRecDepth 100000 in
set_option maxHeartbeats 400000 in
theorem float_any (b : Int) (w : World) :
    Calls Tryz.prog 26 #[.int .i64 b] w fun e w' => e = .returned (.float .f64 (IntKind.u64.wrap b).toNat) ∧ w = w' := by
  go_enter Tryz.func26, Tryz.ntmps26
  go_wp2
  go_ret
  exact ⟨rfl, rfl⟩
set_option maxRecDepth 100000 in
set_option maxHeartbeats 400000 in
theorem of_numB (n : Nat) (w : World) (h : (FloatKind.f64.format.order n n != some .eq) = false) :
    Calls Tryz.prog 24 #[.float .f64 n] w fun e w' => e = .returned (.int .i64 (wrap64 n)) ∧ w = w' := by
  go_enter Tryz.func24, Tryz.ntmps24
  go_wp2
  go_ret
  exact ⟨rfl, rfl⟩
set_option maxRecDepth 100000 in
set_option maxHeartbeats 400000 in
theorem of_nan (n : Nat) (w : World) (h : (FloatKind.f64.format.order n n != some .eq) = true) :
    Calls Tryz.prog 24 #[.float .f64 n] w fun e w' => e = .returned (.int .i64 9221120237041090561) ∧ w = w' := by
  go_enter Tryz.func24, Tryz.ntmps24
  go_wp2
  go_ret
  exact ⟨rfl, rfl⟩
set_option maxRecDepth 100000 in
set_option maxHeartbeats 400000 in
theorem nextafter_nan (x y : Nat) (w : World) (h : (FloatKind.f64.format.order x x != some .eq) = true) :
    Calls Tryz.prog 25 #[.float .f64 x, .float .f64 y] w fun e w' => e = .returned (.float .f64 9221120237041090561) ∧ w = w' := by
  go_enter Tryz.func25, Tryz.ntmps25
  go_wp2
  go_ret
  exact ⟨rfl, rfl⟩
set_option maxRecDepth 100000 in
set_option maxHeartbeats 400000 in
theorem nextafter_same (x y : Nat) (w : World) (h : (FloatKind.f64.format.order x x != some .eq) = false) (h0 : (FloatKind.f64.format.order y y != some .eq) = false) (h1 : (FloatKind.f64.format.order x y == some .eq) = true) :
    Calls Tryz.prog 25 #[.float .f64 x, .float .f64 y] w fun e w' => e = .returned (.float .f64 x) ∧ w = w' := by
  go_enter Tryz.func25, Tryz.ntmps25
  go_wp2
  go_ret
  exact ⟨rfl, rfl⟩
set_option maxRecDepth 100000 in
set_option maxHeartbeats 400000 in
theorem nextafter_up (x y : Nat) (w : World) (h : (FloatKind.f64.format.order x x != some .eq) = false) (h0 : (FloatKind.f64.format.order y y != some .eq) = false) (h1 : (FloatKind.f64.format.order x y == some .eq) = false)
    (h2 : (FloatKind.f64.format.order x 0 == some .eq) = false) (h3 : (FloatKind.f64.format.order y x == some .gt) = true) (h4 : (FloatKind.f64.format.order x 0 == some .gt) = true) :
    Calls Tryz.prog 25 #[.float .f64 x, .float .f64 y] w fun e w' => e = .returned (.float .f64 (IntKind.u64.wrap (x + 1)).toNat) ∧ w = w' := by
  go_enter Tryz.func25, Tryz.ntmps25
  go_wp2
  go_ret
  exact ⟨rfl, rfl⟩
set_option maxRecDepth 100000 in
set_option maxHeartbeats 400000 in
theorem nextafter_down (x y : Nat) (w : World) (h : (FloatKind.f64.format.order x x != some .eq) = false) (h0 : (FloatKind.f64.format.order y y != some .eq) = false) (h1 : (FloatKind.f64.format.order x y == some .eq) = false)
    (h2 : (FloatKind.f64.format.order x 0 == some .eq) = false) (h3 : (FloatKind.f64.format.order y x == some .gt) = true) (h4 : (FloatKind.f64.format.order x 0 == some .gt) = false) :
    Calls Tryz.prog 25 #[.float .f64 x, .float .f64 y] w fun e w' => e = .returned (.float .f64 (IntKind.u64.wrap (x - 1)).toNat) ∧ w = w' := by
  go_enter Tryz.func25, Tryz.ntmps25
  go_wp2
  go_ret
  exact ⟨rfl, rfl⟩
set_option maxRecDepth 100000 in
set_option maxHeartbeats 400000 in
theorem nextafter_zero (x : Nat) (w : World) (h : (FloatKind.f64.format.order x x != some .eq) = false) (h1 : (FloatKind.f64.format.order x 9218868437227405312 == some .eq) = false)
    (h2 : (FloatKind.f64.format.order x 0 == some .eq) = true) :
    Calls Tryz.prog 25 #[.float .f64 x, .float .f64 9218868437227405312] w fun e w' => e = .returned (.float .f64 1) ∧ w = w' := by
  have h0 : (FloatKind.f64.format.order 9218868437227405312 9218868437227405312 != some .eq) = false := by kernel_rfl
  go_enter Tryz.func25, Tryz.ntmps25
  go_wp2
  go_ret
  exact ⟨rfl, rfl⟩
end Go.Proofs.YtlfmgdpbjapdjaaGreatFmtBesafter
namespace Go.Proofs.YtlfmgdpbjapdjaaGreatFmtBesafter
open Go.RowKit
set_option maxRecDepth 100000 in
set_option maxHeartbeats 400000 in
theorem valid32_any (b : Int) (w : World) :
    Calls Tryz.prog 50 #[.int .i64 b, .int .i64 32] w fun e w' => e = .returned (.bool (b == b % 4294967296)) ∧ w = w' := by
  go_enter Tryz.func50, Tryz.ntmps50
  go_wp2
  go_ret
  exact ⟨rfl, rfl⟩
theorem valid32_b (b : Int) : (b == b % 4294967296) = Flt.valid32 b := by
  unfold Flt.valid32
  by_cases h : 0 ≤ b ∧ b < 4294967296
  · rw [beq_iff_eq.2 (by omega), decide_eq_true h.1, decide_eq_true h.2]; rfl
  · rw [beq_eq_false_iff_ne.2 (by omega)]
    by_cases h0 : 0 ≤ b
    · rw [decide_eq_false (show ¬ b < 4294967296 by omega), Bool.and_false]
    · rw [decide_eq_false h0, Bool.false_and]
set_option maxRecDepth 100000 in
set_option maxHeartbeats 400000 in
theorem float32_ok (b : Int) (w : World) (h : (b == b % 4294967296) = true) :
    Calls Tryz.prog 30 #[.int .i64 b] w fun e w' => e = .returned (.float .f32 (b % 4294967296).toNat) ∧ w = w' := by
  have H := Lib.hid h
  clear h
  go_enter Tryz.func30, Tryz.ntmps30
  go_wp2_with (go_at_call 50; (with_reducible refine (valid32_any _ _).mono ?_); rintro e w1 ⟨rfl, rfl⟩; rw [H.out])
  go_wp2
  go_ret
  exact ⟨rfl, rfl⟩
set_option maxRecDepth 100000 in
set_option maxHeartbeats 400000 in
theorem float32_no (b : Int) (w : World) (h : (b == b % 4294967296) = false) :
    Calls Tryz.prog 30 #[.int .i64 b] w fun e w' => e = .returned (.float .f32 2143289345) ∧ w = w' := by
  have H := Lib.hid h
  clear h
  go_enter Tryz.func30, Tryz.ntmps30
  go_wp2_with (go_at_call 50; (with_reducible refine (valid32_any _ _).mono ?_); rintro e w1 ⟨rfl, rfl⟩; rw [H.out])
  go_wp2
  go_ret
  exact ⟨rfl, rfl⟩
theorem float32_any (b : Int) (w : World) :
    Calls Tryz.prog 30 #[.int .i64 b] w fun e w' => e = .returned (.float .f32 (Flt.w32 b)) ∧ w = w' := by
  unfold Flt.w32
  by_cases h : Flt.valid32 b = true
  · rw [if_pos h]
    have h' : (b == b % 4294967296) = true := by rw [valid32_b]; exact h
    refine (float32_ok b w h').mono ?_
    rintro e w' ⟨he, hw⟩
    refine ⟨?_, hw⟩
    rw [he]
    have : b = b % 4294967296 := by simpa using h'
    rw [← this]
  · rw [if_neg h]
    exact float32_no b w (by rw [valid32_b]; simpa using h)
set_option maxRecDepth 100000 in
set_option maxHeartbeats 400000 in
theorem of32_numB (n : Nat) (w : World) (h : (FloatKind.f32.format.order n n != some .eq) = false) :
    Calls Tryz.prog 28 #[.float .f32 n] w fun e w' => e = .returned (.int .i64 (wrap64 n)) ∧ w = w' := by
  go_enter Tryz.func28, Tryz.ntmps28
  go_wp2
  go_ret
  exact ⟨rfl, rfl⟩
set_option maxRecDepth 100000 in
set_option maxHeartbeats 400000 in
theorem of32_nan (n : Nat) (w : World) (h : (FloatKind.f32.format.order n n != some .eq) = true) :
    Calls Tryz.prog 28 #[.float .f32 n] w fun e w' => e = .returned (.int .i64 2143289345) ∧ w = w' := by
  go_enter Tryz.func28, Tryz.ntmps28
  go_wp2
  go_ret
  exact ⟨rfl, rfl⟩
def told64 (n : Nat) : Int := if Flt.isNaN Ieee.double n = true then 9221120237041090561 else if n < 9223372036854775808 then (n : Int) else (n : Int) - 18446744073709551616
def told32 (n : Nat) : Int := if Flt.isNaN Ieee.single n = true then 2143289345 else (n : Int)
theorem told64_num {n : Nat} (hn : n < 18446744073709551616) (h : Flt.isNaN Ieee.double n = false) : told64 n = wrap64 n := by
  unfold told64 wrap64
  rw [h, if_neg (by decide)]
  split <;> omega
theorem told64_nan {n : Nat} (h : Flt.isNaN Ieee.double n = true) : told64 n = 9221120237041090561 := by unfold told64; rw [if_pos h]
theorem told32_num {n : Nat} (hn : n < 4294967296) (h : Flt.isNaN Ieee.single n = false) : told32 n = wrap64 n := by
  unfold told32 wrap64
  rw [h, if_neg (by decide)]
  omega
theorem told32_nan {n : Nat} (h : Flt.isNaN Ieee.single n = true) : told32 n = 2143289345 := by unfold told32; rw [if_pos h]
theorem of_any (n : Nat) (w : World) (hn : n < 18446744073709551616) :
    Calls Tryz.prog 24 #[.float .f64 n] w fun e w' => e = .returned (.int .i64 (told64 n)) ∧ w = w' := by
  have hs := Flt.order_self Ieee.double Flt.ok_double n
  cases h : Flt.isNaN Ieee.double n
  · rw [told64_num hn h]
    exact of_numB n w (by rw [← h]; exact hs)
  · rw [told64_nan h]
    exact of_nan n w (by rw [← h]; exact hs)
theorem of32_any (n : Nat) (w : World) (hn : n < 4294967296) :
    Calls Tryz.prog 28 #[.float .f32 n] w fun e w' => e = .returned (.int .i64 (told32 n)) ∧ w = w' := by
  have hs := Flt.order_self Ieee.single Flt.ok_single n
  cases h : Flt.isNaN Ieee.single n
  · rw [told32_num hn h]
    exact of32_numB n w (by rw [← h]; exact hs)
  · rw [told32_nan h]
    exact of32_nan n w (by rw [← h]; exact hs)
end Go.Proofs.YtlfmgdpbjapdjaaGreatFmtBesafter
namespace Go.Proofs.YtlfmgdpbjapdjaaGreatFmtBesafter
open Go.RowKit
set_option maxRecDepth 100000 in
set_option maxHeartbeats 400000 in
theorem inf_any (w : World) :
    Calls Tryz.prog 27 #[.int .i64 1] w fun e w' => e = .returned (.float .f64 9218868437227405312) ∧ w = w' := by
  go_enter Tryz.func27, Tryz.ntmps27
  go_wp2
  go_ret
  exact ⟨rfl, rfl⟩
theorem float_w64 (b : Int) (w : World) :
    Calls Tryz.prog 26 #[.int .i64 b] w fun e w' => e = .returned (.float .f64 (Flt.w64 b)) ∧ w = w' := by
  refine (float_any b w).mono ?_
  rintro e w' ⟨he, hw⟩
  refine ⟨?_, hw⟩
  rw [he, IntKind.wrap_u64]; rfl
set_option maxRecDepth 100000 in
set_option maxHeartbeats 400000 in
theorem next64_of (b : Int) (x r : Nat) (hx : Hid (Flt.w64 b = x)) (hr : Hid (r < 18446744073709551616)) (w : World)
    (hna : Hid (∀ w : World, Calls Tryz.prog 25 #[.float .f64 x, .float .f64 9218868437227405312] w fun e w' => e = .returned (.float .f64 r) ∧ w = w')) :
    Calls Tryz.prog 9 #[.int .i64 b, .int .i64 64] w fun e w' => e = .returned (.int .i64 (told64 r)) ∧ w = w' := by
  go_enter Tryz.func9, Tryz.ntmps9
  go_wp2_with (first | (go_at_call 26; (with_reducible refine (float_w64 _ _).mono ?_); rintro e w1 ⟨rfl, rfl⟩; rw [hx.out]) | (go_at_call 27; (with_reducible refine (inf_any _).mono ?_); rintro e w1 ⟨rfl, rfl⟩) | (go_at_call 25; (refine (hna.out _).mono ?_); rintro e w1 ⟨rfl, rfl⟩) | (go_at_call 24; (with_reducible refine (of_any _ _ hr.out).mono ?_); rintro e w1 ⟨rfl, rfl⟩))
  go_ret
  exact ⟨rfl, rfl⟩
end Go.Proofs.YtlfmgdpbjapdjaaGreatFmtBesafter
namespace Go.Proofs.YtlfmgdpbjapdjaaGreatFmtBesafter
open Go.RowKit
theorem f32to64 (n : Nat) (h : Flt.isNaN Ieee.single n = false) (w : World) : (convert 59 55 (.float .f32 n)).run Tryz.prog w = .ok (.float .f64 (Flt.wide n)) w := by
  refine run_convert_float_float w _ _ _ _ _ _ (by rw [Tryz.underlying59]; rfl) Tryz.underlying55 ?_
  have hw := Flt.wide_num n h
  unfold floatToFloatBits
  rw [if_neg (by decide)]
  obtain ⟨R, hR, hwd, hc⟩ := Flt.wide_rung n h
  have hrd := Flt.read_eq Ieee.single Flt.ok_single n
  show (match Ieee.single.read n with | .nan _ _ => none | .infinity s => some (Ieee.double.write (.infinity s)) | .number s m e => if (Ieee.double.read (Ieee.double.write (.number s m e))).isInfinity then none else some (Ieee.double.write (.number s m e))) = _
  rcases hc with ⟨h1, h2, _⟩ | ⟨h1, h2⟩
  · have e : Flt.wide n = Ieee.double.write (Ieee.single.read n) := rfl
    rw [hrd, if_pos h1] at e ⊢
    dsimp only
    rw [← e, hwd]
    have hlt : R < Ieee.double.signWeight := Nat.lt_trans h2 Flt.ok_double.2.2
    have hnf : (Ieee.double.read (Ieee.double.word (n / Ieee.single.signWeight % 2 == 1) R)).isInfinity = false := by
      rw [Flt.read_eq Ieee.double Flt.ok_double, (Flt.word_mod Ieee.double _ R hlt).1, if_pos h2]; rfl
    rw [hnf]; rfl
  · have e : Flt.wide n = Ieee.double.write (Ieee.single.read n) := rfl
    rw [hrd, if_neg (by omega), if_pos h1] at e ⊢
    rw [e]
theorem nan64_word (t : Nat) : (t % 2) * 2 ^ 63 + 0x7ff0000000000000 + 1 + (t / 2) % (2 ^ 52 - 1) < 18446744073709551616 ∧ Flt.isNaN Ieee.double ((t % 2) * 2 ^ 63 + 0x7ff0000000000000 + 1 + (t / 2) % (2 ^ 52 - 1)) = true := by
  unfold Flt.isNaN
  rw [Flt.dfields.1, Flt.dfields.2.1, decide_eq_true_iff]
  have h1 : t / 2 % (2 ^ 52 - 1) < 2 ^ 52 - 1 := Nat.mod_lt _ (by decide)
  generalize t / 2 % (2 ^ 52 - 1) = q at *
  rcases (show t % 2 = 0 ∨ t % 2 = 1 by omega) with h | h <;> rw [h] <;> omega
theorem nan32_word (t : Nat) : (t % 2) * 2 ^ 31 + 0x7f800000 + 1 + (t / 2) % (2 ^ 23 - 1) < 4294967296 ∧ Flt.isNaN Ieee.single ((t % 2) * 2 ^ 31 + 0x7f800000 + 1 + (t / 2) % (2 ^ 23 - 1)) = true := by
  unfold Flt.isNaN
  rw [Flt.sfields.1, Flt.sfields.2.1, decide_eq_true_iff]
  have h1 : t / 2 % (2 ^ 23 - 1) < 2 ^ 23 - 1 := Nat.mod_lt _ (by decide)
  generalize t / 2 % (2 ^ 23 - 1) = q at *
  rcases (show t % 2 = 0 ∨ t % 2 = 1 by omega) with h | h <;> rw [h] <;> omega
theorem f32to64_nan (n : Nat) (h : Flt.isNaN Ieee.single n = true) (w : World) : ∃ r, r < 18446744073709551616 ∧ Flt.isNaN Ieee.double r = true ∧ (convert 59 55 (.float .f32 n)).run Tryz.prog w = .ok (.float .f64 r) w.drew := by
  have hrd := Flt.read_eq Ieee.single Flt.ok_single n
  unfold Flt.isNaN at h
  have h' : Ieee.single.infRung < n % Ieee.single.signWeight := by simpa using h
  rw [if_neg (by omega), if_neg (by omega)] at hrd
  have hu1 : Tryz.prog.underlying 59 = some (.float .f32) := Tryz.underlying59
  have hu2 : Tryz.prog.underlying 55 = some (.float .f64) := Tryz.underlying55
  refine ⟨Question.cut (.nanConv .f64 n) (w.tape w.drawn (.nanConv .f64 n)), ?_, ?_, ?_⟩
  · exact (nan64_word _).1
  · exact (nan64_word _).2
  · simp only [convert, run_underlying hu1, run_underlying hu2, Sem.run_bind, Result.andThen]
    have hd : FloatKind.f32.decode n = Ieee.single.read n := rfl
    simp only [Conv.floatToFloat, hd, hrd]
    rfl
end Go.Proofs.YtlfmgdpbjapdjaaGreatFmtBesafter
namespace Go.Proofs.YtlfmgdpbjapdjaaGreatFmtBesafter
open Go.RowKit
theorem conv_inf (w : World) : (convert 55 59 (.float .f64 9218868437227405312)).run Tryz.prog w = .ok (.float .f32 2139095040) w := by kernel_rfl
theorem conv_least (w : World) : (convert 55 59 (.float .f64 3936146074321813504)).run Tryz.prog w = .ok (.float .f32 1) w := by kernel_rfl
theorem wide_inf32 : Flt.wide 2139095040 = 9218868437227405312 := by kernel_rfl
theorem wide_least32 : Flt.wide 1 = 3936146074321813504 := by kernel_rfl
theorem conv32_inf (w : World) : (convert 59 55 (.float .f32 2139095040)).run Tryz.prog w = .ok (.float .f64 9218868437227405312) w := by
  rw [f32to64 2139095040 (by decide) w, wide_inf32]
theorem conv32_least (w : World) : (convert 59 55 (.float .f32 1)).run Tryz.prog w = .ok (.float .f64 3936146074321813504) w := by
  rw [f32to64 1 (by decide) w, wide_least32]
section
variable (x r : Nat) (w : World) (hr : ∀ w, (convert 59 55 (.float .f32 x)).run Tryz.prog w = .ok (.float .f64 r) w) (h : (FloatKind.f64.format.order r r != some .eq) = false)
include hr h
set_option maxRecDepth 100000 in
set_option maxHeartbeats 400000 in
theorem next32_same (h1 : (FloatKind.f32.format.order x 2139095040 == some .eq) = true) :
    Calls Tryz.prog 29 #[.float .f32 x, .float .f32 2139095040] w fun e w' => e = .returned (.float .f32 x) ∧ w = w' := by
  have h0 : (FloatKind.f64.format.order 9218868437227405312 9218868437227405312 != some .eq) = false := by kernel_rfl
  have hi := conv32_inf
  go_enter Tryz.func29, Tryz.ntmps29
  go_wp2
  go_ret
  exact ⟨rfl, rfl⟩
set_option maxRecDepth 100000 in
set_option maxHeartbeats 400000 in
theorem next32_up (h1 : (FloatKind.f32.format.order x 2139095040 == some .eq) = false)
    (h2 : (FloatKind.f32.format.order x 0 == some .eq) = false) (h3 : (FloatKind.f32.format.order 2139095040 x == some .gt) = true) (h4 : (FloatKind.f32.format.order x 0 == some .gt) = true) :
    Calls Tryz.prog 29 #[.float .f32 x, .float .f32 2139095040] w fun e w' => e = .returned (.float .f32 (IntKind.u32.wrap (x + 1)).toNat) ∧ w = w' := by
  have h0 : (FloatKind.f64.format.order 9218868437227405312 9218868437227405312 != some .eq) = false := by kernel_rfl
  have hi := conv32_inf
  go_enter Tryz.func29, Tryz.ntmps29
  go_wp2
  go_ret
  exact ⟨rfl, rfl⟩
set_option maxRecDepth 100000 in
set_option maxHeartbeats 400000 in
theorem next32_down (h1 : (FloatKind.f32.format.order x 2139095040 == some .eq) = false)
    (h2 : (FloatKind.f32.format.order x 0 == some .eq) = false) (h3 : (FloatKind.f32.format.order 2139095040 x == some .gt) = true) (h4 : (FloatKind.f32.format.order x 0 == some .gt) = false) :
    Calls Tryz.prog 29 #[.float .f32 x, .float .f32 2139095040] w fun e w' => e = .returned (.float .f32 (IntKind.u32.wrap (x - 1)).toNat) ∧ w = w' := by
  have h0 : (FloatKind.f64.format.order 9218868437227405312 9218868437227405312 != some .eq) = false := by kernel_rfl
  have hi := conv32_inf
  go_enter Tryz.func29, Tryz.ntmps29
  go_wp2
  go_ret
  exact ⟨rfl, rfl⟩
set_option maxRecDepth 100000 in
set_option maxHeartbeats 400000 in
theorem next32_zero (h1 : (FloatKind.f32.format.order x 2139095040 == some .eq) = false)
    (h2 : (FloatKind.f32.format.order x 0 == some .eq) = true) :
    Calls Tryz.prog 29 #[.float .f32 x, .float .f32 2139095040] w fun e w' => e = .returned (.float .f32 1) ∧ w = w' := by
  have h0 : (FloatKind.f64.format.order 9218868437227405312 9218868437227405312 != some .eq) = false := by kernel_rfl
  have hi := conv32_inf
  have hl := conv32_least
  have hc := conv_least
  have hcs : ∀ w : World, Calls Tryz.prog 54 #[.float .f64 3936146074321813504, .float .f64 9218868437227405312] w fun e w' => e = .returned (.float .f64 3936146074321813504) ∧ w = w' := by
    intro w
    clear hr h h1 h2 hi hl hc
    go_enter Tryz.func54, Tryz.ntmps54
    go_wp2
    go_ret
    exact ⟨rfl, rfl⟩
  have HCS := Lib.hid hcs
  clear hcs
  go_enter Tryz.func29, Tryz.ntmps29
  go_wp2_with (first | (go_at_call 54; (with_reducible refine (HCS.out _).mono ?_); rintro e w1 ⟨rfl, rfl⟩) | (go_at_call 52; go_in))
  go_ret
  exact ⟨rfl, rfl⟩
end
set_option maxRecDepth 100000 in
set_option maxHeartbeats 400000 in
theorem next32_nan (x r y s : Nat) (w : World) (hr : (convert 59 55 (.float .f32 x)).run Tryz.prog w = .ok (.float .f64 r) w.drew) (h : (FloatKind.f64.format.order r r != some .eq) = true)
    (hs : (convert 55 59 (.float .f64 9221120237041090561)).run Tryz.prog w.drew = .ok (.float .f32 s) w.drew.drew) :
    Calls Tryz.prog 29 #[.float .f32 x, .float .f32 y] w fun e w' => e = .returned (.float .f32 s) ∧ w.drew.drew = w' := by
  go_enter Tryz.func29, Tryz.ntmps29
  go_wp2
  go_ret
  exact ⟨rfl, rfl⟩
end Go.Proofs.YtlfmgdpbjapdjaaGreatFmtBesafter
namespace Go.Proofs.YtlfmgdpbjapdjaaGreatFmtBesafter
open Go.RowKit
theorem f64to32_nan (n : Nat) (h : Flt.isNaN Ieee.double n = true) (w : World) : ∃ r, r < 4294967296 ∧ Flt.isNaN Ieee.single r = true ∧ (convert 55 59 (.float .f64 n)).run Tryz.prog w = .ok (.float .f32 r) w.drew := by
  have hrd := Flt.read_eq Ieee.double Flt.ok_double n
  unfold Flt.isNaN at h
  have h' : Ieee.double.infRung < n % Ieee.double.signWeight := by simpa using h
  rw [if_neg (by omega), if_neg (by omega)] at hrd
  have hu1 : Tryz.prog.underlying 55 = some (.float .f64) := Tryz.underlying55
  have hu2 : Tryz.prog.underlying 59 = some (.float .f32) := Tryz.underlying59
  refine ⟨Question.cut (.nanConv .f32 n) (w.tape w.drawn (.nanConv .f32 n)), (nan32_word _).1, (nan32_word _).2, ?_⟩
  simp only [convert, run_underlying hu1, run_underlying hu2, Sem.run_bind, Result.andThen]
  have hd : FloatKind.f64.decode n = Ieee.double.read n := rfl
  simp only [Conv.floatToFloat, hd, hrd]
  rfl
set_option maxRecDepth 100000 in
set_option maxHeartbeats 400000 in
theorem next32_of (b : Int) (x r : Nat) (w w2 : World) (hx : Hid (Flt.w32 b = x)) (hr : Hid (r < 4294967296))
    (hna : Hid (Calls Tryz.prog 29 #[.float .f32 x, .float .f32 2139095040] w fun e w' => e = .returned (.float .f32 r) ∧ w2 = w')) :
    Calls Tryz.prog 9 #[.int .i64 b, .int .i64 32] w fun e w' => e = .returned (.int .i64 (told32 r)) ∧ w2 = w' := by
  have hi := conv_inf
  go_enter Tryz.func9, Tryz.ntmps9
  go_wp2_with (first | (go_at_call 30; (with_reducible refine (float32_any _ _).mono ?_); rintro e w1 ⟨rfl, rfl⟩; rw [hx.out]) | (go_at_call 27; (with_reducible refine (inf_any _).mono ?_); rintro e w1 ⟨rfl, rfl⟩) | (go_at_call 29; (refine hna.out.mono ?_); rintro e w1 ⟨rfl, rfl⟩) | (go_at_call 28; (with_reducible refine (of32_any _ _ hr.out).mono ?_); rintro e w1 ⟨rfl, rfl⟩))
  go_ret
  exact ⟨rfl, rfl⟩
set_option maxRecDepth 100000 in
set_option maxHeartbeats 400000 in
theorem next_no (b v : Int) (w : World) (h64 : (v == 64) = false) (h32 : (v == 32) = false) :
    Calls Tryz.prog 9 #[.int .i64 b, .int .i64 v] w fun e w' => e = .returned (.int .i64 0) ∧ w = w' := by
  go_enter Tryz.func9, Tryz.ntmps9
  go_wp2
  go_ret
  exact ⟨rfl, rfl⟩
namespace Flt
open Ieee
def inf64 : Int := 9218868437227405312
def inf32 : Int := 2139095040
def nan64 : Int := 9221120237041090561
def nan32 : Int := 2143289345
def nxt64 (b : Int) : Int := if cls64 b = 4 then nan64 else if b = inf64 then b else if cls64 b = 0 then 1 else if b < 0 then b - 1 else b + 1
def nxt32 (b : Int) : Int := if cls32 b = 4 then nan32 else if b = inf32 then b else if cls32 b = 0 then 1 else if 2147483648 ≤ b then b - 1 else b + 1
def nxt (b w : Int) : Int := if w = 64 then nxt64 b else if w = 32 then nxt32 b else 0
theorem cls64_zero (b : Int) (h : I64 b) : cls64 b = 0 ↔ sr64 b = 0 := by
  obtain ⟨h0, h1⟩ := h
  unfold cls64 sr64
  constructor
  · intro h
    by_cases c : b / 4503599627370496 % 2048 = 2047
    · rw [if_pos c] at h; split at h <;> omega
    · rw [if_neg c] at h
      split at h
      · split at h
        · split <;> omega
        · omega
      · omega
  · intro h
    have hb : b = 0 ∨ b = -9223372036854775808 := by split at h <;> omega
    rcases hb with rfl | rfl <;> decide
theorem cls32_zero (b : Int) (h : valid32 b = true) : cls32 b = 0 ↔ sr32 b = 0 := by
  have hv : 0 ≤ b ∧ b < 4294967296 := by unfold valid32 at h; simpa using h
  unfold cls32 sr32
  rw [if_pos h]
  constructor
  · intro h
    by_cases c : b / 8388608 % 256 = 255
    · rw [if_pos c] at h; split at h <;> omega
    · rw [if_neg c] at h
      split at h
      · split at h
        · split <;> omega
        · omega
      · omega
  · intro h
    have hb : b = 0 ∨ b = 2147483648 := by split at h <;> omega
    rcases hb with rfl | rfl <;> decide
theorem sr64_le (b : Int) (h : I64 b) (hc : ¬ cls64 b = 4) : -9218868437227405312 ≤ sr64 b ∧ sr64 b ≤ 9218868437227405312 := by
  obtain ⟨h0, h1⟩ := h
  unfold cls64 at hc
  unfold sr64
  by_cases c : b / 4503599627370496 % 2048 = 2047
  · rw [if_pos c] at hc
    by_cases c2 : b % 4503599627370496 = 0
    · split <;> omega
    · rw [if_neg c2] at hc; omega
  · split <;> omega
theorem sr32_le (b : Int) (hc : ¬ cls32 b = 4) : -2139095040 ≤ sr32 b ∧ sr32 b ≤ 2139095040 := by
  have h := valid_of_cls hc
  have hv : 0 ≤ b ∧ b < 4294967296 := by unfold valid32 at h; simpa using h
  unfold cls32 at hc
  rw [if_pos h] at hc
  unfold sr32
  by_cases c : b / 8388608 % 256 = 255
  · rw [if_pos c] at hc
    by_cases c2 : b % 8388608 = 0
    · split <;> omega
    · rw [if_neg c2] at hc; omega
  · split <;> omega
end Flt
theorem ord64 (a b : Int) (ha : Flt.I64 a) (hb : Flt.I64 b) (h1 : ¬ Flt.cls64 a = 4) (h2 : ¬ Flt.cls64 b = 4) : FloatKind.f64.format.order (Flt.w64 a) (Flt.w64 b) = some (compare (Flt.sr64 a) (Flt.sr64 b)) := by
  show Ieee.double.order _ _ = _
  rw [Flt.order_eq Ieee.double Flt.ok_double, Flt.w64_nan a ha, Flt.w64_nan b hb, Flt.w64_srung a ha, Flt.w64_srung b hb]
  simp [h1, h2]
theorem ord32 (a b : Int) (h1 : ¬ Flt.cls32 a = 4) (h2 : ¬ Flt.cls32 b = 4) : FloatKind.f32.format.order (Flt.w32 a) (Flt.w32 b) = some (compare (Flt.sr32 a) (Flt.sr32 b)) := by
  show Ieee.single.order _ _ = _
  rw [Flt.order_eq Ieee.single Flt.ok_single, Flt.w32_nan a, Flt.w32_nan b, Flt.w32_srung a (Flt.valid_of_cls h1), Flt.w32_srung b (Flt.valid_of_cls h2)]
  simp [h1, h2]
end Go.Proofs.YtlfmgdpbjapdjaaGreatFmtBesafter
namespace Go.Proofs.YtlfmgdpbjapdjaaGreatFmtBesafter
open Go.RowKit
abbrev Tells (f : FuncId) (args : Array Value) (v : Value) : Prop := ∀ w : World, Calls Tryz.prog f args w fun e w' => e = .returned v ∧ Below w.heap.size w w'
theorem tells_of {f : FuncId} {args : Array Value} {v : Value} (h : ∀ w : World, Calls Tryz.prog f args w fun e w' => e = .returned v ∧ w = w') : Tells f args v :=
  fun w => (h w).mono fun _ _ ⟨he, hw⟩ => ⟨he, hw ▸ Below.refl _ _⟩
theorem told64_w64 (c : Int) (h : Flt.I64 c) (hc : ¬ Flt.cls64 c = 4) : told64 (Flt.w64 c) = c := by
  have hn := Flt.w64_nan c h
  obtain ⟨h0, h1⟩ := h
  unfold told64
  rw [hn, decide_eq_false hc, if_neg (by decide)]
  unfold Flt.w64
  split <;> omega
theorem w64_lt (c : Int) : Flt.w64 c < 18446744073709551616 := by unfold Flt.w64; omega
theorem told32_w32 (c : Int) (hc : ¬ Flt.cls32 c = 4) : told32 (Flt.w32 c) = c := by
  have hv := Flt.valid_of_cls hc
  have hv' : 0 ≤ c ∧ c < 4294967296 := by unfold Flt.valid32 at hv; simpa using hv
  unfold told32
  rw [Flt.w32_nan, decide_eq_false hc, if_neg (by decide)]
  unfold Flt.w32
  rw [if_pos hv]
  omega
theorem w64_inf : (9218868437227405312 : Nat) = Flt.w64 Flt.inf64 := by decide
theorem w64_0 : (0 : Nat) = Flt.w64 0 := by decide
theorem w32_inf : (2139095040 : Nat) = Flt.w32 Flt.inf32 := by decide
theorem w32_0 : (0 : Nat) = Flt.w32 0 := by decide
theorem I64_inf : Flt.I64 Flt.inf64 := ⟨by decide, by decide⟩
theorem I64_0 : Flt.I64 0 := ⟨by decide, by decide⟩
theorem next64_any (b : Int) (hb : Flt.I64 b) : Tells 9 #[.int .i64 b, .int .i64 64] (.int .i64 (Flt.nxt64 b)) := by
  refine tells_of fun w => ?_
  have hn := Flt.order_self Ieee.double Flt.ok_double (Flt.w64 b)
  rw [Flt.w64_nan b hb] at hn
  by_cases c4 : Flt.cls64 b = 4
  · have e : Flt.nxt64 b = told64 9221120237041090561 := by unfold Flt.nxt64; rw [if_pos c4]; decide
    rw [e]
    exact next64_of b _ 9221120237041090561 (Lib.hid rfl) (Lib.hid (by decide)) w (Lib.hid fun w => nextafter_nan _ _ w (by rw [decide_eq_true c4] at hn; exact hn))
  rw [decide_eq_false c4] at hn
  have hr := Flt.sr64_le b hb c4
  have hz := Flt.cls64_zero b hb
  have o1 : FloatKind.f64.format.order (Flt.w64 b) 9218868437227405312 = some (compare (Flt.sr64 b) 9218868437227405312) := by
    rw [w64_inf, ord64 b Flt.inf64 hb I64_inf c4 (by decide)]; rfl
  have o2 : FloatKind.f64.format.order (Flt.w64 b) 0 = some (compare (Flt.sr64 b) 0) := by
    rw [w64_0, ord64 b 0 hb I64_0 c4 (by decide)]; rfl
  have o3 : FloatKind.f64.format.order 9218868437227405312 (Flt.w64 b) = some (compare 9218868437227405312 (Flt.sr64 b)) := by
    rw [w64_inf, ord64 Flt.inf64 b I64_inf hb (by decide) c4]; rfl
  have h0 : (FloatKind.f64.format.order 9218868437227405312 9218868437227405312 != some .eq) = false := by kernel_rfl
  rw [Flt.compare_int] at o1 o2 o3
  by_cases ci : b = Flt.inf64
  · have e : Flt.nxt64 b = told64 (Flt.w64 b) := by rw [told64_w64 b hb c4]; unfold Flt.nxt64; rw [if_neg c4, if_pos ci]
    rw [e]
    refine next64_of b _ _ (Lib.hid rfl) (Lib.hid (w64_lt b)) w (Lib.hid fun w => nextafter_same _ _ w hn h0 ?_)
    rw [o1, ci]; decide
  have hs : Flt.sr64 b ≠ 9218868437227405312 := by
    unfold Flt.sr64; unfold Flt.inf64 at ci
    obtain ⟨h0, h1⟩ := hb
    split <;> omega
  have n1 : (FloatKind.f64.format.order (Flt.w64 b) 9218868437227405312 == some .eq) = false := by
    rw [o1, if_pos (by omega)]; rfl
  by_cases c0 : Flt.cls64 b = 0
  · have e : Flt.nxt64 b = told64 1 := by unfold Flt.nxt64; rw [if_neg c4, if_neg ci, if_pos c0]; decide
    rw [e]
    refine next64_of b _ 1 (Lib.hid rfl) (Lib.hid (by decide)) w (Lib.hid fun w => nextafter_zero _ w hn n1 ?_)
    rw [o2, hz.1 c0]; decide
  have hs0 : Flt.sr64 b ≠ 0 := fun h => c0 (hz.2 h)
  have n2 : (FloatKind.f64.format.order (Flt.w64 b) 0 == some .eq) = false := by
    rw [o2, if_neg hs0]
    split <;> rfl
  have n3 : (FloatKind.f64.format.order 9218868437227405312 (Flt.w64 b) == some .gt) = true := by
    rw [o3, if_neg (by omega), if_neg (by omega)]; rfl
  have hb' := hb
  obtain ⟨b0, b1⟩ := hb'
  by_cases cn : b < 0
  · have hneg : Flt.sr64 b < 0 := by unfold Flt.sr64 at hs0 ⊢; rw [if_pos cn] at hs0 ⊢; omega
    have hsr : Flt.sr64 b = -(b + 9223372036854775808) := by unfold Flt.sr64; rw [if_pos cn]
    have hI : Flt.I64 (b - 1) := ⟨by omega, by omega⟩
    have hc1 : ¬ Flt.cls64 (b - 1) = 4 := by
      intro h
      unfold Flt.cls64 at h
      by_cases c : (b - 1) / 4503599627370496 % 2048 = 2047
      · rw [if_pos c] at h; split at h <;> omega
      · rw [if_neg c] at h; (repeat' split at h) <;> omega
    have e : Flt.nxt64 b = told64 (Flt.w64 (b - 1)) := by rw [told64_w64 _ hI hc1]; unfold Flt.nxt64; rw [if_neg c4, if_neg ci, if_neg c0, if_pos cn]
    rw [e]
    have ex : Flt.w64 (b - 1) = (IntKind.u64.wrap ((Flt.w64 b : Int) - 1)).toNat := by
      rw [IntKind.wrap_u64]; unfold Flt.w64; omega
    refine next64_of b _ _ (Lib.hid rfl) (Lib.hid (w64_lt _)) w (Lib.hid fun w => ?_)
    rw [ex]
    refine nextafter_down _ _ w hn h0 n1 n2 n3 ?_
    rw [o2, if_pos hneg]; rfl
  · have hpos : 0 < Flt.sr64 b := by unfold Flt.sr64 at hs0 ⊢; rw [if_neg cn] at hs0 ⊢; omega
    have hsr : Flt.sr64 b = b := by unfold Flt.sr64; rw [if_neg cn]
    have hI : Flt.I64 (b + 1) := ⟨by omega, by omega⟩
    have hc1 : ¬ Flt.cls64 (b + 1) = 4 := by
      intro h
      unfold Flt.cls64 at h
      by_cases c : (b + 1) / 4503599627370496 % 2048 = 2047
      · rw [if_pos c] at h; split at h <;> omega
      · rw [if_neg c] at h; (repeat' split at h) <;> omega
    have e : Flt.nxt64 b = told64 (Flt.w64 (b + 1)) := by rw [told64_w64 _ hI hc1]; unfold Flt.nxt64; rw [if_neg c4, if_neg ci, if_neg c0, if_neg cn]
    rw [e]
    have ex : Flt.w64 (b + 1) = (IntKind.u64.wrap ((Flt.w64 b : Int) + 1)).toNat := by
      rw [IntKind.wrap_u64]; unfold Flt.w64; omega
    refine next64_of b _ _ (Lib.hid rfl) (Lib.hid (w64_lt _)) w (Lib.hid fun w => ?_)
    rw [ex]
    refine nextafter_up _ _ w hn h0 n1 n2 n3 ?_
    rw [o2, if_neg (by omega), if_neg hs0]; rfl
theorem next32_any (b : Int) : Tells 9 #[.int .i64 b, .int .i64 32] (.int .i64 (Flt.nxt32 b)) := by
  intro w
  by_cases c4 : Flt.cls32 b = 4
  · have e : Flt.nxt32 b = Flt.nan32 := by unfold Flt.nxt32; rw [if_pos c4]
    have hna : Flt.isNaN Ieee.single (Flt.w32 b) = true := by rw [Flt.w32_nan]; exact decide_eq_true c4
    obtain ⟨r, hr, hrn, hrun⟩ := f32to64_nan (Flt.w32 b) hna w
    obtain ⟨s, hs, hsn, hrun2⟩ := f64to32_nan 9221120237041090561 (by decide) w.drew
    have es : told32 s = Flt.nan32 := told32_nan hsn
    rw [e, ← es]
    have ho : (FloatKind.f64.format.order r r != some .eq) = true := by
      have := Flt.order_self Ieee.double Flt.ok_double r
      rw [hrn] at this; exact this
    refine (next32_of b _ s w w.drew.drew (Lib.hid rfl) (Lib.hid hs) (Lib.hid (next32_nan _ r _ s w hrun ho hrun2))).mono ?_
    rintro e w' ⟨he, rfl⟩
    exact ⟨he, (Below.refl _ _).drew.drew⟩
  have hn1 : Flt.isNaN Ieee.single (Flt.w32 b) = false := Flt.w32_num c4
  have hcv := f32to64 (Flt.w32 b) hn1
  have hn : (FloatKind.f64.format.order (Flt.wide (Flt.w32 b)) (Flt.wide (Flt.w32 b)) != some .eq) = false := by
    have := Flt.order_self Ieee.double Flt.ok_double (Flt.wide (Flt.w32 b))
    rw [Flt.wide_num _ hn1] at this; exact this
  have hv := Flt.valid_of_cls c4
  have hv' : 0 ≤ b ∧ b < 4294967296 := by unfold Flt.valid32 at hv; simpa using hv
  have hr := Flt.sr32_le b c4
  have hz := Flt.cls32_zero b hv
  have o1 : FloatKind.f32.format.order (Flt.w32 b) 2139095040 = some (compare (Flt.sr32 b) 2139095040) := by
    rw [w32_inf, ord32 b Flt.inf32 c4 (by decide)]; rfl
  have o2 : FloatKind.f32.format.order (Flt.w32 b) 0 = some (compare (Flt.sr32 b) 0) := by
    rw [w32_0, ord32 b 0 c4 (by decide)]; rfl
  have o3 : FloatKind.f32.format.order 2139095040 (Flt.w32 b) = some (compare 2139095040 (Flt.sr32 b)) := by
    rw [w32_inf, ord32 Flt.inf32 b (by decide) c4]; rfl
  rw [Flt.compare_int] at o1 o2 o3
  have same : ∀ {e : Ending} {w' : World} {v : Value}, e = .returned v ∧ w = w' → e = .returned v ∧ Below w.heap.size w w' := fun ⟨he, hw⟩ => ⟨he, hw ▸ Below.refl _ _⟩
  by_cases ci : b = Flt.inf32
  · have e : Flt.nxt32 b = told32 (Flt.w32 b) := by rw [told32_w32 b c4]; unfold Flt.nxt32; rw [if_neg c4, if_pos ci]
    rw [e]
    refine (next32_of b _ _ w w (Lib.hid rfl) (Lib.hid (Flt.w32_lt b)) (Lib.hid (next32_same _ _ w hcv hn ?_))).mono fun _ _ h => same h
    rw [o1, ci]; decide
  have hs : Flt.sr32 b ≠ 2139095040 := by
    unfold Flt.sr32; unfold Flt.inf32 at ci
    split <;> omega
  have n1 : (FloatKind.f32.format.order (Flt.w32 b) 2139095040 == some .eq) = false := by
    rw [o1, if_pos (by omega)]; rfl
  by_cases c0 : Flt.cls32 b = 0
  · have e : Flt.nxt32 b = told32 1 := by unfold Flt.nxt32; rw [if_neg c4, if_neg ci, if_pos c0]; decide
    rw [e]
    refine (next32_of b _ 1 w w (Lib.hid rfl) (Lib.hid (by decide)) (Lib.hid (next32_zero _ _ w hcv hn n1 ?_))).mono fun _ _ h => same h
    rw [o2, hz.1 c0]; decide
  have hs0 : Flt.sr32 b ≠ 0 := fun h => c0 (hz.2 h)
  have n2 : (FloatKind.f32.format.order (Flt.w32 b) 0 == some .eq) = false := by
    rw [o2, if_neg hs0]
    split <;> rfl
  have n3 : (FloatKind.f32.format.order 2139095040 (Flt.w32 b) == some .gt) = true := by
    rw [o3, if_neg (by omega), if_neg (by omega)]; rfl
  by_cases cn : 2147483648 ≤ b
  · have hneg : Flt.sr32 b < 0 := by unfold Flt.sr32 at hs0 ⊢; rw [if_pos cn] at hs0 ⊢; omega
    have hsr : Flt.sr32 b = -(b - 2147483648) := by unfold Flt.sr32; rw [if_pos cn]
    have hvv : Flt.valid32 (b - 1) = true := by unfold Flt.valid32; rw [decide_eq_true (by omega), decide_eq_true (by omega)]; rfl
    have hc1 : ¬ Flt.cls32 (b - 1) = 4 := by
      intro h
      unfold Flt.cls32 at h
      rw [if_pos hvv] at h
      by_cases c : (b - 1) / 8388608 % 256 = 255
      · rw [if_pos c] at h; split at h <;> omega
      · rw [if_neg c] at h; (repeat' split at h) <;> omega
    have e : Flt.nxt32 b = told32 (Flt.w32 (b - 1)) := by rw [told32_w32 _ hc1]; unfold Flt.nxt32; rw [if_neg c4, if_neg ci, if_neg c0, if_pos cn]
    rw [e]
    have ex : Flt.w32 (b - 1) = (IntKind.u32.wrap ((Flt.w32 b : Int) - 1)).toNat := by
      rw [IntKind.wrap_u32]; unfold Flt.w32; rw [if_pos hv, if_pos hvv]; omega
    refine (next32_of b _ _ w w (Lib.hid rfl) (Lib.hid (Flt.w32_lt _)) (Lib.hid ?_)).mono fun _ _ h => same h
    rw [ex]
    refine next32_down _ _ w hcv hn n1 n2 n3 ?_
    rw [o2, if_pos hneg]; rfl
  · have hpos : 0 < Flt.sr32 b := by unfold Flt.sr32 at hs0 ⊢; rw [if_neg cn] at hs0 ⊢; omega
    have hsr : Flt.sr32 b = b := by unfold Flt.sr32; rw [if_neg cn]
    have hvv : Flt.valid32 (b + 1) = true := by unfold Flt.valid32; rw [decide_eq_true (by omega), decide_eq_true (by omega)]; rfl
    have hc1 : ¬ Flt.cls32 (b + 1) = 4 := by
      intro h
      unfold Flt.cls32 at h
      rw [if_pos hvv] at h
      by_cases c : (b + 1) / 8388608 % 256 = 255
      · rw [if_pos c] at h; split at h <;> omega
      · rw [if_neg c] at h; (repeat' split at h) <;> omega
    have e : Flt.nxt32 b = told32 (Flt.w32 (b + 1)) := by rw [told32_w32 _ hc1]; unfold Flt.nxt32; rw [if_neg c4, if_neg ci, if_neg c0, if_neg cn]
    rw [e]
    have ex : Flt.w32 (b + 1) = (IntKind.u32.wrap ((Flt.w32 b : Int) + 1)).toNat := by
      rw [IntKind.wrap_u32]; unfold Flt.w32; rw [if_pos hv, if_pos hvv]; omega
    refine (next32_of b _ _ w w (Lib.hid rfl) (Lib.hid (Flt.w32_lt _)) (Lib.hid ?_)).mono fun _ _ h => same h
    rw [ex]
    refine next32_up _ _ w hcv hn n1 n2 n3 ?_
    rw [o2, if_neg (by omega), if_neg hs0]; rfl
theorem next_any (b v : Int) (hb : Flt.I64 b) : Tells 9 #[.int .i64 b, .int .i64 v] (.int .i64 (Flt.nxt b v)) := by
  unfold Flt.nxt
  by_cases h : v = 64
  · subst h; rw [if_pos rfl]; exact next64_any b hb
  · rw [if_neg h]
    by_cases h2 : v = 32
    · subst h2; rw [if_pos rfl]; exact next32_any b
    · rw [if_neg h2]
      exact tells_of fun w => next_no b v w (beq_eq_false_iff_ne.2 h) (beq_eq_false_iff_ne.2 h2)
end Go.Proofs.YtlfmgdpbjapdjaaGreatFmtBesafter
namespace Go.Proofs.YtlfmgdpbjapdjaaGreatFmtBesafter
open Go.RowKit
end Go.Proofs.YtlfmgdpbjapdjaaGreatFmtBesafter
namespace Go.Proofs.YtlfmgdpbjapdjaaGreatFmtBesafter
open Go.RowKit Go.Proofs.YtlfmgdpbjapdjaaGreatFmtBesafterW.PrintWords
theorem Flt.fld64_eq (b : Int) : bits .and .i64 (b / 4503599627370496) 2047 = b / 4503599627370496 % 2048 := Flt.i64_and_mask _ 11 (by omega) 2047 (by decide)
theorem Flt.frc64_eq (b : Int) : bits .and .i64 b 4503599627370495 = b % 4503599627370496 := Flt.i64_and_mask _ 52 (by omega) 4503599627370495 (by decide)
theorem Flt.fld32_eq (b : Int) : bits .and .i64 (b / 8388608) 255 = b / 8388608 % 256 := Flt.i64_and_mask _ 8 (by omega) 255 (by decide)
theorem Flt.frc32_eq (b : Int) : bits .and .i64 b 8388607 = b % 8388608 := Flt.i64_and_mask _ 23 (by omega) 8388607 (by decide)
theorem shl52 : wrap64 (shl .i64 1 52 - 1) = 4503599627370495 := by kernel_rfl
theorem shl23 : wrap64 (shl .i64 1 23 - 1) = 8388607 := by kernel_rfl
theorem cls_f64 (b : Int) : F.bits_Class.f 1 b 64 = some (Flt.cls64 b) := by
  have e1 : shr .i64 b 52 = b / 4503599627370496 := rfl
  unfold F.bits_Class.f F.bits_of.f F.bits_Valid.f
  simp only [if_true, Option.bind_some, e1, shl52, Flt.fld64_eq, Flt.frc64_eq, F.bits_Class.j0]
  unfold Flt.cls64
  by_cases c : b / 4503599627370496 % 2048 = 2047
  · by_cases c2 : b % 4503599627370496 = 0 <;> simp [c, c2]
  · by_cases c3 : b / 4503599627370496 % 2048 = 0
    · by_cases c2 : b % 4503599627370496 = 0 <;> simp [c2, c3]
    · have : b / 4503599627370496 % 2048 > 0 := by omega
      simp [c, c3]
theorem cls_f32 (b : Int) : F.bits_Class.f 1 b 32 = some (Flt.cls32 b) := by
  have e1 : shr .i64 b 23 = b / 8388608 := rfl
  have hv : (b == b % 4294967296) = Flt.valid32 b := valid32_b b
  unfold F.bits_Class.f F.bits_of.f F.bits_Valid.f
  simp only [if_true, show ¬ (32 : Int) = 64 by decide, if_false, Option.bind_some, e1, shl23, Flt.fld32_eq, Flt.frc32_eq, F.bits_Class.j0, hv]
  unfold Flt.cls32
  cases Flt.valid32 b
  · simp
  · by_cases c : b / 8388608 % 256 = 255
    · by_cases c2 : b % 8388608 = 0 <;> simp [c, c2]
    · by_cases c3 : b / 8388608 % 256 = 0
      · by_cases c2 : b % 8388608 = 0 <;> simp [c2, c3]
      · simp [c, c3]
end Go.Proofs.YtlfmgdpbjapdjaaGreatFmtBesafter
namespace Go.Proofs.YtlfmgdpbjapdjaaGreatFmtBesafter
open Go.RowKit
theorem bcell {W w1 : World} (hb : Below W.heap.size W w1) : (∀ b o, b < W.heap.size → w1.cell? ⟨b, o, none⟩ = W.cell? ⟨b, o, none⟩) ∧ (∀ b o, b < W.heap.size → w1.frozen? ⟨b, o, none⟩ = W.frozen? ⟨b, o, none⟩) :=
  ⟨fun b o h => hb.cell (p := ⟨b, o, none⟩) h, fun b o h => hb.frozen (p := ⟨b, o, none⟩) h⟩
theorem below_drewN' {B : Nat} {a w : World} (h : Below B a w) (n : Nat) : Below B a (w.drewN n) := ⟨h.os, h.tape, h.output, h.size, h.block⟩
theorem below_two {w w1 w2 : World} {o : Obj} (hb : Below w.heap.size w w1) (hb2 : Below (w1.alloc o).heap.size (w1.alloc o) w2) : Below w.heap.size w w2 :=
  (hb.alloc hb.size o).trans (hb2.mono (Nat.le_trans hb.size (by simp)))
theorem results_tmp4 {fn : Func} {t u v x : Tmp} (h : fn.results = #[.tmp t, .tmp u, .tmp v, .tmp x]) (tmps : Array Value) (P : Program) (w : World) :
    (results fn tmps).run P w = .ok (.tuple #[tmps.getD t undef, tmps.getD u undef, tmps.getD v undef, tmps.getD x undef]) w := by simp [results, h]
theorem ret_parts {a b : Bool} {m n x y : Int} (h1 : a = b) (h2 : m = n) (h3 : x = y) : Ending.returned (.tuple #[.bool a, .int .i64 m, .int .i64 x, .bool true]) = .returned (.tuple #[.bool b, .int .i64 n, .int .i64 y, .bool true]) := by rw [h1, h2, h3]
namespace Flt
def mag64 (b : Int) : Int := if b / 4503599627370496 % 2048 = 0 then b % 4503599627370496 else b % 4503599627370496 + 4503599627370496
def exp64 (b : Int) : Int := if b / 4503599627370496 % 2048 = 0 then -1074 else b / 4503599627370496 % 2048 - 1075
def mag32 (b : Int) : Int := if b / 8388608 % 256 = 0 then b % 8388608 else b % 8388608 + 8388608
def exp32 (b : Int) : Int := if b / 8388608 % 256 = 0 then -149 else b / 8388608 % 256 - 150
theorem mask64_b (x : Int) : 0 ≤ bits .and .i64 x 2047 ∧ bits .and .i64 x 2047 ≤ 2047 := by rw [i64_and_mask x 11 (by omega) 2047 (by decide)]; omega
theorem mask32_b (x : Int) : 0 ≤ bits .and .i64 x 255 ∧ bits .and .i64 x 255 ≤ 255 := by rw [i64_and_mask x 8 (by omega) 255 (by decide)]; omega
theorem sign64_b (b : Int) (h : I64 b) : (bits .and .i64 b (-9223372036854775808) != 0) = neg64 b := by
  unfold neg64
  rw [i64_and_sign b h.1 h.2]
  by_cases h : b < 0 <;> simp [h]
theorem sign32_b (b : Int) (h : valid32 b = true) : (bits .and .i64 b 2147483648 != 0) = neg32 b := by
  have hv : 0 ≤ b ∧ b < 4294967296 := by unfold valid32 at h; simpa using h
  unfold neg32
  rw [i64_and_sign32 b hv.1 hv.2]
  by_cases h : 2147483648 ≤ b <;> simp [h]
theorem mag64_hi (b : Int) (h : 0 < bits .and .i64 (b / 4503599627370496) 2047) : bits .or .i64 (bits .and .i64 b 4503599627370495) 4503599627370496 = mag64 b := by
  rw [fld64_eq] at h
  rw [frc64_eq, i64_or_bit _ 52 (by omega) (by omega) (by omega) _ (by decide)]
  unfold mag64; rw [if_neg (by omega)]
theorem mag64_lo (b : Int) (h : bits .and .i64 (b / 4503599627370496) 2047 ≤ 0) : bits .and .i64 b 4503599627370495 = mag64 b := by
  rw [fld64_eq] at h
  rw [frc64_eq]
  unfold mag64; rw [if_pos (by omega)]
theorem exp64_hi (b : Int) (h : 0 < bits .and .i64 (b / 4503599627370496) 2047) : -1074 + (bits .and .i64 (b / 4503599627370496) 2047 - 1) = exp64 b := by
  rw [fld64_eq] at h ⊢
  unfold exp64; rw [if_neg (by omega)]; omega
theorem exp64_lo (b : Int) (h : bits .and .i64 (b / 4503599627370496) 2047 ≤ 0) : -1074 = exp64 b := by
  rw [fld64_eq] at h
  unfold exp64; rw [if_pos (by omega)]
theorem mag32_hi (b : Int) (h : 0 < bits .and .i64 (b / 8388608) 255) : bits .or .i64 (bits .and .i64 b 8388607) 8388608 = mag32 b := by
  rw [fld32_eq] at h
  rw [frc32_eq, i64_or_bit _ 23 (by omega) (by omega) (by omega) _ (by decide)]
  unfold mag32; rw [if_neg (by omega)]
theorem mag32_lo (b : Int) (h : bits .and .i64 (b / 8388608) 255 ≤ 0) : bits .and .i64 b 8388607 = mag32 b := by
  rw [fld32_eq] at h
  rw [frc32_eq]
  unfold mag32; rw [if_pos (by omega)]
theorem exp32_hi (b : Int) (h : 0 < bits .and .i64 (b / 8388608) 255) : -149 + (bits .and .i64 (b / 8388608) 255 - 1) = exp32 b := by
  rw [fld32_eq] at h ⊢
  unfold exp32; rw [if_neg (by omega)]; omega
theorem exp32_lo (b : Int) (h : bits .and .i64 (b / 8388608) 255 ≤ 0) : -149 = exp32 b := by
  rw [fld32_eq] at h
  unfold exp32; rw [if_pos (by omega)]
end Flt
set_option maxRecDepth 100000 in
set_option maxHeartbeats 1000000 in
theorem parts64_yes (b c : Int) (w : World) (hc : Hid (F.bits_Class.f 1 b 64 = some c)) (h2 : decide (2 < c) = false) (hb0 : Hid (Flt.I64 b)) :
    Calls Tryz.prog 31 #[.int .i64 b, .int .i64 64] w fun e w' => e = .returned (.tuple #[.bool (Flt.neg64 b), .int .i64 (Flt.mag64 b), .int .i64 (Flt.exp64 b), .bool true]) ∧ Below w.heap.size w w' := by
  obtain ⟨hm0, hm1⟩ := Flt.mask64_b (b / 4503599627370496)
  go_enter Tryz.func31, Tryz.ntmps31
  go_wp2_with (first | (go_at_call 49; (with_reducible refine (F.bits_of.calls 64 52 2047 (-1074) (-9223372036854775808) true _ rfl).mono ?_); rintro e w1 ⟨rfl, hb⟩) | (go_at_call 22; (with_reducible refine (F.bits_Class.calls 1 b 64 c _ hc.out).mono ?_); rintro e w2 ⟨rfl, hb2⟩; obtain ⟨hc2, hf2⟩ := bcell hb2))
  have hz0 := hc2 w1.heap.size 0 (by simp)
  have hz1 := hc2 w1.heap.size 1 (by simp)
  have hz2 := hc2 w1.heap.size 2 (by simp)
  have hz3 := hc2 w1.heap.size 3 (by simp)
  go_quiet (fail)
  go_wp2_with fail
  all_goals
    go_quiet (fail)
    go_wp2_with fail
    refine bodyPost_ret (results_tmp4 (t := 4) (u := 5) (v := 6) (x := 7) rfl _ _ _) rfl ⟨ret_parts ?_ ?_ ?_, ?_⟩
  · exact Flt.sign64_b b hb0.out
  · exact Flt.mag64_hi b (by assumption)
  · first | exact Flt.exp64_hi b (by assumption) | (rw [Int.max_eq_left (by omega)]; exact Flt.exp64_hi b (by assumption))
  · exact below_drewN' (below_drewN' (below_two hb hb2) _) _
  · exact Flt.sign64_b b hb0.out
  · exact Flt.mag64_lo b (by assumption)
  · first | exact Flt.exp64_lo b (by assumption) | (rw [Int.max_eq_right (by omega), Int.add_zero]; exact Flt.exp64_lo b (by assumption))
  · exact below_drewN' (below_drewN' (below_two hb hb2) _) _
set_option maxRecDepth 100000 in
set_option maxHeartbeats 1000000 in
theorem parts64_not (b c : Int) (w : World) (hc : Hid (F.bits_Class.f 1 b 64 = some c)) (h2 : decide (2 < c) = true) :
    Calls Tryz.prog 31 #[.int .i64 b, .int .i64 64] w fun e w' => e = .returned (.tuple #[.bool false, .int .i64 0, .int .i64 0, .bool false]) ∧ Below w.heap.size w w' := by
  go_enter Tryz.func31, Tryz.ntmps31
  go_wp2_with (first | (go_at_call 49; (with_reducible refine (F.bits_of.calls 64 52 2047 (-1074) (-9223372036854775808) true _ rfl).mono ?_); rintro e w1 ⟨rfl, hb⟩) | (go_at_call 22; (with_reducible refine (F.bits_Class.calls 1 b 64 c _ hc.out).mono ?_); rintro e w2 ⟨rfl, hb2⟩))
  refine bodyPost_ret (results_tmp4 (t := 4) (u := 5) (v := 6) (x := 7) rfl _ _ _) rfl ⟨rfl, ?_⟩
  exact below_two hb hb2
set_option maxRecDepth 100000 in
set_option maxHeartbeats 1000000 in
theorem parts32_yes (b c : Int) (w : World) (hc : Hid (F.bits_Class.f 1 b 32 = some c)) (h2 : decide (2 < c) = false) (hb0 : Hid (Flt.valid32 b = true)) :
    Calls Tryz.prog 31 #[.int .i64 b, .int .i64 32] w fun e w' => e = .returned (.tuple #[.bool (Flt.neg32 b), .int .i64 (Flt.mag32 b), .int .i64 (Flt.exp32 b), .bool true]) ∧ Below w.heap.size w w' := by
  obtain ⟨hm0, hm1⟩ := Flt.mask32_b (b / 8388608)
  go_enter Tryz.func31, Tryz.ntmps31
  go_wp2_with (first | (go_at_call 49; (with_reducible refine (F.bits_of.calls 32 23 255 (-149) 2147483648 true _ rfl).mono ?_); rintro e w1 ⟨rfl, hb⟩) | (go_at_call 22; (with_reducible refine (F.bits_Class.calls 1 b 32 c _ hc.out).mono ?_); rintro e w2 ⟨rfl, hb2⟩; obtain ⟨hc2, hf2⟩ := bcell hb2))
  have hz0 := hc2 w1.heap.size 0 (by simp)
  have hz1 := hc2 w1.heap.size 1 (by simp)
  have hz2 := hc2 w1.heap.size 2 (by simp)
  have hz3 := hc2 w1.heap.size 3 (by simp)
  go_quiet (fail)
  go_wp2_with fail
  all_goals
    go_quiet (fail)
    go_wp2_with fail
    refine bodyPost_ret (results_tmp4 (t := 4) (u := 5) (v := 6) (x := 7) rfl _ _ _) rfl ⟨ret_parts ?_ ?_ ?_, ?_⟩
  · exact Flt.sign32_b b hb0.out
  · exact Flt.mag32_hi b (by assumption)
  · first | exact Flt.exp32_hi b (by assumption) | (rw [Int.max_eq_left (by omega)]; exact Flt.exp32_hi b (by assumption))
  · exact below_drewN' (below_drewN' (below_two hb hb2) _) _
  · exact Flt.sign32_b b hb0.out
  · exact Flt.mag32_lo b (by assumption)
  · first | exact Flt.exp32_lo b (by assumption) | (rw [Int.max_eq_right (by omega), Int.add_zero]; exact Flt.exp32_lo b (by assumption))
  · exact below_drewN' (below_drewN' (below_two hb hb2) _) _
set_option maxRecDepth 100000 in
set_option maxHeartbeats 1000000 in
theorem parts32_not (b c : Int) (w : World) (hc : Hid (F.bits_Class.f 1 b 32 = some c)) (h2 : decide (2 < c) = true) :
    Calls Tryz.prog 31 #[.int .i64 b, .int .i64 32] w fun e w' => e = .returned (.tuple #[.bool false, .int .i64 0, .int .i64 0, .bool false]) ∧ Below w.heap.size w w' := by
  go_enter Tryz.func31, Tryz.ntmps31
  go_wp2_with (first | (go_at_call 49; (with_reducible refine (F.bits_of.calls 32 23 255 (-149) 2147483648 true _ rfl).mono ?_); rintro e w1 ⟨rfl, hb⟩) | (go_at_call 22; (with_reducible refine (F.bits_Class.calls 1 b 32 c _ hc.out).mono ?_); rintro e w2 ⟨rfl, hb2⟩))
  refine bodyPost_ret (results_tmp4 (t := 4) (u := 5) (v := 6) (x := 7) rfl _ _ _) rfl ⟨rfl, ?_⟩
  exact below_two hb hb2
set_option maxRecDepth 100000 in
set_option maxHeartbeats 1000000 in
theorem parts_no (b v : Int) (w : World) (hf : Hid (F.bits_of.f v = some (0, 0, 0, 0, false))) :
    Calls Tryz.prog 31 #[.int .i64 b, .int .i64 v] w fun e w' => e = .returned (.tuple #[.bool false, .int .i64 0, .int .i64 0, .bool false]) ∧ Below w.heap.size w w' := by
  go_enter Tryz.func31, Tryz.ntmps31
  go_wp2_with (first | (go_at_call 49; (with_reducible refine (F.bits_of.calls v 0 0 0 0 false _ hf.out).mono ?_); rintro e w1 ⟨rfl, hb⟩))
  refine bodyPost_ret (results_tmp4 (t := 4) (u := 5) (v := 6) (x := 7) rfl _ _ _) rfl ⟨rfl, ?_⟩
  exact hb.alloc hb.size _
namespace Flt
def fin (b w : Int) : Bool := (decide (w = 64) || decide (w = 32)) && decide (cls b w ≤ 2)
def neg (b w : Int) : Bool := if w = 64 then neg64 b else neg32 b
def mag (b w : Int) : Int := if w = 64 then mag64 b else mag32 b
def exp (b w : Int) : Int := if w = 64 then exp64 b else exp32 b
def pneg (b w : Int) : Bool := fin b w && neg b w
def pmag (b w : Int) : Int := if fin b w = true then mag b w else 0
def pexp (b w : Int) : Int := if fin b w = true then exp b w else 0
end Flt
def partsV (b v : Int) : Value := .tuple #[.bool (Flt.pneg b v), .int .i64 (Flt.pmag b v), .int .i64 (Flt.pexp b v), .bool (Flt.fin b v)]
theorem of_no (v : Int) (h : ¬ v = 64) (h2 : ¬ v = 32) : F.bits_of.f v = some (0, 0, 0, 0, false) := by
  unfold F.bits_of.f; rw [if_neg h, if_neg h2]
theorem parts_any (b v : Int) (hb : Flt.I64 b) : Tells 31 #[.int .i64 b, .int .i64 v] (partsV b v) := by
  intro w
  unfold partsV Flt.pneg Flt.pmag Flt.pexp Flt.fin Flt.neg Flt.mag Flt.exp Flt.cls
  by_cases h : v = 64
  · subst h
    simp only [decide_true, Bool.true_or, Bool.true_and, if_true]
    by_cases c : Flt.cls64 b ≤ 2
    · simp only [c, decide_true, Bool.true_and, if_true]
      exact parts64_yes b _ w (Lib.hid (cls_f64 b)) (by simpa using c) (Lib.hid hb)
    · simp only [c, decide_false, Bool.false_and, if_false, Bool.false_eq_true]
      exact parts64_not b _ w (Lib.hid (cls_f64 b)) (by simp; omega)
  · by_cases h2 : v = 32
    · subst h2
      simp only [show ¬ (32 : Int) = 64 by decide, decide_false, decide_true, Bool.false_or, Bool.true_and, if_true, if_false]
      by_cases c : Flt.cls32 b ≤ 2
      · simp only [c, decide_true, Bool.true_and, if_true]
        exact parts32_yes b _ w (Lib.hid (cls_f32 b)) (by simpa using c) (Lib.hid (Flt.valid_of_cls (by omega)))
      · simp only [c, decide_false, Bool.false_and, if_false, Bool.false_eq_true]
        exact parts32_not b _ w (Lib.hid (cls_f32 b)) (by simp; omega)
    · simp only [h, h2, decide_false, Bool.or_self, Bool.false_and, if_false, Bool.false_eq_true]
      exact parts_no b v w (Lib.hid (of_no v h h2))
end Go.Proofs.YtlfmgdpbjapdjaaGreatFmtBesafter
namespace Go.Proofs.YtlfmgdpbjapdjaaGreatFmtBesafter
open Go.RowKit
theorem below_on {w w1 w2 : World} (h : Below w.heap.size w w1) (h2 : Below w1.heap.size w1 w2) : Below w.heap.size w w2 := h.trans (h2.mono h.size)
end Go.Proofs.YtlfmgdpbjapdjaaGreatFmtBesafter
namespace Go.Proofs.YtlfmgdpbjapdjaaGreatFmtBesafter.Flt
open Go.RowKit
def nneg64 (b : Int) : Int := if cls64 b = 4 then nan64 else if b < 0 then b + 9223372036854775808 else b - 9223372036854775808
def nneg32 (b : Int) : Int := if cls32 b = 4 then nan32 else if 2147483648 ≤ b then b - 2147483648 else b + 2147483648
def nneg (b w : Int) : Int := if w = 64 then nneg64 b else if w = 32 then nneg32 b else 0
def nprev (b w : Int) : Int := nneg (nxt (nneg b w) w) w
theorem I64_nan64 : I64 nan64 := ⟨by decide, by decide⟩
theorem valid_bounds {b : Int} (h : valid32 b = true) : 0 ≤ b ∧ b < 4294967296 := by unfold valid32 at h; simpa using h
theorem I64_nneg (b w : Int) (h : I64 b) : I64 (nneg b w) := by
  obtain ⟨h0, h1⟩ := h
  unfold nneg nneg64 nneg32
  split
  · split
    · exact I64_nan64
    · split <;> exact ⟨by omega, by omega⟩
  · split
    · split
      · exact ⟨by decide, by decide⟩
      · have := valid_bounds (valid_of_cls (b := b) (by assumption))
        split <;> exact ⟨by omega, by omega⟩
    · exact ⟨by decide, by decide⟩
theorem nxt64_range {b : Int} (h : I64 b) (h4 : ¬ cls64 b = 4) (hi : ¬ b = inf64) (h0 : ¬ cls64 b = 0) : I64 (b - 1) ∧ I64 (b + 1) := by
  have hr := sr64_le b h h4
  have hz := cls64_zero b h
  obtain ⟨l0, l1⟩ := h
  have hi' : ¬ b = 9218868437227405312 := hi
  have hs0 : sr64 b ≠ 0 := fun h => h0 (hz.2 h)
  unfold sr64 at hr hs0
  split at hr
  · rw [if_pos (by assumption)] at hs0; exact ⟨⟨by omega, by omega⟩, by omega, by omega⟩
  · rw [if_neg (by assumption)] at hs0; exact ⟨⟨by omega, by omega⟩, by omega, by omega⟩
theorem I64_nxt (b w : Int) (h : I64 b) : I64 (nxt b w) := by
  unfold nxt nxt64 nxt32
  split
  · split
    · exact I64_nan64
    · split
      · exact h
      · split
        · exact ⟨by decide, by decide⟩
        · have := nxt64_range h (by assumption) (by assumption) (by assumption)
          split
          · exact this.1
          · exact this.2
  · obtain ⟨h0, h1⟩ := h
    split
    · split
      · exact ⟨by decide, by decide⟩
      · have := valid_bounds (valid_of_cls (b := b) (by assumption))
        split
        · exact ⟨by omega, by omega⟩
        · split
          · exact ⟨by decide, by decide⟩
          · split <;> exact ⟨by omega, by omega⟩
    · exact ⟨by decide, by decide⟩
end Go.Proofs.YtlfmgdpbjapdjaaGreatFmtBesafter.Flt
namespace Go.Proofs.YtlfmgdpbjapdjaaGreatFmtBesafter
open Go.RowKit
def WideAnswer (b v : Int) (w : World) (e : Ending) (w' : World) : Prop := ∃ r, Flt.Stands b v r ∧ e = .returned (.tuple #[.float .f64 r, .bool true]) ∧ Below w.heap.size w w'
set_option maxRecDepth 100000 in
set_option maxHeartbeats 400000 in
theorem wide64 (b : Int) (w : World) : Calls Tryz.prog 48 #[.int .i64 b, .int .i64 64] w fun e w' => e = .returned (.tuple #[.float .f64 (Flt.w64 b), .bool true]) ∧ w = w' := by
  go_enter Tryz.func48, Tryz.ntmps48
  go_wp2_with (go_at_call 26; (with_reducible refine (float_w64 _ _).mono ?_); rintro e w1 ⟨rfl, rfl⟩)
  go_ret2
  exact ⟨rfl, rfl⟩
set_option maxRecDepth 100000 in
set_option maxHeartbeats 400000 in
theorem wide32 (b : Int) (r : Nat) (w w2 : World) (hr : (convert 59 55 (.float .f32 (Flt.w32 b))).run Tryz.prog w = .ok (.float .f64 r) w2) :
    Calls Tryz.prog 48 #[.int .i64 b, .int .i64 32] w fun e w' => e = .returned (.tuple #[.float .f64 r, .bool true]) ∧ w2 = w' := by
  go_enter Tryz.func48, Tryz.ntmps48
  go_wp2_with (go_at_call 30; (with_reducible refine (float32_any _ _).mono ?_); rintro e w1 ⟨rfl, rfl⟩)
  go_ret2
  exact ⟨rfl, rfl⟩
set_option maxRecDepth 100000 in
set_option maxHeartbeats 400000 in
theorem wide_no (b v : Int) (h64 : (v == 64) = false) (h32 : (v == 32) = false) : Tells 48 #[.int .i64 b, .int .i64 v] (.tuple #[.float .f64 0, .bool false]) := by
  intro w
  go_enter Tryz.func48, Tryz.ntmps48
  go_wp2
  go_ret2
  exact ⟨rfl, Below.refl _ _⟩
theorem wide_any (b v : Int) (hv : v = 64 ∨ v = 32) (w : World) : Calls Tryz.prog 48 #[.int .i64 b, .int .i64 v] w (WideAnswer b v w) := by
  rcases hv with rfl | rfl
  · refine (wide64 b w).mono ?_
    rintro e w' ⟨he, rfl⟩
    exact ⟨_, ⟨w64_lt b, fun _ => rfl, (fun h => by cases h), (fun h => by cases h)⟩, he, Below.refl _ _⟩
  · by_cases c : Flt.cls32 b = 4
    · obtain ⟨r, hr, hrn, hrun⟩ := f32to64_nan (Flt.w32 b) (by rw [Flt.w32_nan]; exact decide_eq_true c) w
      refine (wide32 b r w w.drew hrun).mono ?_
      rintro e w' ⟨he, rfl⟩
      exact ⟨r, ⟨hr, (fun h => by cases h), fun _ _ => hrn, fun _ h => absurd c h⟩, he, (Below.refl _ _).drew⟩
    · refine (wide32 b _ w w (f32to64 _ (Flt.w32_num c) w)).mono ?_
      rintro e w' ⟨he, rfl⟩
      exact ⟨_, ⟨Flt.wide_lt _, (fun h => by cases h), fun _ h => absurd h c, fun _ _ => rfl⟩, he, Below.refl _ _⟩
namespace Flt
def nless (a b v : Int) : Bool := !decide (cls a v = 4) && !decide (cls b v = 4) && decide (sr a v < sr b v)
theorem stands_lt {a b v : Int} {r s : Nat} (hv : v = 64 ∨ v = 32) (ha : I64 a) (hb : I64 b) (h : Stands a v r) (k : Stands b v s) : (FloatKind.f64.format.order r s == some .lt) = nless a b v := by
  have e : FloatKind.f64.format.order r s = _ := stands_order hv ha hb h k
  rw [e]
  unfold nless
  by_cases c1 : cls a v = 4
  · simp [c1]
  · by_cases c2 : cls b v = 4
    · simp [c2]
    · simp only [c1, c2, or_self, if_false, decide_false, Bool.not_false, Bool.true_and, compare_int]
      by_cases l : sr a v < sr b v
      · simp [l]
      · rw [if_neg l, decide_eq_false l]; split <;> rfl
end Flt
theorem ret_bool {a b : Bool} (h : a = b) : Ending.returned (.bool a) = .returned (.bool b) := by rw [h]
set_option maxRecDepth 100000 in
set_option maxHeartbeats 1000000 in
theorem less_wide (a b v : Int) (hv : Hid (v = 64 ∨ v = 32)) (ha : Hid (Flt.I64 a)) (hb : Hid (Flt.I64 b)) : Tells 21 #[.int .i64 a, .int .i64 b, .int .i64 v] (.bool (Flt.nless a b v)) := by
  intro w
  have HB : Below w.heap.size w w := Below.refl _ _
  go_enter Tryz.func21, Tryz.ntmps21
  go_wp2_with fail
  refine (wide_any a v hv.out _).mono ?_
  rintro e w1 ⟨r, hr, rfl, hb1⟩
  replace HB := below_on HB hb1
  clear hb1
  have HR := Lib.hid hr
  clear hr
  go_wp2_with fail
  refine (wide_any b v hv.out _).mono ?_
  rintro e w1 ⟨s, hs, rfl, hb1⟩
  replace HB := below_on HB hb1
  clear hb1
  have HS := Lib.hid hs
  clear hs
  go_wp2_with fail
  go_ret
  exact ⟨ret_bool (Flt.stands_lt hv.out ha.out hb.out HR.out HS.out), HB⟩
set_option maxRecDepth 100000 in
set_option maxHeartbeats 1000000 in
theorem less_no (a b v : Int) (h64 : Hid ((v == 64) = false)) (h32 : Hid ((v == 32) = false)) : Tells 21 #[.int .i64 a, .int .i64 b, .int .i64 v] (.bool false) := by
  intro w
  have HB : Below w.heap.size w w := Below.refl _ _
  go_enter Tryz.func21, Tryz.ntmps21
  go_wp2_with fail
  refine (wide_no a v h64.out h32.out _).mono ?_
  rintro e w1 ⟨rfl, hb1⟩
  replace HB := below_on HB hb1
  clear hb1
  go_wp2_with fail
  refine (wide_no b v h64.out h32.out _).mono ?_
  rintro e w1 ⟨rfl, hb1⟩
  replace HB := below_on HB hb1
  clear hb1
  go_wp2_with fail
  go_ret
  exact ⟨rfl, HB⟩
def Flt.isW (v : Int) : Bool := decide (v = 64) || decide (v = 32)
theorem Flt.isW_yes {v : Int} (h : Flt.isW v = true) : v = 64 ∨ v = 32 := by unfold Flt.isW at h; simpa using h
theorem Flt.isW_no {v : Int} (h : ¬ Flt.isW v = true) : (v == 64) = false ∧ (v == 32) = false := by unfold Flt.isW at h; simpa using h
theorem less_any (a b v : Int) (ha : Flt.I64 a) (hb : Flt.I64 b) : Tells 21 #[.int .i64 a, .int .i64 b, .int .i64 v] (.bool (Flt.isW v && Flt.nless a b v)) := by
  by_cases h : Flt.isW v = true
  · rw [h, Bool.true_and]; exact less_wide a b v (Lib.hid (Flt.isW_yes h)) (Lib.hid ha) (Lib.hid hb)
  · rw [Bool.eq_false_iff.2 h, Bool.false_and]; exact less_no a b v (Lib.hid (Flt.isW_no h).1) (Lib.hid (Flt.isW_no h).2)
end Go.Proofs.YtlfmgdpbjapdjaaGreatFmtBesafter
namespace Go.Proofs.YtlfmgdpbjapdjaaGreatFmtBesafter
open Go.RowKit Go.Proofs.YtlfmgdpbjapdjaaGreatFmtBesafterW.PrintWords
theorem neg_f (b v : Int) (hb : Flt.I64 b) : F.bits_Neg.f 1 b v = some (Flt.nneg b v) := by
  unfold F.bits_Neg.f F.bits_nan.f Flt.nneg
  by_cases h : v = 64
  · subst h
    unfold F.bits_of.f
    simp only [if_true, Option.bind_some, cls_f64, show ¬ (64 : Int) = 32 by decide, if_false]
    unfold Flt.nneg64
    by_cases c : Flt.cls64 b = 4
    · simp only [c, if_true]; rfl
    · simp only [c, if_false, Flt.i64_xor_sign b hb.1 hb.2]
  · by_cases h2 : v = 32
    · subst h2
      unfold F.bits_of.f
      simp only [if_true, Option.bind_some, cls_f32, show ¬ (32 : Int) = 64 by decide, if_false]
      unfold Flt.nneg32
      by_cases c : Flt.cls32 b = 4
      · simp only [c, if_true]; rfl
      · have hv := Flt.valid_bounds (Flt.valid_of_cls c)
        simp only [c, if_false, Flt.i64_xor_sign32 b hv.1 hv.2]
    · rw [of_no v h h2, if_neg h2, if_neg h, if_neg h2]; rfl
theorem neg_any (b v : Int) (hb : Flt.I64 b) : Tells 102 #[.int .i64 b, .int .i64 v] (.int .i64 (Flt.nneg b v)) := fun w => F.bits_Neg.calls 1 b v _ w (neg_f b v hb)
set_option maxRecDepth 100000 in
set_option maxHeartbeats 1000000 in
theorem prev_any (b v : Int) (hb : Flt.I64 b) : Tells 79 #[.int .i64 b, .int .i64 v] (.int .i64 (Flt.nprev b v)) := by
  intro w
  have P1 := Lib.hid (neg_any b v hb)
  have P2 := Lib.hid (next_any (Flt.nneg b v) v (Flt.I64_nneg b v hb))
  have P3 := Lib.hid (neg_any (Flt.nxt (Flt.nneg b v) v) v (Flt.I64_nxt _ v (Flt.I64_nneg b v hb)))
  have E : Flt.nprev b v = Flt.nneg (Flt.nxt (Flt.nneg b v) v) v := rfl
  rw [E]
  clear E hb
  generalize Flt.nneg (Flt.nxt (Flt.nneg b v) v) v = z at *
  generalize Flt.nxt (Flt.nneg b v) v = y at *
  generalize Flt.nneg b v = x at *
  have HB : Below w.heap.size w w := Below.refl _ _
  go_enter Tryz.func79, Tryz.ntmps79
  go_wp2_with fail
  refine (P1.out _).mono ?_
  rintro e w1 ⟨rfl, hb1⟩
  replace HB := below_on HB hb1
  clear hb1
  go_wp2_with fail
  refine (P2.out _).mono ?_
  rintro e w1 ⟨rfl, hb1⟩
  replace HB := below_on HB hb1
  clear hb1
  go_wp2_with fail
  refine (P3.out _).mono ?_
  rintro e w1 ⟨rfl, hb1⟩
  replace HB := below_on HB hb1
  clear hb1
  go_wp2_with fail
  go_ret
  exact ⟨rfl, HB⟩
end Go.Proofs.YtlfmgdpbjapdjaaGreatFmtBesafter
namespace Go.Proofs.YtlfmgdpbjapdjaaGreatFmtBesafter.Flt
open Ieee
def K : Nat := 4200
theorem K_eq : (K : Int) = 4200 := rfl
def sc (m : Nat) (e : Int) : Nat := m * 2 ^ (e + K).toNat
theorem sc_shift (m j : Nat) (e : Int) (he : -(K : Int) ≤ e) : sc (m * 2 ^ j) e = sc m (e + j) := by
  unfold sc
  rw [Nat.mul_assoc, ← Nat.pow_add]
  congr 2; omega
theorem odd_pow {o o' : Nat} {x y : Nat} (h : o * 2 ^ x = o' * 2 ^ y) : y ≤ x → y = x ∨ o' % 2 = 0 := by
  intro hle
  rcases Nat.lt_or_ge y x with hlt | hge
  · right
    have e : x = (x - y - 1) + 1 + y := by omega
    rw [e, Nat.pow_add, ← Nat.mul_assoc] at h
    have := Nat.eq_of_mul_eq_mul_right (Nat.two_pow_pos y) h
    rw [← this, Nat.pow_succ, ← Nat.mul_assoc]
    exact Nat.mul_mod_left _ _
  · left; omega
theorem sc_odd {o o' : Nat} {x y : Int} (ho : o % 2 = 1) (ho' : o' % 2 = 1) (hx : -(K : Int) ≤ x) (hy : -(K : Int) ≤ y) (h : sc o x = sc o' y) : o = o' ∧ x = y := by
  unfold sc at h
  have key : (x + K).toNat = (y + K).toNat := by
    rcases Nat.le_total (y + K).toNat (x + K).toNat with hl | hl
    · rcases odd_pow h hl with h1 | h1 <;> omega
    · rcases odd_pow h.symm hl with h1 | h1 <;> omega
  rw [key] at h
  exact ⟨Nat.eq_of_mul_eq_mul_right (Nat.two_pow_pos _) h, by omega⟩
theorem odd_part (m : Nat) (hm : 0 < m) : ∃ o t, m = o * 2 ^ t ∧ o % 2 = 1 := by
  induction m using Nat.strongRecOn with
  | _ m ih =>
    by_cases h : m % 2 = 1
    · exact ⟨m, 0, by simp, h⟩
    · obtain ⟨o, t, h1, h2⟩ := ih (m / 2) (by omega) (by omega)
      exact ⟨o, t + 1, by rw [Nat.pow_succ, ← Nat.mul_assoc, ← h1]; omega, h2⟩
def Rep (f : Format) (mag : Nat) (e : Int) (r : Nat) : Prop := 0 < r ∧ r < f.infRung ∧ sc mag e = sc (val f.binade r) f.leastPlace
theorem val_sc (f : Format) (hl : -(K : Int) ≤ f.leastPlace) (r : Nat) : sc (val f.binade r) f.leastPlace = sc (mg f r) (f.leastPlace + (ex f r : Nat)) := by
  rw [val_eq, sc_shift _ _ _ hl]
theorem mg_lt (f : Format) (r : Nat) : mg f r < 2 * f.binade := by
  unfold mg
  have := Nat.mod_lt r (binade_pos f)
  split <;> omega
theorem mg_pos (f : Format) {r : Nat} (h : 0 < r) : 0 < mg f r := by
  unfold mg
  have := binade_pos f
  split <;> omega
theorem Rep.odd {f : Format} (hl : -(K : Int) ≤ f.leastPlace) {o t : Nat} {e : Int} (he : -(K : Int) ≤ e) {r : Nat} (ho : o % 2 = 1) (h : Rep f (o * 2 ^ t) e r) : o < 2 * f.binade := by
  obtain ⟨h0, h1, h2⟩ := h
  obtain ⟨o', t', h3, h4⟩ := odd_part (mg f r) (mg_pos f h0)
  rw [val_sc f hl, h3, sc_shift _ _ _ he, sc_shift _ _ _ (by omega)] at h2
  obtain ⟨h5, _⟩ := sc_odd ho h4 (by omega) (by omega) h2
  have := mg_lt f r
  have : o' ≤ mg f r := by rw [h3]; exact Nat.le_mul_of_pos_right _ (Nat.two_pow_pos _)
  omega
theorem dK : -(K : Int) ≤ double.leastPlace := by rw [dplace, K_eq]; omega
end Go.Proofs.YtlfmgdpbjapdjaaGreatFmtBesafter.Flt
namespace Go.Proofs.YtlfmgdpbjapdjaaGreatFmtBesafter.Flt
open Ieee Go.RowKit
end Go.Proofs.YtlfmgdpbjapdjaaGreatFmtBesafter.Flt
namespace Go.Proofs.YtlfmgdpbjapdjaaGreatFmtBesafter
open Go.RowKit Go.Proofs.YtlfmgdpbjapdjaaGreatFmtBesafterW.PrintWords
end Go.Proofs.YtlfmgdpbjapdjaaGreatFmtBesafter
namespace Go.Proofs.YtlfmgdpbjapdjaaGreatFmtBesafter
open Go.RowKit
namespace Flt
open Ieee
theorem Rep.wide {mag : Nat} {E : Int} {r : Nat} (h : Rep single mag E r) : ∃ R, Rep double mag E R ∧ val double.binade R = val single.binade r * 2 ^ gapW := by
  obtain ⟨p, q, k⟩ := h
  have hs : r % single.signWeight = r := Nat.mod_eq_of_lt (Nat.lt_trans q ok_single.2.2)
  obtain ⟨R, h1, h2, h3⟩ := wide_fin r (by rw [hs]; exact q)
  rw [hs] at h2
  refine ⟨R, ⟨?_, h1, ?_⟩, h2⟩
  · rcases Nat.eq_zero_or_pos R with h0 | h0
    · exfalso
      rw [h0] at h2
      have z : val double.binade 0 = 0 := by unfold val; rw [if_pos (binade_pos double)]
      have hv : 1 ≤ val single.binade r := by
        have := val_lt_of_lt (binade_pos single) p
        omega
      have := Nat.mul_le_mul_right (2 ^ gapW) hv
      have := Nat.two_pow_pos gapW
      omega
    · exact h0
  · rw [k, h2, sc_shift _ _ _ dK, dplace, splace]
    have := gapW_eq
    congr 1
end Flt
namespace Flt
open Ieee
def rung64 (b : Int) : Nat := (b % 9223372036854775808).toNat
theorem parts64_rung (b : Int) (hb : I64 b) (h : fin b 64 = true) : rung64 b < double.infRung ∧ mag64 b = (mg double (rung64 b) : Int) ∧ exp64 b = double.leastPlace + (ex double (rung64 b) : Int) := by
  have hc : cls64 b ≤ 2 := by
    unfold fin cls at h
    simpa using h
  obtain ⟨l0, l1⟩ := hb
  unfold rung64 mag64 exp64 mg ex
  rw [dfields.2.1, dfields.2.2, dplace]
  unfold cls64 at hc
  by_cases c : b / 4503599627370496 % 2048 = 2047
  · rw [if_pos c] at hc; split at hc <;> omega
  · by_cases z : b / 4503599627370496 % 2048 = 0
    · rw [if_pos z, if_pos z, if_pos (by omega)]
      refine ⟨by omega, by omega, by omega⟩
    · rw [if_neg z, if_neg z, if_neg (by omega)]
      refine ⟨by omega, by omega, by omega⟩
end Flt
namespace Flt
open Ieee
def rung32 (b : Int) : Nat := (b % 2147483648).toNat
theorem parts32_rung (b : Int) (hb : valid32 b = true) (h : fin b 32 = true) : rung32 b < single.infRung ∧ mag32 b = (mg single (rung32 b) : Int) ∧ exp32 b = single.leastPlace + (ex single (rung32 b) : Int) := by
  have hc : cls32 b ≤ 2 := by
    unfold fin cls at h
    simpa using h
  obtain ⟨l0, l1⟩ := valid_bounds hb
  unfold rung32 mag32 exp32 mg ex
  rw [sfields.2.1, sfields.2.2, splace]
  unfold cls32 at hc
  rw [if_pos hb] at hc
  by_cases c : b / 8388608 % 256 = 255
  · rw [if_pos c] at hc; split at hc <;> omega
  · by_cases z : b / 8388608 % 256 = 0
    · rw [if_pos z, if_pos z, if_pos (by omega)]
      refine ⟨by omega, by omega, by omega⟩
    · rw [if_neg z, if_neg z, if_neg (by omega)]
      refine ⟨by omega, by omega, by omega⟩
end Flt
end Go.Proofs.YtlfmgdpbjapdjaaGreatFmtBesafter
namespace Go.Proofs.YtlfmgdpbjapdjaaGreatFmtBesafter
open Go.RowKit
namespace Flt
open Ieee
end Flt
end Go.Proofs.YtlfmgdpbjapdjaaGreatFmtBesafter
