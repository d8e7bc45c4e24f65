/- Walks of the neighbour of a binary64 and of a binary32. -/
import Derived.Test.YtjogbiopbobifaaA2
import Derived.Laws.FloatArith
namespace Go.Proofs.Ytjogbiopbobifaa
open Go.RowKit

set_option maxRecDepth 100000 in
set_option maxHeartbeats 400000 in
theorem inf_any (w : World) :
    Calls Try.prog 66 #[.int .i64 1] w fun e w' => e = .returned (.float .f64 9218868437227405312) ∧ w = w' := by
  go_enter Try.func66, Try.ntmps66
  go_wp2
  go_ret
  exact ⟨rfl, rfl⟩
theorem float_w64 (b : Int) (w : World) :
    Calls Try.prog 16 #[.int .i64 b] w fun e w' => e = .returned (.float .f64 (Flt.w64 b)) ∧ w = w' := by
  refine (float_any b w).mono ?_
  rintro e w' ⟨he, hw⟩
  refine ⟨?_, hw⟩
  rw [he, IntKind.wrap_u64]; rfl

set_option maxRecDepth 100000 in
set_option maxHeartbeats 400000 in
theorem next64_of (b : Int) (x r : Nat) (hx : Hid (Flt.w64 b = x)) (hr : Hid (r < 18446744073709551616)) (w : World)
    (hna : Hid (∀ w : World, Calls Try.prog 65 #[.float .f64 x, .float .f64 9218868437227405312] w fun e w' => e = .returned (.float .f64 r) ∧ w = w')) :
    Calls Try.prog 29 #[.int .i64 b, .int .i64 64] w fun e w' => e = .returned (.int .i64 (told64 r)) ∧ w = w' := by
  go_enter Try.func29, Try.ntmps29
  go_wp2_with (first | (go_at_call 16; (with_reducible refine (float_w64 _ _).mono ?_); rintro e w1 ⟨rfl, rfl⟩; rw [hx.out]) | (go_at_call 66; (with_reducible refine (inf_any _).mono ?_); rintro e w1 ⟨rfl, rfl⟩) | (go_at_call 65; (refine (hna.out _).mono ?_); rintro e w1 ⟨rfl, rfl⟩) | (go_at_call 19; (with_reducible refine (of_any _ _ hr.out).mono ?_); rintro e w1 ⟨rfl, rfl⟩))
  go_ret
  exact ⟨rfl, rfl⟩

theorem nextafter_zero' (x : Nat) (w : World) (h : (FloatKind.f64.format.order x x != some .eq) = false) (h1 : (FloatKind.f64.format.order x 9218868437227405312 == some .eq) = false)
    (h2 : (FloatKind.f64.format.order x 0 == some .eq) = true) :
    Calls Try.prog 65 #[.float .f64 x, .float .f64 9218868437227405312] w fun e w' => e = .returned (.float .f64 1) ∧ w = w' := nextafter_zero x w h h1 h2
end Go.Proofs.Ytjogbiopbobifaa
