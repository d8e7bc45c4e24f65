/- Walks: a binary32's neighbour. -/
import Derived.Test.YtjogbiopbobifaaA4
namespace Go.Proofs.Ytjogbiopbobifaa
open Go.RowKit

theorem conv_inf (w : World) : (convert 24 26 (.float .f64 9218868437227405312)).run Try.prog w = .ok (.float .f32 2139095040) w := by kernel_rfl
theorem conv_least (w : World) : (convert 24 26 (.float .f64 3936146074321813504)).run Try.prog w = .ok (.float .f32 1) w := by kernel_rfl
theorem wide_inf32 : Flt.wide 2139095040 = 9218868437227405312 := by kernel_rfl
theorem wide_least32 : Flt.wide 1 = 3936146074321813504 := by kernel_rfl
theorem conv32_inf (w : World) : (convert 26 24 (.float .f32 2139095040)).run Try.prog w = .ok (.float .f64 9218868437227405312) w := by
  rw [f32to64 2139095040 (by decide) w, wide_inf32]
theorem conv32_least (w : World) : (convert 26 24 (.float .f32 1)).run Try.prog w = .ok (.float .f64 3936146074321813504) w := by
  rw [f32to64 1 (by decide) w, wide_least32]

section
variable (x r : Nat) (w : World) (hr : ∀ w, (convert 26 24 (.float .f32 x)).run Try.prog w = .ok (.float .f64 r) w) (h : (FloatKind.f64.format.order r r != some .eq) = false)
include hr h
set_option maxRecDepth 100000 in
set_option maxHeartbeats 400000 in
theorem next32_same (h1 : (FloatKind.f32.format.order x 2139095040 == some .eq) = true) :
    Calls Try.prog 67 #[.float .f32 x, .float .f32 2139095040] w fun e w' => e = .returned (.float .f32 x) ∧ w = w' := by
  have h0 : (FloatKind.f64.format.order 9218868437227405312 9218868437227405312 != some .eq) = false := by kernel_rfl
  have hi := conv32_inf
  go_enter Try.func67, Try.ntmps67
  go_wp2
  go_ret
  exact ⟨rfl, rfl⟩
set_option maxRecDepth 100000 in
set_option maxHeartbeats 400000 in
theorem next32_up (h1 : (FloatKind.f32.format.order x 2139095040 == some .eq) = false)
    (h2 : (FloatKind.f32.format.order x 0 == some .eq) = false) (h3 : (FloatKind.f32.format.order 2139095040 x == some .gt) = true) (h4 : (FloatKind.f32.format.order x 0 == some .gt) = true) :
    Calls Try.prog 67 #[.float .f32 x, .float .f32 2139095040] w fun e w' => e = .returned (.float .f32 (IntKind.u32.wrap (x + 1)).toNat) ∧ w = w' := by
  have h0 : (FloatKind.f64.format.order 9218868437227405312 9218868437227405312 != some .eq) = false := by kernel_rfl
  have hi := conv32_inf
  go_enter Try.func67, Try.ntmps67
  go_wp2
  go_ret
  exact ⟨rfl, rfl⟩
set_option maxRecDepth 100000 in
set_option maxHeartbeats 400000 in
theorem next32_down (h1 : (FloatKind.f32.format.order x 2139095040 == some .eq) = false)
    (h2 : (FloatKind.f32.format.order x 0 == some .eq) = false) (h3 : (FloatKind.f32.format.order 2139095040 x == some .gt) = true) (h4 : (FloatKind.f32.format.order x 0 == some .gt) = false) :
    Calls Try.prog 67 #[.float .f32 x, .float .f32 2139095040] w fun e w' => e = .returned (.float .f32 (IntKind.u32.wrap (x - 1)).toNat) ∧ w = w' := by
  have h0 : (FloatKind.f64.format.order 9218868437227405312 9218868437227405312 != some .eq) = false := by kernel_rfl
  have hi := conv32_inf
  go_enter Try.func67, Try.ntmps67
  go_wp2
  go_ret
  exact ⟨rfl, rfl⟩
set_option maxRecDepth 100000 in
set_option maxHeartbeats 400000 in
theorem next32_zero (h1 : (FloatKind.f32.format.order x 2139095040 == some .eq) = false)
    (h2 : (FloatKind.f32.format.order x 0 == some .eq) = true) :
    Calls Try.prog 67 #[.float .f32 x, .float .f32 2139095040] w fun e w' => e = .returned (.float .f32 1) ∧ w = w' := by
  have h0 : (FloatKind.f64.format.order 9218868437227405312 9218868437227405312 != some .eq) = false := by kernel_rfl
  have hi := conv32_inf
  have hl := conv32_least
  have hc := conv_least
  have hcs : ∀ w : World, Calls Try.prog 93 #[.float .f64 3936146074321813504, .float .f64 9218868437227405312] w fun e w' => e = .returned (.float .f64 3936146074321813504) ∧ w = w' := by
    intro w
    clear hr h h1 h2 hi hl hc
    go_enter Try.func93, Try.ntmps93
    go_wp2
    go_ret
    exact ⟨rfl, rfl⟩
  have HCS := Lib.hid hcs
  clear hcs
  go_enter Try.func67, Try.ntmps67
  go_wp2_with (first | (go_at_call 93; (with_reducible refine (HCS.out _).mono ?_); rintro e w1 ⟨rfl, rfl⟩) | (go_at_call 99; go_in))
  go_ret
  exact ⟨rfl, rfl⟩
end
set_option maxRecDepth 100000 in
set_option maxHeartbeats 400000 in
theorem next32_nan (x r y s : Nat) (w : World) (hr : (convert 26 24 (.float .f32 x)).run Try.prog w = .ok (.float .f64 r) w.drew) (h : (FloatKind.f64.format.order r r != some .eq) = true)
    (hs : (convert 24 26 (.float .f64 9221120237041090561)).run Try.prog w.drew = .ok (.float .f32 s) w.drew.drew) :
    Calls Try.prog 67 #[.float .f32 x, .float .f32 y] w fun e w' => e = .returned (.float .f32 s) ∧ w.drew.drew = w' := by
  go_enter Try.func67, Try.ntmps67
  go_wp2
  go_ret
  exact ⟨rfl, rfl⟩
end Go.Proofs.Ytjogbiopbobifaa
