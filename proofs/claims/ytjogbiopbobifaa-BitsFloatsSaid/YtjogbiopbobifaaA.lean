/- Walks of the small functions on floats: bits in and out, the neighbour. -/
import Derived.Test.YtjogbiopbobifaaRows
import Derived.WalkKit
import Derived.WalkSpells
import Derived.WalkLawsBesides
namespace Go.Proofs.Ytjogbiopbobifaa
open Go.RowKit

@[go_sem] theorem Try.frombits64 (n : Int) (w : World) : (callFunc 50 #[.int .u64 n]).run Try.prog w = .ok (.value (.float .f64 n.toNat)) w := by
  rw [run_callFunc_extern (e := Extern.MathFloatBits.float64frombits) Try.func50 (by kernel_rfl) (by kernel_rfl) (by kernel_rfl) (by kernel_rfl)]
  rfl
@[go_sem] theorem Try.frombits32 (n : Int) (w : World) : (callFunc 51 #[.int .u32 n]).run Try.prog w = .ok (.value (.float .f32 n.toNat)) w := by
  rw [run_callFunc_extern (e := Extern.MathFloatBits.float32frombits) Try.func51 (by kernel_rfl) (by kernel_rfl) (by kernel_rfl) (by kernel_rfl)]
  rfl
@[go_sem] theorem Try.bits64 (n : Nat) (w : World) : (callFunc 52 #[.float .f64 n]).run Try.prog w = .ok (.value (.int .u64 n)) w := by
  rw [run_callFunc_extern (e := Extern.MathFloatBits.float64bits) Try.func52 (by kernel_rfl) (by kernel_rfl) (by kernel_rfl) (by kernel_rfl)]
  rfl
@[go_sem] theorem Try.bits32 (n : Nat) (w : World) : (callFunc 53 #[.float .f32 n]).run Try.prog w = .ok (.value (.int .u32 n)) w := by
  rw [run_callFunc_extern (e := Extern.MathFloatBits.float32bits) Try.func53 (by kernel_rfl) (by kernel_rfl) (by kernel_rfl) (by kernel_rfl)]
  rfl

set_option maxRecDepth 100000 in
set_option maxHeartbeats 400000 in
theorem float_any (b : Int) (w : World) :
    Calls Try.prog 16 #[.int .i64 b] w fun e w' => e = .returned (.float .f64 (IntKind.u64.wrap b).toNat) ∧ w = w' := by
  go_enter Try.func16, Try.ntmps16
  go_wp2
  go_ret
  exact ⟨rfl, rfl⟩

set_option maxRecDepth 100000 in
set_option maxHeartbeats 400000 in
theorem of_num (n : Nat) (w : World) (h : (FloatKind.f64.format.order n n != some .eq) = false) :
    Calls Try.prog 19 #[.float .f64 n] w fun e w' => e = .returned (.int .i64 (wrap64 n)) ∧ w = w' := by
  go_enter Try.func19, Try.ntmps19
  go_wp2
  go_ret
  exact ⟨rfl, rfl⟩
set_option maxRecDepth 100000 in
set_option maxHeartbeats 400000 in
theorem of_nan (n : Nat) (w : World) (h : (FloatKind.f64.format.order n n != some .eq) = true) :
    Calls Try.prog 19 #[.float .f64 n] w fun e w' => e = .returned (.int .i64 9221120237041090561) ∧ w = w' := by
  go_enter Try.func19, Try.ntmps19
  go_wp2
  go_ret
  exact ⟨rfl, rfl⟩

/-! Nextafter, at +inf -/
set_option maxRecDepth 100000 in
set_option maxHeartbeats 400000 in
theorem nextafter_nan (x y : Nat) (w : World) (h : (FloatKind.f64.format.order x x != some .eq) = true) :
    Calls Try.prog 65 #[.float .f64 x, .float .f64 y] w fun e w' => e = .returned (.float .f64 9221120237041090561) ∧ w = w' := by
  go_enter Try.func65, Try.ntmps65
  go_wp2
  go_ret
  exact ⟨rfl, rfl⟩
set_option maxRecDepth 100000 in
set_option maxHeartbeats 400000 in
theorem nextafter_same (x y : Nat) (w : World) (h : (FloatKind.f64.format.order x x != some .eq) = false) (h0 : (FloatKind.f64.format.order y y != some .eq) = false) (h1 : (FloatKind.f64.format.order x y == some .eq) = true) :
    Calls Try.prog 65 #[.float .f64 x, .float .f64 y] w fun e w' => e = .returned (.float .f64 x) ∧ w = w' := by
  go_enter Try.func65, Try.ntmps65
  go_wp2
  go_ret
  exact ⟨rfl, rfl⟩
set_option maxRecDepth 100000 in
set_option maxHeartbeats 400000 in
theorem nextafter_up (x y : Nat) (w : World) (h : (FloatKind.f64.format.order x x != some .eq) = false) (h0 : (FloatKind.f64.format.order y y != some .eq) = false) (h1 : (FloatKind.f64.format.order x y == some .eq) = false)
    (h2 : (FloatKind.f64.format.order x 0 == some .eq) = false) (h3 : (FloatKind.f64.format.order y x == some .gt) = true) (h4 : (FloatKind.f64.format.order x 0 == some .gt) = true) :
    Calls Try.prog 65 #[.float .f64 x, .float .f64 y] w fun e w' => e = .returned (.float .f64 (IntKind.u64.wrap (x + 1)).toNat) ∧ w = w' := by
  go_enter Try.func65, Try.ntmps65
  go_wp2
  go_ret
  exact ⟨rfl, rfl⟩
set_option maxRecDepth 100000 in
set_option maxHeartbeats 400000 in
theorem nextafter_down (x y : Nat) (w : World) (h : (FloatKind.f64.format.order x x != some .eq) = false) (h0 : (FloatKind.f64.format.order y y != some .eq) = false) (h1 : (FloatKind.f64.format.order x y == some .eq) = false)
    (h2 : (FloatKind.f64.format.order x 0 == some .eq) = false) (h3 : (FloatKind.f64.format.order y x == some .gt) = true) (h4 : (FloatKind.f64.format.order x 0 == some .gt) = false) :
    Calls Try.prog 65 #[.float .f64 x, .float .f64 y] w fun e w' => e = .returned (.float .f64 (IntKind.u64.wrap (x - 1)).toNat) ∧ w = w' := by
  go_enter Try.func65, Try.ntmps65
  go_wp2
  go_ret
  exact ⟨rfl, rfl⟩
set_option maxRecDepth 100000 in
set_option maxHeartbeats 400000 in
theorem nextafter_zero (x : Nat) (w : World) (h : (FloatKind.f64.format.order x x != some .eq) = false) (h1 : (FloatKind.f64.format.order x 9218868437227405312 == some .eq) = false)
    (h2 : (FloatKind.f64.format.order x 0 == some .eq) = true) :
    Calls Try.prog 65 #[.float .f64 x, .float .f64 9218868437227405312] w fun e w' => e = .returned (.float .f64 1) ∧ w = w' := by
  have h0 : (FloatKind.f64.format.order 9218868437227405312 9218868437227405312 != some .eq) = false := by kernel_rfl
  go_enter Try.func65, Try.ntmps65
  go_wp2
  go_ret
  exact ⟨rfl, rfl⟩
end Go.Proofs.Ytjogbiopbobifaa
