/- Walks: the single operations of both widths. -/
import Derived.Test.YtjogbiopbobifaaA7
namespace Go.Proofs.Ytjogbiopbobifaa
open Go.RowKit


/-! Add -/
set_option maxRecDepth 100000 in
set_option maxHeartbeats 400000 in
theorem sum64_num (x y r : Nat) (w : World) (h : floatBits .add .f64 x y = some r) :
    Calls Try.prog 79 #[.float .f64 x, .float .f64 y] w fun e w' => e = .returned (.float .f64 r) ∧ w = w' := by
  have hadd := fun (w : World) (t : TypeId) => run_float_arith (P := Try.prog) w .add t .f64 x y r h
  clear h
  go_enter Try.func79, Try.ntmps79
  go_wp2
  go_ret
  exact ⟨rfl, rfl⟩
set_option maxRecDepth 100000 in
set_option maxHeartbeats 400000 in
theorem sum32_num (x y r : Nat) (w : World) (h : floatBits .add .f32 x y = some r) :
    Calls Try.prog 80 #[.float .f32 x, .float .f32 y] w fun e w' => e = .returned (.float .f32 r) ∧ w = w' := by
  have hadd := fun (w : World) (t : TypeId) => run_float_arith (P := Try.prog) w .add t .f32 x y r h
  clear h
  go_enter Try.func80, Try.ntmps80
  go_wp2
  go_ret
  exact ⟨rfl, rfl⟩
set_option maxRecDepth 100000 in
set_option maxHeartbeats 400000 in
theorem sum64_of (a b : Int) (r : Nat) (w w2 : World) (hr : Hid (r < 18446744073709551616))
    (hop : Hid (Calls Try.prog 79 #[.float .f64 (Flt.w64 a), .float .f64 (Flt.w64 b)] w fun e w' => e = .returned (.float .f64 r) ∧ w2 = w')) :
    Calls Try.prog 36 #[.int .i64 a, .int .i64 b, .int .i64 64] w fun e w' => e = .returned (.int .i64 (told64 r)) ∧ w2 = w' := by
  go_enter Try.func36, Try.ntmps36
  go_wp2_with (first | (go_at_call 78; go_in) | (go_at_call 16; (with_reducible refine (float_w64 _ _).mono ?_); rintro e w1 ⟨rfl, rfl⟩) | (go_at_call 79; (refine hop.out.mono ?_); rintro e w1 ⟨rfl, rfl⟩) | (go_at_call 19; (with_reducible refine (of_any _ _ hr.out).mono ?_); rintro e w1 ⟨rfl, rfl⟩))
  go_ret
  exact ⟨rfl, rfl⟩
set_option maxRecDepth 100000 in
set_option maxHeartbeats 400000 in
theorem sum32_of (a b : Int) (r : Nat) (w w2 : World) (hr : Hid (r < 4294967296))
    (hop : Hid (Calls Try.prog 80 #[.float .f32 (Flt.w32 a), .float .f32 (Flt.w32 b)] w fun e w' => e = .returned (.float .f32 r) ∧ w2 = w')) :
    Calls Try.prog 36 #[.int .i64 a, .int .i64 b, .int .i64 32] w fun e w' => e = .returned (.int .i64 (told32 r)) ∧ w2 = w' := by
  go_enter Try.func36, Try.ntmps36
  go_wp2_with (first | (go_at_call 78; go_in) | (go_at_call 17; (with_reducible refine (float32_any _ _).mono ?_); rintro e w1 ⟨rfl, rfl⟩) | (go_at_call 80; (refine hop.out.mono ?_); rintro e w1 ⟨rfl, rfl⟩) | (go_at_call 20; (with_reducible refine (of32_any _ _ hr.out).mono ?_); rintro e w1 ⟨rfl, rfl⟩))
  go_ret
  exact ⟨rfl, rfl⟩

theorem add_one64 : Tells 36 #[.int .i64 4607182418800017408, .int .i64 4607182418800017408, .int .i64 64] (.int .i64 4611686018427387904) := by
  refine tells_of fun w => ?_
  have e : (4611686018427387904 : Int) = told64 4611686018427387904 := by decide
  rw [e]
  refine sum64_of _ _ 4611686018427387904 w w (Lib.hid (by decide)) (Lib.hid (sum64_num _ _ _ w ?_))
  decide +kernel
theorem add_one32 : Tells 36 #[.int .i64 1065353216, .int .i64 1065353216, .int .i64 32] (.int .i64 1073741824) := by
  refine tells_of fun w => ?_
  have e : (1073741824 : Int) = told32 1073741824 := by decide
  rw [e]
  refine sum32_of _ _ 1073741824 w w (Lib.hid (by decide)) (Lib.hid (sum32_num _ _ _ w ?_))
  decide +kernel
end Go.Proofs.Ytjogbiopbobifaa
