/- BitsWidths: of a width that is none each call answers zeros. -/
import Derived.Test.YtpdodboldicibaaGreatFmtWalkB
namespace Go.Proofs.YtpdodboldicibaaGreatFmt
open Go.RowKit Go.Proofs.YtpdodboldicibaaGreatFmtW.PrintWords


set_option maxRecDepth 100000 in
set_option maxHeartbeats 1000000 in
set_option linter.unusedVariables false in
set_option linter.unusedSimpArgs false in
theorem join_no (neg : Bool) (mag exp v : Int) (hf : Hid (F.bits_of.f v = some (0, 0, 0, 0, false))) : Tells 5 #[.bool neg, .int .i64 mag, .int .i64 exp, .int .i64 v] (.tuple #[.int .i64 0, .bool false]) := by
  intro w
  go_enter Tryz.func5, Tryz.ntmps5
  go_wp2_with fail
  refine (F.bits_of.calls v 0 0 0 0 false _ hf.out).mono ?_
  rintro e w1 ⟨rfl, hb1⟩
  go_wp2_with fail
  go_ret2
  exact ⟨rfl, hb1.alloc hb1.size _⟩
set_option maxRecDepth 100000 in
set_option maxHeartbeats 1000000 in
set_option linter.unusedVariables false in
set_option linter.unusedSimpArgs false in
theorem valid_no (b v : Int) (h64 : (v == 64) = false) (h32 : (v == 32) = false) : Tells 7 #[.int .i64 b, .int .i64 v] (.bool false) := by
  refine tells_of fun w => ?_
  have n64 : (v != 64) = true := by simpa [bne] using h64
  have n32 : (v != 32) = true := by simpa [bne] using h32
  go_enter Tryz.func7, Tryz.ntmps7
  go_wp2
  go_ret
  exact ⟨rfl, rfl⟩
set_option maxRecDepth 100000 in
set_option maxHeartbeats 1000000 in
set_option linter.unusedVariables false in
set_option linter.unusedSimpArgs false in
theorem less_no (a b v : Int) (h64 : (v == 64) = false) (h32 : (v == 32) = false) : Tells 8 #[.int .i64 a, .int .i64 b, .int .i64 v] (.bool false) := by
  refine tells_of fun w => ?_
  have n64 : (v != 64) = true := by simpa [bne] using h64
  have n32 : (v != 32) = true := by simpa [bne] using h32
  go_enter Tryz.func8, Tryz.ntmps8
  go_wp2_with (first | (go_at_call 34; go_in))
  go_ret
  exact ⟨rfl, rfl⟩
set_option maxRecDepth 100000 in
set_option maxHeartbeats 1000000 in
set_option linter.unusedVariables false in
set_option linter.unusedSimpArgs false in
theorem same_no (a b v : Int) (h64 : (v == 64) = false) (h32 : (v == 32) = false) : Tells 9 #[.int .i64 a, .int .i64 b, .int .i64 v] (.bool false) := by
  refine tells_of fun w => ?_
  have n64 : (v != 64) = true := by simpa [bne] using h64
  have n32 : (v != 32) = true := by simpa [bne] using h32
  go_enter Tryz.func9, Tryz.ntmps9
  go_wp2_with (first | (go_at_call 34; go_in))
  go_ret
  exact ⟨rfl, rfl⟩
set_option maxRecDepth 100000 in
set_option maxHeartbeats 1000000 in
set_option linter.unusedVariables false in
set_option linter.unusedSimpArgs false in
theorem order_no (a b v : Int) (h64 : (v == 64) = false) (h32 : (v == 32) = false) : Tells 16 #[.int .i64 a, .int .i64 b, .int .i64 v] (.int .i64 0) := by
  refine tells_of fun w => ?_
  have n64 : (v != 64) = true := by simpa [bne] using h64
  have n32 : (v != 32) = true := by simpa [bne] using h32
  go_enter Tryz.func16, Tryz.ntmps16
  go_wp2_with (first | (go_at_call 34; go_in))
  go_ret
  exact ⟨rfl, rfl⟩
set_option maxRecDepth 100000 in
set_option maxHeartbeats 1000000 in
set_option linter.unusedVariables false in
set_option linter.unusedSimpArgs false in
theorem min_no (a b v : Int) (h64 : (v == 64) = false) (h32 : (v == 32) = false) : Tells 23 #[.int .i64 a, .int .i64 b, .int .i64 v] (.int .i64 0) := by
  refine tells_of fun w => ?_
  have n64 : (v != 64) = true := by simpa [bne] using h64
  have n32 : (v != 32) = true := by simpa [bne] using h32
  go_enter Tryz.func23, Tryz.ntmps23
  go_wp2_with (first | (go_at_call 65; go_in))
  go_ret
  exact ⟨rfl, rfl⟩
set_option maxRecDepth 100000 in
set_option maxHeartbeats 1000000 in
set_option linter.unusedVariables false in
set_option linter.unusedSimpArgs false in
theorem max_no (a b v : Int) (h64 : (v == 64) = false) (h32 : (v == 32) = false) : Tells 24 #[.int .i64 a, .int .i64 b, .int .i64 v] (.int .i64 0) := by
  refine tells_of fun w => ?_
  have n64 : (v != 64) = true := by simpa [bne] using h64
  have n32 : (v != 32) = true := by simpa [bne] using h32
  go_enter Tryz.func24, Tryz.ntmps24
  go_wp2_with (first | (go_at_call 65; go_in))
  go_ret
  exact ⟨rfl, rfl⟩
set_option maxRecDepth 100000 in
set_option maxHeartbeats 1000000 in
set_option linter.unusedVariables false in
set_option linter.unusedSimpArgs false in
theorem canon_no (b v : Int) (h64 : (v == 64) = false) (h32 : (v == 32) = false) : Tells 15 #[.int .i64 b, .int .i64 v] (.int .i64 0) := by
  refine tells_of fun w => ?_
  have n64 : (v != 64) = true := by simpa [bne] using h64
  have n32 : (v != 32) = true := by simpa [bne] using h32
  go_enter Tryz.func15, Tryz.ntmps15
  go_wp2
  go_ret
  exact ⟨rfl, rfl⟩
set_option maxRecDepth 100000 in
set_option maxHeartbeats 1000000 in
set_option linter.unusedVariables false in
set_option linter.unusedSimpArgs false in
theorem add_no (a b v : Int) (h64 : (v == 64) = false) (h32 : (v == 32) = false) : Tells 17 #[.int .i64 a, .int .i64 b, .int .i64 v] (.int .i64 0) := by
  refine tells_of fun w => ?_
  have n64 : (v != 64) = true := by simpa [bne] using h64
  have n32 : (v != 32) = true := by simpa [bne] using h32
  go_enter Tryz.func17, Tryz.ntmps17
  go_wp2_with (first | (go_at_call 43; go_in))
  go_ret
  exact ⟨rfl, rfl⟩
set_option maxRecDepth 100000 in
set_option maxHeartbeats 1000000 in
set_option linter.unusedVariables false in
set_option linter.unusedSimpArgs false in
theorem sub_no (a b v : Int) (h64 : (v == 64) = false) (h32 : (v == 32) = false) : Tells 18 #[.int .i64 a, .int .i64 b, .int .i64 v] (.int .i64 0) := by
  refine tells_of fun w => ?_
  have n64 : (v != 64) = true := by simpa [bne] using h64
  have n32 : (v != 32) = true := by simpa [bne] using h32
  go_enter Tryz.func18, Tryz.ntmps18
  go_wp2_with (first | (go_at_call 43; go_in))
  go_ret
  exact ⟨rfl, rfl⟩
set_option maxRecDepth 100000 in
set_option maxHeartbeats 1000000 in
set_option linter.unusedVariables false in
set_option linter.unusedSimpArgs false in
theorem mul_no (a b v : Int) (h64 : (v == 64) = false) (h32 : (v == 32) = false) : Tells 19 #[.int .i64 a, .int .i64 b, .int .i64 v] (.int .i64 0) := by
  refine tells_of fun w => ?_
  have n64 : (v != 64) = true := by simpa [bne] using h64
  have n32 : (v != 32) = true := by simpa [bne] using h32
  go_enter Tryz.func19, Tryz.ntmps19
  go_wp2_with (first | (go_at_call 43; go_in))
  go_ret
  exact ⟨rfl, rfl⟩
set_option maxRecDepth 100000 in
set_option maxHeartbeats 1000000 in
set_option linter.unusedVariables false in
set_option linter.unusedSimpArgs false in
theorem div_no (a b v : Int) (h64 : (v == 64) = false) (h32 : (v == 32) = false) : Tells 20 #[.int .i64 a, .int .i64 b, .int .i64 v] (.int .i64 0) := by
  refine tells_of fun w => ?_
  have n64 : (v != 64) = true := by simpa [bne] using h64
  have n32 : (v != 32) = true := by simpa [bne] using h32
  go_enter Tryz.func20, Tryz.ntmps20
  go_wp2_with (first | (go_at_call 43; go_in))
  go_ret
  exact ⟨rfl, rfl⟩
set_option maxRecDepth 100000 in
set_option maxHeartbeats 1000000 in
set_option linter.unusedVariables false in
set_option linter.unusedSimpArgs false in
theorem sqrt_no (a v : Int) (h64 : (v == 64) = false) (h32 : (v == 32) = false) : Tells 21 #[.int .i64 a, .int .i64 v] (.int .i64 0) := by
  refine tells_of fun w => ?_
  have n64 : (v != 64) = true := by simpa [bne] using h64
  have n32 : (v != 32) = true := by simpa [bne] using h32
  go_enter Tryz.func21, Tryz.ntmps21
  go_wp2_with (first | (go_at_call 43; go_in))
  go_ret
  exact ⟨rfl, rfl⟩
set_option maxRecDepth 100000 in
set_option maxHeartbeats 1000000 in
set_option linter.unusedVariables false in
set_option linter.unusedSimpArgs false in
theorem fromInt_no (a v : Int) (h64 : (v == 64) = false) (h32 : (v == 32) = false) : Tells 26 #[.int .i64 a, .int .i64 v] (.int .i64 0) := by
  refine tells_of fun w => ?_
  have n64 : (v != 64) = true := by simpa [bne] using h64
  have n32 : (v != 32) = true := by simpa [bne] using h32
  go_enter Tryz.func26, Tryz.ntmps26
  go_wp2
  go_ret
  exact ⟨rfl, rfl⟩
set_option maxRecDepth 100000 in
set_option maxHeartbeats 1000000 in
set_option linter.unusedVariables false in
set_option linter.unusedSimpArgs false in
theorem fma_no (a b c v : Int) (h64 : (v == 64) = false) (h32 : (v == 32) = false) : Tells 22 #[.int .i64 a, .int .i64 b, .int .i64 c, .int .i64 v] (.int .i64 0) := by
  intro w
  have HB : Below w.heap.size w w := Below.refl _ _
  have n64 : (v != 64) = true := by simpa [bne] using h64
  have n32 : (v != 32) = true := by simpa [bne] using h32
  go_enter Tryz.func22, Tryz.ntmps22
  go_wp2
  go_ret
  exact ⟨rfl, HB.alloc HB.size _⟩
set_option maxRecDepth 100000 in
set_option maxHeartbeats 1000000 in
set_option linter.unusedVariables false in
set_option linter.unusedSimpArgs false in
theorem convert_from_no (a v : Int) (h64 : (v == 64) = false) (h32 : (v == 32) = false) : Tells 25 #[.int .i64 a, .int .i64 v, .int .i64 64] (.int .i64 0) := by
  refine tells_of fun w => ?_
  have n64 : (v != 64) = true := by simpa [bne] using h64
  have n32 : (v != 32) = true := by simpa [bne] using h32
  go_enter Tryz.func25, Tryz.ntmps25
  go_wp2_with (first | (go_at_call 34; go_in))
  go_ret
  exact ⟨rfl, rfl⟩
set_option maxRecDepth 100000 in
set_option maxHeartbeats 1000000 in
set_option linter.unusedVariables false in
set_option linter.unusedSimpArgs false in
theorem convert_to_no (a v : Int) (h64 : (v == 64) = false) (h32 : (v == 32) = false) : Tells 25 #[.int .i64 a, .int .i64 64, .int .i64 v] (.int .i64 0) := by
  refine tells_of fun w => ?_
  go_enter Tryz.func25, Tryz.ntmps25
  go_wp2_with (first | (go_at_call 34; go_in) | (go_at_call 37; (with_reducible refine (float_any _ _).mono ?_); rintro e w1 ⟨rfl, rfl⟩))
  go_ret
  exact ⟨rfl, rfl⟩
set_option maxRecDepth 100000 in
set_option maxHeartbeats 1000000 in
set_option linter.unusedVariables false in
set_option linter.unusedSimpArgs false in
theorem neg_no (b v : Int) (hf : Hid (F.bits_of.f v = some (0, 0, 0, 0, false))) : Tells 13 #[.int .i64 b, .int .i64 v] (.int .i64 0) := by
  intro w
  go_enter Tryz.func13, Tryz.ntmps13
  go_wp2_with fail
  refine (F.bits_of.calls v 0 0 0 0 false _ hf.out).mono ?_
  rintro e w1 ⟨rfl, hb1⟩
  go_wp2_with fail
  go_ret
  exact ⟨rfl, hb1.alloc hb1.size _⟩
set_option maxRecDepth 100000 in
set_option maxHeartbeats 1000000 in
set_option linter.unusedVariables false in
set_option linter.unusedSimpArgs false in
theorem abs_no (b v : Int) (hf : Hid (F.bits_of.f v = some (0, 0, 0, 0, false))) : Tells 14 #[.int .i64 b, .int .i64 v] (.int .i64 0) := by
  intro w
  go_enter Tryz.func14, Tryz.ntmps14
  go_wp2_with fail
  refine (F.bits_of.calls v 0 0 0 0 false _ hf.out).mono ?_
  rintro e w1 ⟨rfl, hb1⟩
  go_wp2_with fail
  go_ret
  exact ⟨rfl, hb1.alloc hb1.size _⟩
set_option maxRecDepth 100000 in
set_option maxHeartbeats 1000000 in
set_option linter.unusedVariables false in
set_option linter.unusedSimpArgs false in
theorem prev_no (b v : Int) (hf : Hid (F.bits_of.f v = some (0, 0, 0, 0, false))) (h64 : (v == 64) = false) (h32 : (v == 32) = false) : Tells 12 #[.int .i64 b, .int .i64 v] (.int .i64 0) := by
  intro w
  have HB : Below w.heap.size w w := Below.refl _ _
  go_enter Tryz.func12, Tryz.ntmps12
  go_wp2_with fail
  refine (neg_no b v hf _).mono ?_
  rintro e w1 ⟨rfl, hb1⟩
  replace HB := below_on HB hb1
  clear hb1
  go_wp2_with fail
  refine (tells_of (fun w => next_no 0 v w h64 h32) _).mono ?_
  rintro e w1 ⟨rfl, hb1⟩
  replace HB := below_on HB hb1
  clear hb1
  go_wp2_with fail
  refine (neg_no 0 v hf _).mono ?_
  rintro e w1 ⟨rfl, hb1⟩
  replace HB := below_on HB hb1
  clear hb1
  go_wp2_with fail
  go_ret
  exact ⟨rfl, HB⟩
@[go_sem] theorem Tryz.roundEven0 (w : World) : (callFunc 35 #[.float .f64 0]).run Tryz.prog w = .ok (.value (.float .f64 0)) w := by
  rw [run_callFunc_extern (e := Extern.MathFloor.toIntegral "math.RoundToEven" .even) Tryz.func35 (by kernel_rfl) (by kernel_rfl) (by kernel_rfl) (by kernel_rfl)]
  have e : Extern.MathFloor.toIntegral "math.RoundToEven" .even #[.float .f64 0] = pure (.float .f64 0) := by kernel_rfl
  rw [e]
  rfl
set_option maxRecDepth 100000 in
set_option maxHeartbeats 1000000 in
set_option linter.unusedVariables false in
set_option linter.unusedSimpArgs false in
theorem toInt_no (a v : Int) (h64 : (v == 64) = false) (h32 : (v == 32) = false) : Tells 6 #[.int .i64 a, .int .i64 v] (.tuple #[.int .i64 0, .bool false]) := by
  refine tells_of fun w => ?_
  go_enter Tryz.func6, Tryz.ntmps6
  go_wp2_with (first | (go_at_call 34; go_in))
  go_ret2
  exact ⟨rfl, rfl⟩
end Go.Proofs.YtpdodboldicibaaGreatFmt
