/- BitsWidths' own walk. -/
import Derived.Test.YtpdodboldicibaaGreatFmtWidesA
namespace Go.Proofs.YtpdodboldicibaaGreatFmt
open Go.RowKit Go.Proofs.YtpdodboldicibaaGreatFmtW.PrintWords

set_option maxRecDepth 100000 in
set_option maxHeartbeats 1000000 in
set_option linter.unusedVariables false in
set_option linter.unusedSimpArgs false in
theorem widths_none (a b c v : Int) (h64 : (v == 64) = false) (h32 : (v == 32) = false) (hf : Hid (F.bits_of.f v = some (0, 0, 0, 0, false))) (hP : Hid (Tells 4 #[.int .i64 a, .int .i64 v] (.tuple #[.bool false, .int .i64 0, .int .i64 0, .bool false]))) (hC : Hid (Tells 10 #[.int .i64 a, .int .i64 v] (.int .i64 0))) : Tells 3 #[.int .i64 a, .int .i64 b, .int .i64 c, .int .i64 v] (.bool true) := by
  intro w
  have HB : Below w.heap.size w w := Below.refl _ _
  go_enter Tryz.func3, Tryz.ntmps3
  go_wp2_with fail
  refine (hP.out _).mono ?_
  rintro e w1 ⟨rfl, hb1⟩
  replace HB := below_on HB hb1
  clear hb1
  go_wp2_with fail
  refine (join_no true b c v hf _).mono ?_
  rintro e w1 ⟨rfl, hb1⟩
  replace HB := below_on HB hb1
  clear hb1
  go_wp2_with fail
  refine (toInt_no a v h64 h32 _).mono ?_
  rintro e w1 ⟨rfl, hb1⟩
  replace HB := below_on HB hb1
  clear hb1
  go_wp2_with fail
  refine (valid_no a v h64 h32 _).mono ?_
  rintro e w1 ⟨rfl, hb1⟩
  replace HB := below_on HB hb1
  clear hb1
  go_wp2_with fail
  refine (less_no a b v h64 h32 _).mono ?_
  rintro e w1 ⟨rfl, hb1⟩
  replace HB := below_on HB hb1
  clear hb1
  go_wp2_with fail
  refine (same_no a a v h64 h32 _).mono ?_
  rintro e w1 ⟨rfl, hb1⟩
  replace HB := below_on HB hb1
  clear hb1
  go_wp2_with fail
  refine (hC.out _).mono ?_
  rintro e w1 ⟨rfl, hb1⟩
  replace HB := below_on HB hb1
  clear hb1
  go_wp2_with fail
  refine (tells_of (fun w => next_no a v w h64 h32) _).mono ?_
  rintro e w1 ⟨rfl, hb1⟩
  replace HB := below_on HB hb1
  clear hb1
  go_wp2_with fail
  refine (prev_no a v hf h64 h32 _).mono ?_
  rintro e w1 ⟨rfl, hb1⟩
  replace HB := below_on HB hb1
  clear hb1
  go_wp2_with fail
  refine (neg_no a v hf _).mono ?_
  rintro e w1 ⟨rfl, hb1⟩
  replace HB := below_on HB hb1
  clear hb1
  go_wp2_with fail
  refine (abs_no a v hf _).mono ?_
  rintro e w1 ⟨rfl, hb1⟩
  replace HB := below_on HB hb1
  clear hb1
  go_wp2_with fail
  refine (canon_no a v h64 h32 _).mono ?_
  rintro e w1 ⟨rfl, hb1⟩
  replace HB := below_on HB hb1
  clear hb1
  go_wp2_with fail
  refine (order_no a b v h64 h32 _).mono ?_
  rintro e w1 ⟨rfl, hb1⟩
  replace HB := below_on HB hb1
  clear hb1
  go_wp2_with fail
  refine (add_no a b v h64 h32 _).mono ?_
  rintro e w1 ⟨rfl, hb1⟩
  replace HB := below_on HB hb1
  clear hb1
  go_wp2_with fail
  refine (sub_no a b v h64 h32 _).mono ?_
  rintro e w1 ⟨rfl, hb1⟩
  replace HB := below_on HB hb1
  clear hb1
  go_wp2_with fail
  refine (mul_no a b v h64 h32 _).mono ?_
  rintro e w1 ⟨rfl, hb1⟩
  replace HB := below_on HB hb1
  clear hb1
  go_wp2_with fail
  refine (div_no a b v h64 h32 _).mono ?_
  rintro e w1 ⟨rfl, hb1⟩
  replace HB := below_on HB hb1
  clear hb1
  go_wp2_with fail
  refine (sqrt_no a v h64 h32 _).mono ?_
  rintro e w1 ⟨rfl, hb1⟩
  replace HB := below_on HB hb1
  clear hb1
  go_wp2_with fail
  refine (fma_no a b c v h64 h32 _).mono ?_
  rintro e w1 ⟨rfl, hb1⟩
  replace HB := below_on HB hb1
  clear hb1
  go_wp2_with fail
  refine (min_no a b v h64 h32 _).mono ?_
  rintro e w1 ⟨rfl, hb1⟩
  replace HB := below_on HB hb1
  clear hb1
  go_wp2_with fail
  refine (max_no a b v h64 h32 _).mono ?_
  rintro e w1 ⟨rfl, hb1⟩
  replace HB := below_on HB hb1
  clear hb1
  go_wp2_with fail
  refine (convert_from_no a v h64 h32 _).mono ?_
  rintro e w1 ⟨rfl, hb1⟩
  replace HB := below_on HB hb1
  clear hb1
  go_wp2_with fail
  refine (convert_to_no a v h64 h32 _).mono ?_
  rintro e w1 ⟨rfl, hb1⟩
  replace HB := below_on HB hb1
  clear hb1
  go_wp2_with fail
  refine (fromInt_no a v h64 h32 _).mono ?_
  rintro e w1 ⟨rfl, hb1⟩
  replace HB := below_on HB hb1
  clear hb1
  go_wp2_with fail
  refine (alive_any _).mono ?_
  rintro e w1 ⟨rfl, hb1⟩
  replace HB := below_on HB hb1
  clear hb1
  go_wp2_with fail
  go_ret
  exact ⟨rfl, HB⟩
set_option maxRecDepth 100000 in
set_option maxHeartbeats 1000000 in
set_option linter.unusedVariables false in
set_option linter.unusedSimpArgs false in
theorem widths_64 (a b c : Int) (hf : Hid (F.bits_of.f 0 = some (0, 0, 0, 0, false))) (hP : Hid (Tells 4 #[.int .i64 a, .int .i64 0] (.tuple #[.bool false, .int .i64 0, .int .i64 0, .bool false]))) (hC : Hid (Tells 10 #[.int .i64 a, .int .i64 0] (.int .i64 0))) : Tells 3 #[.int .i64 a, .int .i64 b, .int .i64 c, .int .i64 64] (.bool true) := by
  intro w
  have HB : Below w.heap.size w w := Below.refl _ _
  go_enter Tryz.func3, Tryz.ntmps3
  go_wp2_with fail
  refine (hP.out _).mono ?_
  rintro e w1 ⟨rfl, hb1⟩
  replace HB := below_on HB hb1
  clear hb1
  go_wp2_with fail
  refine (join_no true b c 0 hf _).mono ?_
  rintro e w1 ⟨rfl, hb1⟩
  replace HB := below_on HB hb1
  clear hb1
  go_wp2_with fail
  refine (toInt_no a 0 (by decide) (by decide) _).mono ?_
  rintro e w1 ⟨rfl, hb1⟩
  replace HB := below_on HB hb1
  clear hb1
  go_wp2_with fail
  refine (valid_no a 0 (by decide) (by decide) _).mono ?_
  rintro e w1 ⟨rfl, hb1⟩
  replace HB := below_on HB hb1
  clear hb1
  go_wp2_with fail
  refine (less_no a b 0 (by decide) (by decide) _).mono ?_
  rintro e w1 ⟨rfl, hb1⟩
  replace HB := below_on HB hb1
  clear hb1
  go_wp2_with fail
  refine (same_no a a 0 (by decide) (by decide) _).mono ?_
  rintro e w1 ⟨rfl, hb1⟩
  replace HB := below_on HB hb1
  clear hb1
  go_wp2_with fail
  refine (hC.out _).mono ?_
  rintro e w1 ⟨rfl, hb1⟩
  replace HB := below_on HB hb1
  clear hb1
  go_wp2_with fail
  refine (tells_of (fun w => next_no a 0 w (by decide) (by decide)) _).mono ?_
  rintro e w1 ⟨rfl, hb1⟩
  replace HB := below_on HB hb1
  clear hb1
  go_wp2_with fail
  refine (prev_no a 0 hf (by decide) (by decide) _).mono ?_
  rintro e w1 ⟨rfl, hb1⟩
  replace HB := below_on HB hb1
  clear hb1
  go_wp2_with fail
  refine (neg_no a 0 hf _).mono ?_
  rintro e w1 ⟨rfl, hb1⟩
  replace HB := below_on HB hb1
  clear hb1
  go_wp2_with fail
  refine (abs_no a 0 hf _).mono ?_
  rintro e w1 ⟨rfl, hb1⟩
  replace HB := below_on HB hb1
  clear hb1
  go_wp2_with fail
  refine (canon_no a 0 (by decide) (by decide) _).mono ?_
  rintro e w1 ⟨rfl, hb1⟩
  replace HB := below_on HB hb1
  clear hb1
  go_wp2_with fail
  refine (order_no a b 0 (by decide) (by decide) _).mono ?_
  rintro e w1 ⟨rfl, hb1⟩
  replace HB := below_on HB hb1
  clear hb1
  go_wp2_with fail
  refine (add_no a b 0 (by decide) (by decide) _).mono ?_
  rintro e w1 ⟨rfl, hb1⟩
  replace HB := below_on HB hb1
  clear hb1
  go_wp2_with fail
  refine (sub_no a b 0 (by decide) (by decide) _).mono ?_
  rintro e w1 ⟨rfl, hb1⟩
  replace HB := below_on HB hb1
  clear hb1
  go_wp2_with fail
  refine (mul_no a b 0 (by decide) (by decide) _).mono ?_
  rintro e w1 ⟨rfl, hb1⟩
  replace HB := below_on HB hb1
  clear hb1
  go_wp2_with fail
  refine (div_no a b 0 (by decide) (by decide) _).mono ?_
  rintro e w1 ⟨rfl, hb1⟩
  replace HB := below_on HB hb1
  clear hb1
  go_wp2_with fail
  refine (sqrt_no a 0 (by decide) (by decide) _).mono ?_
  rintro e w1 ⟨rfl, hb1⟩
  replace HB := below_on HB hb1
  clear hb1
  go_wp2_with fail
  refine (fma_no a b c 0 (by decide) (by decide) _).mono ?_
  rintro e w1 ⟨rfl, hb1⟩
  replace HB := below_on HB hb1
  clear hb1
  go_wp2_with fail
  refine (min_no a b 0 (by decide) (by decide) _).mono ?_
  rintro e w1 ⟨rfl, hb1⟩
  replace HB := below_on HB hb1
  clear hb1
  go_wp2_with fail
  refine (max_no a b 0 (by decide) (by decide) _).mono ?_
  rintro e w1 ⟨rfl, hb1⟩
  replace HB := below_on HB hb1
  clear hb1
  go_wp2_with fail
  refine (convert_from_no a 0 (by decide) (by decide) _).mono ?_
  rintro e w1 ⟨rfl, hb1⟩
  replace HB := below_on HB hb1
  clear hb1
  go_wp2_with fail
  refine (convert_to_no a 0 (by decide) (by decide) _).mono ?_
  rintro e w1 ⟨rfl, hb1⟩
  replace HB := below_on HB hb1
  clear hb1
  go_wp2_with fail
  refine (fromInt_no a 0 (by decide) (by decide) _).mono ?_
  rintro e w1 ⟨rfl, hb1⟩
  replace HB := below_on HB hb1
  clear hb1
  go_wp2_with fail
  refine (alive_any _).mono ?_
  rintro e w1 ⟨rfl, hb1⟩
  replace HB := below_on HB hb1
  clear hb1
  go_wp2_with fail
  go_ret
  exact ⟨rfl, HB⟩
set_option maxRecDepth 100000 in
set_option maxHeartbeats 1000000 in
set_option linter.unusedVariables false in
set_option linter.unusedSimpArgs false in
theorem widths_32 (a b c : Int) (hf : Hid (F.bits_of.f 0 = some (0, 0, 0, 0, false))) (hP : Hid (Tells 4 #[.int .i64 a, .int .i64 0] (.tuple #[.bool false, .int .i64 0, .int .i64 0, .bool false]))) (hC : Hid (Tells 10 #[.int .i64 a, .int .i64 0] (.int .i64 0))) : Tells 3 #[.int .i64 a, .int .i64 b, .int .i64 c, .int .i64 32] (.bool true) := by
  intro w
  have HB : Below w.heap.size w w := Below.refl _ _
  go_enter Tryz.func3, Tryz.ntmps3
  go_wp2_with fail
  refine (hP.out _).mono ?_
  rintro e w1 ⟨rfl, hb1⟩
  replace HB := below_on HB hb1
  clear hb1
  go_wp2_with fail
  refine (join_no true b c 0 hf _).mono ?_
  rintro e w1 ⟨rfl, hb1⟩
  replace HB := below_on HB hb1
  clear hb1
  go_wp2_with fail
  refine (toInt_no a 0 (by decide) (by decide) _).mono ?_
  rintro e w1 ⟨rfl, hb1⟩
  replace HB := below_on HB hb1
  clear hb1
  go_wp2_with fail
  refine (valid_no a 0 (by decide) (by decide) _).mono ?_
  rintro e w1 ⟨rfl, hb1⟩
  replace HB := below_on HB hb1
  clear hb1
  go_wp2_with fail
  refine (less_no a b 0 (by decide) (by decide) _).mono ?_
  rintro e w1 ⟨rfl, hb1⟩
  replace HB := below_on HB hb1
  clear hb1
  go_wp2_with fail
  refine (same_no a a 0 (by decide) (by decide) _).mono ?_
  rintro e w1 ⟨rfl, hb1⟩
  replace HB := below_on HB hb1
  clear hb1
  go_wp2_with fail
  refine (hC.out _).mono ?_
  rintro e w1 ⟨rfl, hb1⟩
  replace HB := below_on HB hb1
  clear hb1
  go_wp2_with fail
  refine (tells_of (fun w => next_no a 0 w (by decide) (by decide)) _).mono ?_
  rintro e w1 ⟨rfl, hb1⟩
  replace HB := below_on HB hb1
  clear hb1
  go_wp2_with fail
  refine (prev_no a 0 hf (by decide) (by decide) _).mono ?_
  rintro e w1 ⟨rfl, hb1⟩
  replace HB := below_on HB hb1
  clear hb1
  go_wp2_with fail
  refine (neg_no a 0 hf _).mono ?_
  rintro e w1 ⟨rfl, hb1⟩
  replace HB := below_on HB hb1
  clear hb1
  go_wp2_with fail
  refine (abs_no a 0 hf _).mono ?_
  rintro e w1 ⟨rfl, hb1⟩
  replace HB := below_on HB hb1
  clear hb1
  go_wp2_with fail
  refine (canon_no a 0 (by decide) (by decide) _).mono ?_
  rintro e w1 ⟨rfl, hb1⟩
  replace HB := below_on HB hb1
  clear hb1
  go_wp2_with fail
  refine (order_no a b 0 (by decide) (by decide) _).mono ?_
  rintro e w1 ⟨rfl, hb1⟩
  replace HB := below_on HB hb1
  clear hb1
  go_wp2_with fail
  refine (add_no a b 0 (by decide) (by decide) _).mono ?_
  rintro e w1 ⟨rfl, hb1⟩
  replace HB := below_on HB hb1
  clear hb1
  go_wp2_with fail
  refine (sub_no a b 0 (by decide) (by decide) _).mono ?_
  rintro e w1 ⟨rfl, hb1⟩
  replace HB := below_on HB hb1
  clear hb1
  go_wp2_with fail
  refine (mul_no a b 0 (by decide) (by decide) _).mono ?_
  rintro e w1 ⟨rfl, hb1⟩
  replace HB := below_on HB hb1
  clear hb1
  go_wp2_with fail
  refine (div_no a b 0 (by decide) (by decide) _).mono ?_
  rintro e w1 ⟨rfl, hb1⟩
  replace HB := below_on HB hb1
  clear hb1
  go_wp2_with fail
  refine (sqrt_no a 0 (by decide) (by decide) _).mono ?_
  rintro e w1 ⟨rfl, hb1⟩
  replace HB := below_on HB hb1
  clear hb1
  go_wp2_with fail
  refine (fma_no a b c 0 (by decide) (by decide) _).mono ?_
  rintro e w1 ⟨rfl, hb1⟩
  replace HB := below_on HB hb1
  clear hb1
  go_wp2_with fail
  refine (min_no a b 0 (by decide) (by decide) _).mono ?_
  rintro e w1 ⟨rfl, hb1⟩
  replace HB := below_on HB hb1
  clear hb1
  go_wp2_with fail
  refine (max_no a b 0 (by decide) (by decide) _).mono ?_
  rintro e w1 ⟨rfl, hb1⟩
  replace HB := below_on HB hb1
  clear hb1
  go_wp2_with fail
  refine (convert_from_no a 0 (by decide) (by decide) _).mono ?_
  rintro e w1 ⟨rfl, hb1⟩
  replace HB := below_on HB hb1
  clear hb1
  go_wp2_with fail
  refine (convert_to_no a 0 (by decide) (by decide) _).mono ?_
  rintro e w1 ⟨rfl, hb1⟩
  replace HB := below_on HB hb1
  clear hb1
  go_wp2_with fail
  refine (fromInt_no a 0 (by decide) (by decide) _).mono ?_
  rintro e w1 ⟨rfl, hb1⟩
  replace HB := below_on HB hb1
  clear hb1
  go_wp2_with fail
  refine (alive_any _).mono ?_
  rintro e w1 ⟨rfl, hb1⟩
  replace HB := below_on HB hb1
  clear hb1
  go_wp2_with fail
  go_ret
  exact ⟨rfl, HB⟩
theorem bitsWidths_walk (a b c v : Int) : Tells 3 #[.int .i64 a, .int .i64 b, .int .i64 c, .int .i64 v] (.bool true) := by
  have P0 : Tells 4 #[.int .i64 a, .int .i64 0] (.tuple #[.bool false, .int .i64 0, .int .i64 0, .bool false]) := fun w => parts_no a 0 w (Lib.hid (of_no 0 (by decide) (by decide)))
  have C0 : Tells 10 #[.int .i64 a, .int .i64 0] (.int .i64 0) := class_any a 0
  by_cases h : v = 64
  · subst h; exact widths_64 a b c (Lib.hid (of_no 0 (by decide) (by decide))) (Lib.hid P0) (Lib.hid C0)
  · by_cases h2 : v = 32
    · subst h2; exact widths_32 a b c (Lib.hid (of_no 0 (by decide) (by decide))) (Lib.hid P0) (Lib.hid C0)
    · have C1 := class_any a v
      unfold Flt.cls at C1
      rw [if_neg h, if_neg h2] at C1
      exact widths_none a b c v (beq_eq_false_iff_ne.2 h) (beq_eq_false_iff_ne.2 h2) (Lib.hid (of_no v h h2)) (Lib.hid (fun w => parts_no a v w (Lib.hid (of_no v h h2)))) (Lib.hid C1)
end Go.Proofs.YtpdodboldicibaaGreatFmt
