/- Walks: the laws' own question whether 1 says what it is. -/
import Derived.Test.YtjogbiopbobifaaA10
namespace Go.Proofs.Ytjogbiopbobifaa
open Go.RowKit

theorem below_on {w w1 w2 : World} (h : Below w.heap.size w w1) (h2 : Below w1.heap.size w1 w2) : Below w.heap.size w w2 := h.trans (h2.mono h.size)
theorem alive_parts : Tells 43 #[.int .i64 4607182418800017408, .int .i64 64] (.tuple #[.bool false, .int .i64 4503599627370496, .int .i64 (-52), .bool true]) :=
  parts_any 4607182418800017408 64 ⟨by decide, by decide⟩
theorem alive_class64 : Tells 28 #[.int .i64 4607182418800017408, .int .i64 64] (.int .i64 2) := class_any 4607182418800017408 64
theorem alive_class32 : Tells 28 #[.int .i64 1065353216, .int .i64 32] (.int .i64 2) := class_any 1065353216 32
theorem alive_next : Tells 29 #[.int .i64 4607182418800017408, .int .i64 64] (.int .i64 4607182418800017409) := next_any 4607182418800017408 64 ⟨by decide, by decide⟩

set_option maxRecDepth 100000 in
set_option maxHeartbeats 1000000 in
theorem alive_any : Tells 14 #[] (.bool true) := by
  intro w
  have HB : Below w.heap.size w w := Below.refl _ _
  go_enter Try.func14, Try.ntmps14
  go_wp2_with fail
  refine (alive_parts _).mono ?_
  rintro e w1 ⟨rfl, hb⟩
  have n0 := below_on HB hb
  clear HB hb
  have HB := n0
  clear n0
  go_wp2_with fail
  refine (alive_class64 _).mono ?_
  rintro e w1 ⟨rfl, hb⟩
  have n0 := below_on HB hb
  clear HB hb
  have HB := n0
  clear n0
  go_wp2_with fail
  refine (alive_class32 _).mono ?_
  rintro e w1 ⟨rfl, hb⟩
  have n0 := below_on HB hb
  clear HB hb
  have HB := n0
  clear n0
  go_wp2_with fail
  refine (alive_next _).mono ?_
  rintro e w1 ⟨rfl, hb⟩
  have n0 := below_on HB hb
  clear HB hb
  have HB := n0
  clear n0
  go_wp2_with fail
  refine (add_one64 _).mono ?_
  rintro e w1 ⟨rfl, hb⟩
  have n0 := below_on HB hb
  clear HB hb
  have HB := n0
  clear n0
  go_wp2_with fail
  refine (add_one32 _).mono ?_
  rintro e w1 ⟨rfl, hb⟩
  have n0 := below_on HB hb
  clear HB hb
  have HB := n0
  clear n0
  go_wp2_with fail
  go_ret
  exact ⟨rfl, HB⟩
end Go.Proofs.Ytjogbiopbobifaa
