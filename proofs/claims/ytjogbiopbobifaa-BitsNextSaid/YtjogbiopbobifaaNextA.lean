/- BitsNext's own walk. -/
import Derived.Test.YtjogbiopbobifaaOutA
import Derived.Test.YtjogbiopbobifaaTurnsA
import Derived.Test.YtjogbiopbobifaaRefA
namespace Go.Proofs.Ytjogbiopbobifaa
open Go.RowKit

set_option maxRecDepth 100000 in
set_option maxHeartbeats 2000000 in
set_option linter.unusedVariables false in
theorem nextlaw_nan (b0 c0 w0 b c v n x p : Int) (hE : Hid (Tells 22 #[.int .i64 w0] (.int .i64 v))) (hPB : Hid (Tells 23 #[.int .i64 b0, .int .i64 v] (.int .i64 b))) (hPC : Hid (Tells 23 #[.int .i64 c0, .int .i64 v] (.int .i64 c))) (hN : Hid (Tells 29 #[.int .i64 b, .int .i64 v] (.int .i64 n))) (hA : Hid (Tells 28 #[.int .i64 b, .int .i64 v] (.int .i64 x))) (c1 : (x == 4) = true) (hM : Hid (Tells 28 #[.int .i64 n, .int .i64 v] (.int .i64 4))) : Tells 7 #[.int .i64 b0, .int .i64 c0, .int .i64 w0] (.bool true) := by
  intro w
  have HB : Below w.heap.size w w := Below.refl _ _
  go_enter Try.func7, Try.ntmps7
  go_wp2_with fail
  refine (hE.out _).mono ?_
  rintro e w1 ⟨rfl, hb1⟩
  replace HB := below_on HB hb1
  clear hb1
  go_wp2_with fail
  refine (hPB.out _).mono ?_
  rintro e w1 ⟨rfl, hb1⟩
  replace HB := below_on HB hb1
  clear hb1
  go_wp2_with fail
  refine (hPC.out _).mono ?_
  rintro e w1 ⟨rfl, hb1⟩
  replace HB := below_on HB hb1
  clear hb1
  go_wp2_with fail
  refine (hN.out _).mono ?_
  rintro e w1 ⟨rfl, hb1⟩
  replace HB := below_on HB hb1
  clear hb1
  go_wp2_with fail
  refine (alive_any _).mono ?_
  rintro e w1 ⟨rfl, hb1⟩
  replace HB := below_on HB hb1
  clear hb1
  go_wp2_with fail
  refine (hA.out _).mono ?_
  rintro e w1 ⟨rfl, hb1⟩
  replace HB := below_on HB hb1
  clear hb1
  go_wp2_with fail
  refine (alive_any _).mono ?_
  rintro e w1 ⟨rfl, hb1⟩
  replace HB := below_on HB hb1
  clear hb1
  go_wp2_with fail
  refine (hM.out _).mono ?_
  rintro e w1 ⟨rfl, hb1⟩
  replace HB := below_on HB hb1
  clear hb1
  go_wp2_with fail
  go_ret
  exact ⟨rfl, HB⟩

set_option maxRecDepth 100000 in
set_option maxHeartbeats 2000000 in
set_option linter.unusedVariables false in
theorem nextlaw_inf (b0 c0 w0 b c v n x p : Int) (hE : Hid (Tells 22 #[.int .i64 w0] (.int .i64 v))) (hPB : Hid (Tells 23 #[.int .i64 b0, .int .i64 v] (.int .i64 b))) (hPC : Hid (Tells 23 #[.int .i64 c0, .int .i64 v] (.int .i64 c))) (hN : Hid (Tells 29 #[.int .i64 b, .int .i64 v] (.int .i64 b))) (hA : Hid (Tells 28 #[.int .i64 b, .int .i64 v] (.int .i64 x))) (c1 : (x == 4) = false) (c3 : (x == 3) = true) (hL0 : Hid (Tells 25 #[.int .i64 b, .int .i64 0, .int .i64 v] (.bool false))) : Tells 7 #[.int .i64 b0, .int .i64 c0, .int .i64 w0] (.bool true) := by
  intro w
  have HB : Below w.heap.size w w := Below.refl _ _
  go_enter Try.func7, Try.ntmps7
  go_wp2_with fail
  refine (hE.out _).mono ?_
  rintro e w1 ⟨rfl, hb1⟩
  replace HB := below_on HB hb1
  clear hb1
  go_wp2_with fail
  refine (hPB.out _).mono ?_
  rintro e w1 ⟨rfl, hb1⟩
  replace HB := below_on HB hb1
  clear hb1
  go_wp2_with fail
  refine (hPC.out _).mono ?_
  rintro e w1 ⟨rfl, hb1⟩
  replace HB := below_on HB hb1
  clear hb1
  go_wp2_with fail
  refine (hN.out _).mono ?_
  rintro e w1 ⟨rfl, hb1⟩
  replace HB := below_on HB hb1
  clear hb1
  go_wp2_with fail
  refine (alive_any _).mono ?_
  rintro e w1 ⟨rfl, hb1⟩
  replace HB := below_on HB hb1
  clear hb1
  go_wp2_with fail
  refine (hA.out _).mono ?_
  rintro e w1 ⟨rfl, hb1⟩
  replace HB := below_on HB hb1
  clear hb1
  go_wp2_with fail
  refine (hA.out _).mono ?_
  rintro e w1 ⟨rfl, hb1⟩
  replace HB := below_on HB hb1
  clear hb1
  go_wp2_with fail
  refine (hL0.out _).mono ?_
  rintro e w1 ⟨rfl, hb1⟩
  replace HB := below_on HB hb1
  clear hb1
  go_wp2_with fail
  go_ret
  exact ⟨rfl, HB⟩

set_option maxRecDepth 100000 in
set_option maxHeartbeats 2000000 in
set_option linter.unusedVariables false in
theorem nextlaw_downt (b0 c0 w0 b c v n x p : Int) (hE : Hid (Tells 22 #[.int .i64 w0] (.int .i64 v))) (hPB : Hid (Tells 23 #[.int .i64 b0, .int .i64 v] (.int .i64 b))) (hPC : Hid (Tells 23 #[.int .i64 c0, .int .i64 v] (.int .i64 c))) (hN : Hid (Tells 29 #[.int .i64 b, .int .i64 v] (.int .i64 n))) (hA : Hid (Tells 28 #[.int .i64 b, .int .i64 v] (.int .i64 x))) (c1 : (x == 4) = false) (c3 : (x == 3) = true) (hL0 : Hid (Tells 25 #[.int .i64 b, .int .i64 0, .int .i64 v] (.bool true))) (hL1 : Hid (Tells 25 #[.int .i64 b, .int .i64 n, .int .i64 v] (.bool true))) (hP : Hid (Tells 31 #[.int .i64 n, .int .i64 v] (.int .i64 p))) (hS : Hid (Tells 30 #[.int .i64 p, .int .i64 b, .int .i64 v] (.bool true))) (hL2 : Hid (Tells 25 #[.int .i64 b, .int .i64 c, .int .i64 v] (.bool true))) (hL3 : Hid (Tells 25 #[.int .i64 c, .int .i64 n, .int .i64 v] (.bool false))) (hO : Hid (Tells 24 #[.int .i64 b, .int .i64 n, .int .i64 v] (.int .i64 (-1)))) : Tells 7 #[.int .i64 b0, .int .i64 c0, .int .i64 w0] (.bool true) := by
  intro w
  have HB : Below w.heap.size w w := Below.refl _ _
  go_enter Try.func7, Try.ntmps7
  go_wp2_with fail
  refine (hE.out _).mono ?_
  rintro e w1 ⟨rfl, hb1⟩
  replace HB := below_on HB hb1
  clear hb1
  go_wp2_with fail
  refine (hPB.out _).mono ?_
  rintro e w1 ⟨rfl, hb1⟩
  replace HB := below_on HB hb1
  clear hb1
  go_wp2_with fail
  refine (hPC.out _).mono ?_
  rintro e w1 ⟨rfl, hb1⟩
  replace HB := below_on HB hb1
  clear hb1
  go_wp2_with fail
  refine (hN.out _).mono ?_
  rintro e w1 ⟨rfl, hb1⟩
  replace HB := below_on HB hb1
  clear hb1
  go_wp2_with fail
  refine (alive_any _).mono ?_
  rintro e w1 ⟨rfl, hb1⟩
  replace HB := below_on HB hb1
  clear hb1
  go_wp2_with fail
  refine (hA.out _).mono ?_
  rintro e w1 ⟨rfl, hb1⟩
  replace HB := below_on HB hb1
  clear hb1
  go_wp2_with fail
  refine (hA.out _).mono ?_
  rintro e w1 ⟨rfl, hb1⟩
  replace HB := below_on HB hb1
  clear hb1
  go_wp2_with fail
  refine (hL0.out _).mono ?_
  rintro e w1 ⟨rfl, hb1⟩
  replace HB := below_on HB hb1
  clear hb1
  go_wp2_with fail
  refine (hL1.out _).mono ?_
  rintro e w1 ⟨rfl, hb1⟩
  replace HB := below_on HB hb1
  clear hb1
  go_wp2_with fail
  refine (hP.out _).mono ?_
  rintro e w1 ⟨rfl, hb1⟩
  replace HB := below_on HB hb1
  clear hb1
  go_wp2_with fail
  refine (hS.out _).mono ?_
  rintro e w1 ⟨rfl, hb1⟩
  replace HB := below_on HB hb1
  clear hb1
  go_wp2_with fail
  refine (hL2.out _).mono ?_
  rintro e w1 ⟨rfl, hb1⟩
  replace HB := below_on HB hb1
  clear hb1
  go_wp2_with fail
  refine (hL3.out _).mono ?_
  rintro e w1 ⟨rfl, hb1⟩
  replace HB := below_on HB hb1
  clear hb1
  go_wp2_with fail
  refine (hO.out _).mono ?_
  rintro e w1 ⟨rfl, hb1⟩
  replace HB := below_on HB hb1
  clear hb1
  go_wp2_with fail
  go_ret
  exact ⟨rfl, HB⟩

set_option maxRecDepth 100000 in
set_option maxHeartbeats 2000000 in
set_option linter.unusedVariables false in
theorem nextlaw_fint (b0 c0 w0 b c v n x p : Int) (hE : Hid (Tells 22 #[.int .i64 w0] (.int .i64 v))) (hPB : Hid (Tells 23 #[.int .i64 b0, .int .i64 v] (.int .i64 b))) (hPC : Hid (Tells 23 #[.int .i64 c0, .int .i64 v] (.int .i64 c))) (hN : Hid (Tells 29 #[.int .i64 b, .int .i64 v] (.int .i64 n))) (hA : Hid (Tells 28 #[.int .i64 b, .int .i64 v] (.int .i64 x))) (c1 : (x == 4) = false) (c3 : (x == 3) = false) (hL1 : Hid (Tells 25 #[.int .i64 b, .int .i64 n, .int .i64 v] (.bool true))) (hP : Hid (Tells 31 #[.int .i64 n, .int .i64 v] (.int .i64 p))) (hS : Hid (Tells 30 #[.int .i64 p, .int .i64 b, .int .i64 v] (.bool true))) (hL2 : Hid (Tells 25 #[.int .i64 b, .int .i64 c, .int .i64 v] (.bool true))) (hL3 : Hid (Tells 25 #[.int .i64 c, .int .i64 n, .int .i64 v] (.bool false))) (hO : Hid (Tells 24 #[.int .i64 b, .int .i64 n, .int .i64 v] (.int .i64 (-1)))) : Tells 7 #[.int .i64 b0, .int .i64 c0, .int .i64 w0] (.bool true) := by
  intro w
  have HB : Below w.heap.size w w := Below.refl _ _
  go_enter Try.func7, Try.ntmps7
  go_wp2_with fail
  refine (hE.out _).mono ?_
  rintro e w1 ⟨rfl, hb1⟩
  replace HB := below_on HB hb1
  clear hb1
  go_wp2_with fail
  refine (hPB.out _).mono ?_
  rintro e w1 ⟨rfl, hb1⟩
  replace HB := below_on HB hb1
  clear hb1
  go_wp2_with fail
  refine (hPC.out _).mono ?_
  rintro e w1 ⟨rfl, hb1⟩
  replace HB := below_on HB hb1
  clear hb1
  go_wp2_with fail
  refine (hN.out _).mono ?_
  rintro e w1 ⟨rfl, hb1⟩
  replace HB := below_on HB hb1
  clear hb1
  go_wp2_with fail
  refine (alive_any _).mono ?_
  rintro e w1 ⟨rfl, hb1⟩
  replace HB := below_on HB hb1
  clear hb1
  go_wp2_with fail
  refine (hA.out _).mono ?_
  rintro e w1 ⟨rfl, hb1⟩
  replace HB := below_on HB hb1
  clear hb1
  go_wp2_with fail
  refine (hA.out _).mono ?_
  rintro e w1 ⟨rfl, hb1⟩
  replace HB := below_on HB hb1
  clear hb1
  go_wp2_with fail
  refine (hL1.out _).mono ?_
  rintro e w1 ⟨rfl, hb1⟩
  replace HB := below_on HB hb1
  clear hb1
  go_wp2_with fail
  refine (hP.out _).mono ?_
  rintro e w1 ⟨rfl, hb1⟩
  replace HB := below_on HB hb1
  clear hb1
  go_wp2_with fail
  refine (hS.out _).mono ?_
  rintro e w1 ⟨rfl, hb1⟩
  replace HB := below_on HB hb1
  clear hb1
  go_wp2_with fail
  refine (hL2.out _).mono ?_
  rintro e w1 ⟨rfl, hb1⟩
  replace HB := below_on HB hb1
  clear hb1
  go_wp2_with fail
  refine (hL3.out _).mono ?_
  rintro e w1 ⟨rfl, hb1⟩
  replace HB := below_on HB hb1
  clear hb1
  go_wp2_with fail
  refine (hO.out _).mono ?_
  rintro e w1 ⟨rfl, hb1⟩
  replace HB := below_on HB hb1
  clear hb1
  go_wp2_with fail
  go_ret
  exact ⟨rfl, HB⟩

set_option maxRecDepth 100000 in
set_option maxHeartbeats 2000000 in
set_option linter.unusedVariables false in
theorem nextlaw_downf (b0 c0 w0 b c v n x p : Int) (hE : Hid (Tells 22 #[.int .i64 w0] (.int .i64 v))) (hPB : Hid (Tells 23 #[.int .i64 b0, .int .i64 v] (.int .i64 b))) (hPC : Hid (Tells 23 #[.int .i64 c0, .int .i64 v] (.int .i64 c))) (hN : Hid (Tells 29 #[.int .i64 b, .int .i64 v] (.int .i64 n))) (hA : Hid (Tells 28 #[.int .i64 b, .int .i64 v] (.int .i64 x))) (c1 : (x == 4) = false) (c3 : (x == 3) = true) (hL0 : Hid (Tells 25 #[.int .i64 b, .int .i64 0, .int .i64 v] (.bool true))) (hL1 : Hid (Tells 25 #[.int .i64 b, .int .i64 n, .int .i64 v] (.bool true))) (hP : Hid (Tells 31 #[.int .i64 n, .int .i64 v] (.int .i64 p))) (hS : Hid (Tells 30 #[.int .i64 p, .int .i64 b, .int .i64 v] (.bool true))) (hL2 : Hid (Tells 25 #[.int .i64 b, .int .i64 c, .int .i64 v] (.bool false))) (hO : Hid (Tells 24 #[.int .i64 b, .int .i64 n, .int .i64 v] (.int .i64 (-1)))) : Tells 7 #[.int .i64 b0, .int .i64 c0, .int .i64 w0] (.bool true) := by
  intro w
  have HB : Below w.heap.size w w := Below.refl _ _
  go_enter Try.func7, Try.ntmps7
  go_wp2_with fail
  refine (hE.out _).mono ?_
  rintro e w1 ⟨rfl, hb1⟩
  replace HB := below_on HB hb1
  clear hb1
  go_wp2_with fail
  refine (hPB.out _).mono ?_
  rintro e w1 ⟨rfl, hb1⟩
  replace HB := below_on HB hb1
  clear hb1
  go_wp2_with fail
  refine (hPC.out _).mono ?_
  rintro e w1 ⟨rfl, hb1⟩
  replace HB := below_on HB hb1
  clear hb1
  go_wp2_with fail
  refine (hN.out _).mono ?_
  rintro e w1 ⟨rfl, hb1⟩
  replace HB := below_on HB hb1
  clear hb1
  go_wp2_with fail
  refine (alive_any _).mono ?_
  rintro e w1 ⟨rfl, hb1⟩
  replace HB := below_on HB hb1
  clear hb1
  go_wp2_with fail
  refine (hA.out _).mono ?_
  rintro e w1 ⟨rfl, hb1⟩
  replace HB := below_on HB hb1
  clear hb1
  go_wp2_with fail
  refine (hA.out _).mono ?_
  rintro e w1 ⟨rfl, hb1⟩
  replace HB := below_on HB hb1
  clear hb1
  go_wp2_with fail
  refine (hL0.out _).mono ?_
  rintro e w1 ⟨rfl, hb1⟩
  replace HB := below_on HB hb1
  clear hb1
  go_wp2_with fail
  refine (hL1.out _).mono ?_
  rintro e w1 ⟨rfl, hb1⟩
  replace HB := below_on HB hb1
  clear hb1
  go_wp2_with fail
  refine (hP.out _).mono ?_
  rintro e w1 ⟨rfl, hb1⟩
  replace HB := below_on HB hb1
  clear hb1
  go_wp2_with fail
  refine (hS.out _).mono ?_
  rintro e w1 ⟨rfl, hb1⟩
  replace HB := below_on HB hb1
  clear hb1
  go_wp2_with fail
  refine (hL2.out _).mono ?_
  rintro e w1 ⟨rfl, hb1⟩
  replace HB := below_on HB hb1
  clear hb1
  go_wp2_with fail
  refine (hO.out _).mono ?_
  rintro e w1 ⟨rfl, hb1⟩
  replace HB := below_on HB hb1
  clear hb1
  go_wp2_with fail
  go_ret
  exact ⟨rfl, HB⟩

set_option maxRecDepth 100000 in
set_option maxHeartbeats 2000000 in
set_option linter.unusedVariables false in
theorem nextlaw_finf (b0 c0 w0 b c v n x p : Int) (hE : Hid (Tells 22 #[.int .i64 w0] (.int .i64 v))) (hPB : Hid (Tells 23 #[.int .i64 b0, .int .i64 v] (.int .i64 b))) (hPC : Hid (Tells 23 #[.int .i64 c0, .int .i64 v] (.int .i64 c))) (hN : Hid (Tells 29 #[.int .i64 b, .int .i64 v] (.int .i64 n))) (hA : Hid (Tells 28 #[.int .i64 b, .int .i64 v] (.int .i64 x))) (c1 : (x == 4) = false) (c3 : (x == 3) = false) (hL1 : Hid (Tells 25 #[.int .i64 b, .int .i64 n, .int .i64 v] (.bool true))) (hP : Hid (Tells 31 #[.int .i64 n, .int .i64 v] (.int .i64 p))) (hS : Hid (Tells 30 #[.int .i64 p, .int .i64 b, .int .i64 v] (.bool true))) (hL2 : Hid (Tells 25 #[.int .i64 b, .int .i64 c, .int .i64 v] (.bool false))) (hO : Hid (Tells 24 #[.int .i64 b, .int .i64 n, .int .i64 v] (.int .i64 (-1)))) : Tells 7 #[.int .i64 b0, .int .i64 c0, .int .i64 w0] (.bool true) := by
  intro w
  have HB : Below w.heap.size w w := Below.refl _ _
  go_enter Try.func7, Try.ntmps7
  go_wp2_with fail
  refine (hE.out _).mono ?_
  rintro e w1 ⟨rfl, hb1⟩
  replace HB := below_on HB hb1
  clear hb1
  go_wp2_with fail
  refine (hPB.out _).mono ?_
  rintro e w1 ⟨rfl, hb1⟩
  replace HB := below_on HB hb1
  clear hb1
  go_wp2_with fail
  refine (hPC.out _).mono ?_
  rintro e w1 ⟨rfl, hb1⟩
  replace HB := below_on HB hb1
  clear hb1
  go_wp2_with fail
  refine (hN.out _).mono ?_
  rintro e w1 ⟨rfl, hb1⟩
  replace HB := below_on HB hb1
  clear hb1
  go_wp2_with fail
  refine (alive_any _).mono ?_
  rintro e w1 ⟨rfl, hb1⟩
  replace HB := below_on HB hb1
  clear hb1
  go_wp2_with fail
  refine (hA.out _).mono ?_
  rintro e w1 ⟨rfl, hb1⟩
  replace HB := below_on HB hb1
  clear hb1
  go_wp2_with fail
  refine (hA.out _).mono ?_
  rintro e w1 ⟨rfl, hb1⟩
  replace HB := below_on HB hb1
  clear hb1
  go_wp2_with fail
  refine (hL1.out _).mono ?_
  rintro e w1 ⟨rfl, hb1⟩
  replace HB := below_on HB hb1
  clear hb1
  go_wp2_with fail
  refine (hP.out _).mono ?_
  rintro e w1 ⟨rfl, hb1⟩
  replace HB := below_on HB hb1
  clear hb1
  go_wp2_with fail
  refine (hS.out _).mono ?_
  rintro e w1 ⟨rfl, hb1⟩
  replace HB := below_on HB hb1
  clear hb1
  go_wp2_with fail
  refine (hL2.out _).mono ?_
  rintro e w1 ⟨rfl, hb1⟩
  replace HB := below_on HB hb1
  clear hb1
  go_wp2_with fail
  refine (hO.out _).mono ?_
  rintro e w1 ⟨rfl, hb1⟩
  replace HB := below_on HB hb1
  clear hb1
  go_wp2_with fail
  go_ret
  exact ⟨rfl, HB⟩

namespace Flt
theorem sr_nneg {b v : Int} (h : Pat b v) (c : ¬ cls b v = 4) : sr (nneg b v) v = -sr b v ∧ Pat (nneg b v) v ∧ ¬ cls (nneg b v) v = 4 := by
  rcases h with ⟨rfl, h⟩ | ⟨rfl, h⟩
  · have c' : ¬ cls64 b = 4 := c
    have e1 : sr (nneg b 64) 64 = sr64 (nneg64 b) := rfl
    have e2 : sr b 64 = sr64 b := rfl
    have e3 : nneg b 64 = nneg64 b := rfl
    have e4 : cls (nneg b 64) 64 = cls64 (nneg64 b) := rfl
    have hr := sr64_le b h c'
    rw [e1, e2, e4, e3]
    have hb := h
    obtain ⟨h0, h1⟩ := hb
    unfold nneg64
    rw [if_neg c']
    unfold sr64 at hr ⊢
    by_cases n : b < 0
    · rw [if_pos n] at hr ⊢
      rw [if_pos n]
      refine ⟨by rw [if_neg (by omega)]; omega, .inl ⟨rfl, by omega, by omega⟩, ?_⟩
      intro k; apply c'
      unfold cls64 at k ⊢
      rw [show (b + 9223372036854775808) / 4503599627370496 % 2048 = b / 4503599627370496 % 2048 by omega, show (b + 9223372036854775808) % 4503599627370496 = b % 4503599627370496 by omega] at k
      exact k
    · rw [if_neg n] at hr ⊢
      rw [if_neg n]
      refine ⟨by rw [if_pos (by omega)]; omega, .inl ⟨rfl, by omega, by omega⟩, ?_⟩
      intro k; apply c'
      unfold cls64 at k ⊢
      rw [show (b - 9223372036854775808) / 4503599627370496 % 2048 = b / 4503599627370496 % 2048 by omega, show (b - 9223372036854775808) % 4503599627370496 = b % 4503599627370496 by omega] at k
      exact k
  · have c' : ¬ cls32 b = 4 := c
    have e1 : sr (nneg b 32) 32 = sr32 (nneg32 b) := rfl
    have e2 : sr b 32 = sr32 b := rfl
    have e3 : nneg b 32 = nneg32 b := rfl
    have e4 : cls (nneg b 32) 32 = cls32 (nneg32 b) := rfl
    have hr := sr32_le b c'
    rw [e1, e2, e4, e3]
    obtain ⟨h0, h1⟩ := valid_bounds h
    unfold nneg32
    rw [if_neg c']
    unfold sr32 at hr ⊢
    by_cases n : 2147483648 ≤ b
    · rw [if_pos n] at hr ⊢
      rw [if_pos n]
      have hv : valid32 (b - 2147483648) = true := by unfold valid32; rw [decide_eq_true (by omega), decide_eq_true (by omega)]; rfl
      refine ⟨by rw [if_neg (by omega)]; omega, .inr ⟨rfl, hv⟩, ?_⟩
      intro k; apply c'
      unfold cls32 at k ⊢
      rw [if_pos hv, show (b - 2147483648) / 8388608 % 256 = b / 8388608 % 256 by omega, show (b - 2147483648) % 8388608 = b % 8388608 by omega] at k
      rw [if_pos h]; exact k
    · rw [if_neg n] at hr ⊢
      rw [if_neg n]
      have hv : valid32 (b + 2147483648) = true := by unfold valid32; rw [decide_eq_true (by omega), decide_eq_true (by omega)]; rfl
      refine ⟨by rw [if_pos (by omega)]; omega, .inr ⟨rfl, hv⟩, ?_⟩
      intro k; apply c'
      unfold cls32 at k ⊢
      rw [if_pos hv, show (b + 2147483648) / 8388608 % 256 = b / 8388608 % 256 by omega, show (b + 2147483648) % 8388608 = b % 8388608 by omega] at k
      rw [if_pos h]; exact k
/-- infinity's signed rung -/
def top (v : Int) : Int := if v = 64 then 9218868437227405312 else 2139095040
theorem cls_of_sr {b v : Int} (h : Pat b v) : cls b v = 4 ↔ top v < sr b v ∨ sr b v < -top v := by
  rcases h with ⟨rfl, h⟩ | ⟨rfl, h⟩
  · show cls64 b = 4 ↔ (9218868437227405312 : Int) < sr64 b ∨ sr64 b < -9218868437227405312
    obtain ⟨h0, h1⟩ := h
    unfold cls64 sr64
    by_cases n : b < 0
    · rw [if_pos n]
      constructor
      · intro k
        by_cases c : b / 4503599627370496 % 2048 = 2047
        · rw [if_pos c] at k; split at k <;> omega
        · rw [if_neg c] at k; (repeat' split at k) <;> omega
      · intro k
        rw [if_pos (by omega), if_neg (by omega)]
    · rw [if_neg n]
      constructor
      · intro k
        by_cases c : b / 4503599627370496 % 2048 = 2047
        · rw [if_pos c] at k; split at k <;> omega
        · rw [if_neg c] at k; (repeat' split at k) <;> omega
      · intro k
        rw [if_pos (by omega), if_neg (by omega)]
  · show cls32 b = 4 ↔ (2139095040 : Int) < sr32 b ∨ sr32 b < -2139095040
    obtain ⟨h0, h1⟩ := valid_bounds h
    unfold cls32 sr32
    rw [if_pos h]
    by_cases n : 2147483648 ≤ b
    · rw [if_pos n]
      constructor
      · intro k
        by_cases c : b / 8388608 % 256 = 255
        · rw [if_pos c] at k; split at k <;> omega
        · rw [if_neg c] at k; (repeat' split at k) <;> omega
      · intro k
        rw [if_pos (by omega), if_neg (by omega)]
    · rw [if_neg n]
      constructor
      · intro k
        by_cases c : b / 8388608 % 256 = 255
        · rw [if_pos c] at k; split at k <;> omega
        · rw [if_neg c] at k; (repeat' split at k) <;> omega
      · intro k
        rw [if_pos (by omega), if_neg (by omega)]
/-- the next one's place is the next place -/
theorem sr_nxt {b v : Int} (h : Pat b v) (c : ¬ cls b v = 4) (ci : ¬ sr b v = top v) : sr (nxt b v) v = sr b v + 1 ∧ Pat (nxt b v) v := by
  rcases h with ⟨rfl, h⟩ | ⟨rfl, h⟩
  · have c' : ¬ cls64 b = 4 := c
    have e1 : sr (nxt b 64) 64 = sr64 (nxt64 b) := rfl
    have e2 : sr b 64 = sr64 b := rfl
    have e3 : nxt b 64 = nxt64 b := rfl
    have ct : ¬ sr64 b = 9218868437227405312 := ci
    have hr := sr64_le b h c'
    have hz := cls64_zero b h
    have hi := I64_nxt b 64 h
    rw [e3] at hi
    rw [e1, e2, e3]
    refine ⟨?_, .inl ⟨rfl, hi⟩⟩
    obtain ⟨h0, h1⟩ := h
    have hb : ¬ b = inf64 := fun k => ct (by rw [k]; decide)
    unfold nxt64
    rw [if_neg c', if_neg hb]
    by_cases z : cls64 b = 0
    · rw [if_pos z, hz.1 z]; decide
    · rw [if_neg z]
      have z' : ¬ sr64 b = 0 := fun k => z (hz.2 k)
      unfold sr64 at hr z' ⊢
      by_cases n : b < 0
      · rw [if_pos n] at hr z' ⊢
        rw [if_pos n, if_pos (by omega)]; omega
      · rw [if_neg n] at hr z' ⊢
        rw [if_neg n, if_neg (by omega)]
  · have c' : ¬ cls32 b = 4 := c
    have e1 : sr (nxt b 32) 32 = sr32 (nxt32 b) := rfl
    have e2 : sr b 32 = sr32 b := rfl
    have e3 : nxt b 32 = nxt32 b := rfl
    have ct : ¬ sr32 b = 2139095040 := ci
    have hr := sr32_le b c'
    have hz := cls32_zero b h
    obtain ⟨h0, h1⟩ := valid_bounds h
    have hb : ¬ b = inf32 := fun k => ct (by rw [k]; decide)
    rw [e1, e2, e3]
    unfold nxt32
    rw [if_neg c', if_neg hb]
    by_cases z : cls32 b = 0
    · rw [if_pos z, hz.1 z]; exact ⟨by decide, .inr ⟨rfl, by decide⟩⟩
    · rw [if_neg z]
      have z' : ¬ sr32 b = 0 := fun k => z (hz.2 k)
      unfold sr32 at hr z' ct ⊢
      by_cases n : 2147483648 ≤ b
      · rw [if_pos n] at hr z' ct ⊢
        rw [if_pos n, if_pos (by omega)]
        exact ⟨by omega, .inr ⟨rfl, by unfold valid32; rw [decide_eq_true (by omega), decide_eq_true (by omega)]; rfl⟩⟩
      · rw [if_neg n] at hr z' ct ⊢
        rw [if_neg n, if_neg (by omega)]
        exact ⟨rfl, .inr ⟨rfl, by unfold valid32; rw [decide_eq_true (by omega), decide_eq_true (by omega)]; rfl⟩⟩
end Flt
end Go.Proofs.Ytjogbiopbobifaa
