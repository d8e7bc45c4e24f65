/- BitsChain's own walk. -/
import Derived.Test.YtjogbiopbobifaaOutA
import Derived.Test.YtjogbiopbobifaaMinMax
namespace Go.Proofs.Ytjogbiopbobifaa
open Go.RowKit

set_option maxRecDepth 100000 in
set_option maxHeartbeats 2000000 in
set_option linter.unusedVariables false in
theorem chain_nnt (a0 b0 c0 w0 a b c v z u ca cb n : Int) (lt : Bool) (hE : Hid (Tells 22 #[.int .i64 w0] (.int .i64 v))) (hPA : Hid (Tells 23 #[.int .i64 a0, .int .i64 v] (.int .i64 a))) (hPB : Hid (Tells 23 #[.int .i64 b0, .int .i64 v] (.int .i64 b))) (hPC : Hid (Tells 23 #[.int .i64 c0, .int .i64 v] (.int .i64 c))) (hX : Hid (Tells 24 #[.int .i64 a, .int .i64 b, .int .i64 v] (.int .i64 0))) (hY : Hid (Tells 24 #[.int .i64 b, .int .i64 a, .int .i64 v] (.int .i64 0))) (hL : Hid (Tells 25 #[.int .i64 a, .int .i64 b, .int .i64 v] (.bool false))) (hZ : Hid (Tells 24 #[.int .i64 b, .int .i64 c, .int .i64 v] (.int .i64 z))) (zq : decide (z ≤ 0) = true) (hU : Hid (Tells 24 #[.int .i64 a, .int .i64 c, .int .i64 v] (.int .i64 u))) (uq : decide (0 < u) = false) (hLo : Hid (Tells 26 #[.int .i64 a, .int .i64 b, .int .i64 v] (.int .i64 n))) (hHi : Hid (Tells 27 #[.int .i64 a, .int .i64 b, .int .i64 v] (.int .i64 n))) (hA : Hid (Tells 28 #[.int .i64 a, .int .i64 v] (.int .i64 ca))) (c1 : (ca == 4) = true) (hN : Hid (Tells 28 #[.int .i64 n, .int .i64 v] (.int .i64 4))) : Tells 6 #[.int .i64 a0, .int .i64 b0, .int .i64 c0, .int .i64 w0] (.bool true) := by
  intro w
  have HB : Below w.heap.size w w := Below.refl _ _
  go_enter Try.func6, Try.ntmps6
  go_wp2_with fail
  refine (hE.out _).mono ?_
  rintro e w1 ⟨rfl, hb1⟩
  replace HB := below_on HB hb1
  clear hb1
  go_wp2_with fail
  refine (hPA.out _).mono ?_
  rintro e w1 ⟨rfl, hb1⟩
  replace HB := below_on HB hb1
  clear hb1
  go_wp2_with fail
  refine (hPB.out _).mono ?_
  rintro e w1 ⟨rfl, hb1⟩
  replace HB := below_on HB hb1
  clear hb1
  go_wp2_with fail
  refine (hPC.out _).mono ?_
  rintro e w1 ⟨rfl, hb1⟩
  replace HB := below_on HB hb1
  clear hb1
  go_wp2_with fail
  refine (hX.out _).mono ?_
  rintro e w1 ⟨rfl, hb1⟩
  replace HB := below_on HB hb1
  clear hb1
  go_wp2_with fail
  refine (alive_any _).mono ?_
  rintro e w1 ⟨rfl, hb1⟩
  replace HB := below_on HB hb1
  clear hb1
  go_wp2_with fail
  refine (hY.out _).mono ?_
  rintro e w1 ⟨rfl, hb1⟩
  replace HB := below_on HB hb1
  clear hb1
  go_wp2_with fail
  refine (hL.out _).mono ?_
  rintro e w1 ⟨rfl, hb1⟩
  replace HB := below_on HB hb1
  clear hb1
  go_wp2_with fail
  refine (hZ.out _).mono ?_
  rintro e w1 ⟨rfl, hb1⟩
  replace HB := below_on HB hb1
  clear hb1
  go_wp2_with fail
  refine (hU.out _).mono ?_
  rintro e w1 ⟨rfl, hb1⟩
  replace HB := below_on HB hb1
  clear hb1
  go_wp2_with fail
  refine (hLo.out _).mono ?_
  rintro e w1 ⟨rfl, hb1⟩
  replace HB := below_on HB hb1
  clear hb1
  go_wp2_with fail
  refine (hHi.out _).mono ?_
  rintro e w1 ⟨rfl, hb1⟩
  replace HB := below_on HB hb1
  clear hb1
  go_wp2_with fail
  refine (hA.out _).mono ?_
  rintro e w1 ⟨rfl, hb1⟩
  replace HB := below_on HB hb1
  clear hb1
  go_wp2_with fail
  refine (hN.out _).mono ?_
  rintro e w1 ⟨rfl, hb1⟩
  replace HB := below_on HB hb1
  clear hb1
  go_wp2_with fail
  go_ret
  exact ⟨rfl, HB⟩

set_option maxRecDepth 100000 in
set_option maxHeartbeats 2000000 in
set_option linter.unusedVariables false in
theorem chain_nnf (a0 b0 c0 w0 a b c v z u ca cb n : Int) (lt : Bool) (hE : Hid (Tells 22 #[.int .i64 w0] (.int .i64 v))) (hPA : Hid (Tells 23 #[.int .i64 a0, .int .i64 v] (.int .i64 a))) (hPB : Hid (Tells 23 #[.int .i64 b0, .int .i64 v] (.int .i64 b))) (hPC : Hid (Tells 23 #[.int .i64 c0, .int .i64 v] (.int .i64 c))) (hX : Hid (Tells 24 #[.int .i64 a, .int .i64 b, .int .i64 v] (.int .i64 0))) (hY : Hid (Tells 24 #[.int .i64 b, .int .i64 a, .int .i64 v] (.int .i64 0))) (hL : Hid (Tells 25 #[.int .i64 a, .int .i64 b, .int .i64 v] (.bool false))) (hZ : Hid (Tells 24 #[.int .i64 b, .int .i64 c, .int .i64 v] (.int .i64 z))) (zq : decide (z ≤ 0) = false) (hLo : Hid (Tells 26 #[.int .i64 a, .int .i64 b, .int .i64 v] (.int .i64 n))) (hHi : Hid (Tells 27 #[.int .i64 a, .int .i64 b, .int .i64 v] (.int .i64 n))) (hA : Hid (Tells 28 #[.int .i64 a, .int .i64 v] (.int .i64 ca))) (c1 : (ca == 4) = true) (hN : Hid (Tells 28 #[.int .i64 n, .int .i64 v] (.int .i64 4))) : Tells 6 #[.int .i64 a0, .int .i64 b0, .int .i64 c0, .int .i64 w0] (.bool true) := by
  intro w
  have HB : Below w.heap.size w w := Below.refl _ _
  go_enter Try.func6, Try.ntmps6
  go_wp2_with fail
  refine (hE.out _).mono ?_
  rintro e w1 ⟨rfl, hb1⟩
  replace HB := below_on HB hb1
  clear hb1
  go_wp2_with fail
  refine (hPA.out _).mono ?_
  rintro e w1 ⟨rfl, hb1⟩
  replace HB := below_on HB hb1
  clear hb1
  go_wp2_with fail
  refine (hPB.out _).mono ?_
  rintro e w1 ⟨rfl, hb1⟩
  replace HB := below_on HB hb1
  clear hb1
  go_wp2_with fail
  refine (hPC.out _).mono ?_
  rintro e w1 ⟨rfl, hb1⟩
  replace HB := below_on HB hb1
  clear hb1
  go_wp2_with fail
  refine (hX.out _).mono ?_
  rintro e w1 ⟨rfl, hb1⟩
  replace HB := below_on HB hb1
  clear hb1
  go_wp2_with fail
  refine (alive_any _).mono ?_
  rintro e w1 ⟨rfl, hb1⟩
  replace HB := below_on HB hb1
  clear hb1
  go_wp2_with fail
  refine (hY.out _).mono ?_
  rintro e w1 ⟨rfl, hb1⟩
  replace HB := below_on HB hb1
  clear hb1
  go_wp2_with fail
  refine (hL.out _).mono ?_
  rintro e w1 ⟨rfl, hb1⟩
  replace HB := below_on HB hb1
  clear hb1
  go_wp2_with fail
  refine (hZ.out _).mono ?_
  rintro e w1 ⟨rfl, hb1⟩
  replace HB := below_on HB hb1
  clear hb1
  go_wp2_with fail
  refine (hLo.out _).mono ?_
  rintro e w1 ⟨rfl, hb1⟩
  replace HB := below_on HB hb1
  clear hb1
  go_wp2_with fail
  refine (hHi.out _).mono ?_
  rintro e w1 ⟨rfl, hb1⟩
  replace HB := below_on HB hb1
  clear hb1
  go_wp2_with fail
  refine (hA.out _).mono ?_
  rintro e w1 ⟨rfl, hb1⟩
  replace HB := below_on HB hb1
  clear hb1
  go_wp2_with fail
  refine (hN.out _).mono ?_
  rintro e w1 ⟨rfl, hb1⟩
  replace HB := below_on HB hb1
  clear hb1
  go_wp2_with fail
  go_ret
  exact ⟨rfl, HB⟩

set_option maxRecDepth 100000 in
set_option maxHeartbeats 2000000 in
set_option linter.unusedVariables false in
theorem chain_nx (a0 b0 c0 w0 a b c v z u ca cb n : Int) (lt : Bool) (hE : Hid (Tells 22 #[.int .i64 w0] (.int .i64 v))) (hPA : Hid (Tells 23 #[.int .i64 a0, .int .i64 v] (.int .i64 a))) (hPB : Hid (Tells 23 #[.int .i64 b0, .int .i64 v] (.int .i64 b))) (hPC : Hid (Tells 23 #[.int .i64 c0, .int .i64 v] (.int .i64 c))) (hX : Hid (Tells 24 #[.int .i64 a, .int .i64 b, .int .i64 v] (.int .i64 1))) (hY : Hid (Tells 24 #[.int .i64 b, .int .i64 a, .int .i64 v] (.int .i64 (-1)))) (hL : Hid (Tells 25 #[.int .i64 a, .int .i64 b, .int .i64 v] (.bool false))) (hLo : Hid (Tells 26 #[.int .i64 a, .int .i64 b, .int .i64 v] (.int .i64 n))) (hHi : Hid (Tells 27 #[.int .i64 a, .int .i64 b, .int .i64 v] (.int .i64 n))) (hA : Hid (Tells 28 #[.int .i64 a, .int .i64 v] (.int .i64 ca))) (c1 : (ca == 4) = true) (hN : Hid (Tells 28 #[.int .i64 n, .int .i64 v] (.int .i64 4))) : Tells 6 #[.int .i64 a0, .int .i64 b0, .int .i64 c0, .int .i64 w0] (.bool true) := by
  intro w
  have HB : Below w.heap.size w w := Below.refl _ _
  go_enter Try.func6, Try.ntmps6
  go_wp2_with fail
  refine (hE.out _).mono ?_
  rintro e w1 ⟨rfl, hb1⟩
  replace HB := below_on HB hb1
  clear hb1
  go_wp2_with fail
  refine (hPA.out _).mono ?_
  rintro e w1 ⟨rfl, hb1⟩
  replace HB := below_on HB hb1
  clear hb1
  go_wp2_with fail
  refine (hPB.out _).mono ?_
  rintro e w1 ⟨rfl, hb1⟩
  replace HB := below_on HB hb1
  clear hb1
  go_wp2_with fail
  refine (hPC.out _).mono ?_
  rintro e w1 ⟨rfl, hb1⟩
  replace HB := below_on HB hb1
  clear hb1
  go_wp2_with fail
  refine (hX.out _).mono ?_
  rintro e w1 ⟨rfl, hb1⟩
  replace HB := below_on HB hb1
  clear hb1
  go_wp2_with fail
  refine (alive_any _).mono ?_
  rintro e w1 ⟨rfl, hb1⟩
  replace HB := below_on HB hb1
  clear hb1
  go_wp2_with fail
  refine (hY.out _).mono ?_
  rintro e w1 ⟨rfl, hb1⟩
  replace HB := below_on HB hb1
  clear hb1
  go_wp2_with fail
  refine (hL.out _).mono ?_
  rintro e w1 ⟨rfl, hb1⟩
  replace HB := below_on HB hb1
  clear hb1
  go_wp2_with fail
  refine (hLo.out _).mono ?_
  rintro e w1 ⟨rfl, hb1⟩
  replace HB := below_on HB hb1
  clear hb1
  go_wp2_with fail
  refine (hHi.out _).mono ?_
  rintro e w1 ⟨rfl, hb1⟩
  replace HB := below_on HB hb1
  clear hb1
  go_wp2_with fail
  refine (hA.out _).mono ?_
  rintro e w1 ⟨rfl, hb1⟩
  replace HB := below_on HB hb1
  clear hb1
  go_wp2_with fail
  refine (hN.out _).mono ?_
  rintro e w1 ⟨rfl, hb1⟩
  replace HB := below_on HB hb1
  clear hb1
  go_wp2_with fail
  go_ret
  exact ⟨rfl, HB⟩

set_option maxRecDepth 100000 in
set_option maxHeartbeats 2000000 in
set_option linter.unusedVariables false in
theorem chain_xnt (a0 b0 c0 w0 a b c v z u ca cb n : Int) (lt : Bool) (hE : Hid (Tells 22 #[.int .i64 w0] (.int .i64 v))) (hPA : Hid (Tells 23 #[.int .i64 a0, .int .i64 v] (.int .i64 a))) (hPB : Hid (Tells 23 #[.int .i64 b0, .int .i64 v] (.int .i64 b))) (hPC : Hid (Tells 23 #[.int .i64 c0, .int .i64 v] (.int .i64 c))) (hX : Hid (Tells 24 #[.int .i64 a, .int .i64 b, .int .i64 v] (.int .i64 (-1)))) (hY : Hid (Tells 24 #[.int .i64 b, .int .i64 a, .int .i64 v] (.int .i64 1))) (hL : Hid (Tells 25 #[.int .i64 a, .int .i64 b, .int .i64 v] (.bool lt))) (hZ : Hid (Tells 24 #[.int .i64 b, .int .i64 c, .int .i64 v] (.int .i64 z))) (zq : decide (z ≤ 0) = true) (hU : Hid (Tells 24 #[.int .i64 a, .int .i64 c, .int .i64 v] (.int .i64 u))) (uq : decide (0 < u) = false) (hLo : Hid (Tells 26 #[.int .i64 a, .int .i64 b, .int .i64 v] (.int .i64 n))) (hHi : Hid (Tells 27 #[.int .i64 a, .int .i64 b, .int .i64 v] (.int .i64 n))) (hA : Hid (Tells 28 #[.int .i64 a, .int .i64 v] (.int .i64 ca))) (c1 : (ca == 4) = false) (hB : Hid (Tells 28 #[.int .i64 b, .int .i64 v] (.int .i64 cb))) (c2 : (cb == 4) = true) (hN : Hid (Tells 28 #[.int .i64 n, .int .i64 v] (.int .i64 4))) : Tells 6 #[.int .i64 a0, .int .i64 b0, .int .i64 c0, .int .i64 w0] (.bool true) := by
  intro w
  cases lt
  all_goals
    have HB : Below w.heap.size w w := Below.refl _ _
    go_enter Try.func6, Try.ntmps6
    go_wp2_with fail
    refine (hE.out _).mono ?_
    rintro e w1 ⟨rfl, hb1⟩
    replace HB := below_on HB hb1
    clear hb1
    go_wp2_with fail
    refine (hPA.out _).mono ?_
    rintro e w1 ⟨rfl, hb1⟩
    replace HB := below_on HB hb1
    clear hb1
    go_wp2_with fail
    refine (hPB.out _).mono ?_
    rintro e w1 ⟨rfl, hb1⟩
    replace HB := below_on HB hb1
    clear hb1
    go_wp2_with fail
    refine (hPC.out _).mono ?_
    rintro e w1 ⟨rfl, hb1⟩
    replace HB := below_on HB hb1
    clear hb1
    go_wp2_with fail
    refine (hX.out _).mono ?_
    rintro e w1 ⟨rfl, hb1⟩
    replace HB := below_on HB hb1
    clear hb1
    go_wp2_with fail
    refine (alive_any _).mono ?_
    rintro e w1 ⟨rfl, hb1⟩
    replace HB := below_on HB hb1
    clear hb1
    go_wp2_with fail
    refine (hY.out _).mono ?_
    rintro e w1 ⟨rfl, hb1⟩
    replace HB := below_on HB hb1
    clear hb1
    go_wp2_with fail
    refine (hL.out _).mono ?_
    rintro e w1 ⟨rfl, hb1⟩
    replace HB := below_on HB hb1
    clear hb1
    go_wp2_with fail
    refine (hZ.out _).mono ?_
    rintro e w1 ⟨rfl, hb1⟩
    replace HB := below_on HB hb1
    clear hb1
    go_wp2_with fail
    refine (hU.out _).mono ?_
    rintro e w1 ⟨rfl, hb1⟩
    replace HB := below_on HB hb1
    clear hb1
    go_wp2_with fail
    refine (hLo.out _).mono ?_
    rintro e w1 ⟨rfl, hb1⟩
    replace HB := below_on HB hb1
    clear hb1
    go_wp2_with fail
    refine (hHi.out _).mono ?_
    rintro e w1 ⟨rfl, hb1⟩
    replace HB := below_on HB hb1
    clear hb1
    go_wp2_with fail
    refine (hA.out _).mono ?_
    rintro e w1 ⟨rfl, hb1⟩
    replace HB := below_on HB hb1
    clear hb1
    go_wp2_with fail
    refine (hB.out _).mono ?_
    rintro e w1 ⟨rfl, hb1⟩
    replace HB := below_on HB hb1
    clear hb1
    go_wp2_with fail
    refine (hN.out _).mono ?_
    rintro e w1 ⟨rfl, hb1⟩
    replace HB := below_on HB hb1
    clear hb1
    go_wp2_with fail
    go_ret
    exact ⟨rfl, HB⟩

set_option maxRecDepth 100000 in
set_option maxHeartbeats 2000000 in
set_option linter.unusedVariables false in
theorem chain_xnf (a0 b0 c0 w0 a b c v z u ca cb n : Int) (lt : Bool) (hE : Hid (Tells 22 #[.int .i64 w0] (.int .i64 v))) (hPA : Hid (Tells 23 #[.int .i64 a0, .int .i64 v] (.int .i64 a))) (hPB : Hid (Tells 23 #[.int .i64 b0, .int .i64 v] (.int .i64 b))) (hPC : Hid (Tells 23 #[.int .i64 c0, .int .i64 v] (.int .i64 c))) (hX : Hid (Tells 24 #[.int .i64 a, .int .i64 b, .int .i64 v] (.int .i64 (-1)))) (hY : Hid (Tells 24 #[.int .i64 b, .int .i64 a, .int .i64 v] (.int .i64 1))) (hL : Hid (Tells 25 #[.int .i64 a, .int .i64 b, .int .i64 v] (.bool lt))) (hZ : Hid (Tells 24 #[.int .i64 b, .int .i64 c, .int .i64 v] (.int .i64 z))) (zq : decide (z ≤ 0) = false) (hLo : Hid (Tells 26 #[.int .i64 a, .int .i64 b, .int .i64 v] (.int .i64 n))) (hHi : Hid (Tells 27 #[.int .i64 a, .int .i64 b, .int .i64 v] (.int .i64 n))) (hA : Hid (Tells 28 #[.int .i64 a, .int .i64 v] (.int .i64 ca))) (c1 : (ca == 4) = false) (hB : Hid (Tells 28 #[.int .i64 b, .int .i64 v] (.int .i64 cb))) (c2 : (cb == 4) = true) (hN : Hid (Tells 28 #[.int .i64 n, .int .i64 v] (.int .i64 4))) : Tells 6 #[.int .i64 a0, .int .i64 b0, .int .i64 c0, .int .i64 w0] (.bool true) := by
  intro w
  cases lt
  all_goals
    have HB : Below w.heap.size w w := Below.refl _ _
    go_enter Try.func6, Try.ntmps6
    go_wp2_with fail
    refine (hE.out _).mono ?_
    rintro e w1 ⟨rfl, hb1⟩
    replace HB := below_on HB hb1
    clear hb1
    go_wp2_with fail
    refine (hPA.out _).mono ?_
    rintro e w1 ⟨rfl, hb1⟩
    replace HB := below_on HB hb1
    clear hb1
    go_wp2_with fail
    refine (hPB.out _).mono ?_
    rintro e w1 ⟨rfl, hb1⟩
    replace HB := below_on HB hb1
    clear hb1
    go_wp2_with fail
    refine (hPC.out _).mono ?_
    rintro e w1 ⟨rfl, hb1⟩
    replace HB := below_on HB hb1
    clear hb1
    go_wp2_with fail
    refine (hX.out _).mono ?_
    rintro e w1 ⟨rfl, hb1⟩
    replace HB := below_on HB hb1
    clear hb1
    go_wp2_with fail
    refine (alive_any _).mono ?_
    rintro e w1 ⟨rfl, hb1⟩
    replace HB := below_on HB hb1
    clear hb1
    go_wp2_with fail
    refine (hY.out _).mono ?_
    rintro e w1 ⟨rfl, hb1⟩
    replace HB := below_on HB hb1
    clear hb1
    go_wp2_with fail
    refine (hL.out _).mono ?_
    rintro e w1 ⟨rfl, hb1⟩
    replace HB := below_on HB hb1
    clear hb1
    go_wp2_with fail
    refine (hZ.out _).mono ?_
    rintro e w1 ⟨rfl, hb1⟩
    replace HB := below_on HB hb1
    clear hb1
    go_wp2_with fail
    refine (hLo.out _).mono ?_
    rintro e w1 ⟨rfl, hb1⟩
    replace HB := below_on HB hb1
    clear hb1
    go_wp2_with fail
    refine (hHi.out _).mono ?_
    rintro e w1 ⟨rfl, hb1⟩
    replace HB := below_on HB hb1
    clear hb1
    go_wp2_with fail
    refine (hA.out _).mono ?_
    rintro e w1 ⟨rfl, hb1⟩
    replace HB := below_on HB hb1
    clear hb1
    go_wp2_with fail
    refine (hB.out _).mono ?_
    rintro e w1 ⟨rfl, hb1⟩
    replace HB := below_on HB hb1
    clear hb1
    go_wp2_with fail
    refine (hN.out _).mono ?_
    rintro e w1 ⟨rfl, hb1⟩
    replace HB := below_on HB hb1
    clear hb1
    go_wp2_with fail
    go_ret
    exact ⟨rfl, HB⟩

set_option maxRecDepth 100000 in
set_option maxHeartbeats 2000000 in
set_option linter.unusedVariables false in
theorem chain_ltt (a0 b0 c0 w0 a b c v z u ca cb n : Int) (lt : Bool) (hE : Hid (Tells 22 #[.int .i64 w0] (.int .i64 v))) (hPA : Hid (Tells 23 #[.int .i64 a0, .int .i64 v] (.int .i64 a))) (hPB : Hid (Tells 23 #[.int .i64 b0, .int .i64 v] (.int .i64 b))) (hPC : Hid (Tells 23 #[.int .i64 c0, .int .i64 v] (.int .i64 c))) (hX : Hid (Tells 24 #[.int .i64 a, .int .i64 b, .int .i64 v] (.int .i64 (-1)))) (hY : Hid (Tells 24 #[.int .i64 b, .int .i64 a, .int .i64 v] (.int .i64 1))) (hL : Hid (Tells 25 #[.int .i64 a, .int .i64 b, .int .i64 v] (.bool lt))) (hZ : Hid (Tells 24 #[.int .i64 b, .int .i64 c, .int .i64 v] (.int .i64 z))) (zq : decide (z ≤ 0) = true) (hU : Hid (Tells 24 #[.int .i64 a, .int .i64 c, .int .i64 v] (.int .i64 u))) (uq : decide (0 < u) = false) (hLo : Hid (Tells 26 #[.int .i64 a, .int .i64 b, .int .i64 v] (.int .i64 a))) (hHi : Hid (Tells 27 #[.int .i64 a, .int .i64 b, .int .i64 v] (.int .i64 b))) (hA : Hid (Tells 28 #[.int .i64 a, .int .i64 v] (.int .i64 ca))) (c1 : (ca == 4) = false) (hB : Hid (Tells 28 #[.int .i64 b, .int .i64 v] (.int .i64 cb))) (c2 : (cb == 4) = false) : Tells 6 #[.int .i64 a0, .int .i64 b0, .int .i64 c0, .int .i64 w0] (.bool true) := by
  intro w
  cases lt
  all_goals
    have HB : Below w.heap.size w w := Below.refl _ _
    go_enter Try.func6, Try.ntmps6
    go_wp2_with fail
    refine (hE.out _).mono ?_
    rintro e w1 ⟨rfl, hb1⟩
    replace HB := below_on HB hb1
    clear hb1
    go_wp2_with fail
    refine (hPA.out _).mono ?_
    rintro e w1 ⟨rfl, hb1⟩
    replace HB := below_on HB hb1
    clear hb1
    go_wp2_with fail
    refine (hPB.out _).mono ?_
    rintro e w1 ⟨rfl, hb1⟩
    replace HB := below_on HB hb1
    clear hb1
    go_wp2_with fail
    refine (hPC.out _).mono ?_
    rintro e w1 ⟨rfl, hb1⟩
    replace HB := below_on HB hb1
    clear hb1
    go_wp2_with fail
    refine (hX.out _).mono ?_
    rintro e w1 ⟨rfl, hb1⟩
    replace HB := below_on HB hb1
    clear hb1
    go_wp2_with fail
    refine (alive_any _).mono ?_
    rintro e w1 ⟨rfl, hb1⟩
    replace HB := below_on HB hb1
    clear hb1
    go_wp2_with fail
    refine (hY.out _).mono ?_
    rintro e w1 ⟨rfl, hb1⟩
    replace HB := below_on HB hb1
    clear hb1
    go_wp2_with fail
    refine (hL.out _).mono ?_
    rintro e w1 ⟨rfl, hb1⟩
    replace HB := below_on HB hb1
    clear hb1
    go_wp2_with fail
    refine (hZ.out _).mono ?_
    rintro e w1 ⟨rfl, hb1⟩
    replace HB := below_on HB hb1
    clear hb1
    go_wp2_with fail
    refine (hU.out _).mono ?_
    rintro e w1 ⟨rfl, hb1⟩
    replace HB := below_on HB hb1
    clear hb1
    go_wp2_with fail
    refine (hLo.out _).mono ?_
    rintro e w1 ⟨rfl, hb1⟩
    replace HB := below_on HB hb1
    clear hb1
    go_wp2_with fail
    refine (hHi.out _).mono ?_
    rintro e w1 ⟨rfl, hb1⟩
    replace HB := below_on HB hb1
    clear hb1
    go_wp2_with fail
    refine (hA.out _).mono ?_
    rintro e w1 ⟨rfl, hb1⟩
    replace HB := below_on HB hb1
    clear hb1
    go_wp2_with fail
    refine (hB.out _).mono ?_
    rintro e w1 ⟨rfl, hb1⟩
    replace HB := below_on HB hb1
    clear hb1
    go_wp2_with fail
    refine (hX.out _).mono ?_
    rintro e w1 ⟨rfl, hb1⟩
    replace HB := below_on HB hb1
    clear hb1
    go_wp2_with fail
    go_ret
    exact ⟨rfl, HB⟩

set_option maxRecDepth 100000 in
set_option maxHeartbeats 2000000 in
set_option linter.unusedVariables false in
theorem chain_ltf (a0 b0 c0 w0 a b c v z u ca cb n : Int) (lt : Bool) (hE : Hid (Tells 22 #[.int .i64 w0] (.int .i64 v))) (hPA : Hid (Tells 23 #[.int .i64 a0, .int .i64 v] (.int .i64 a))) (hPB : Hid (Tells 23 #[.int .i64 b0, .int .i64 v] (.int .i64 b))) (hPC : Hid (Tells 23 #[.int .i64 c0, .int .i64 v] (.int .i64 c))) (hX : Hid (Tells 24 #[.int .i64 a, .int .i64 b, .int .i64 v] (.int .i64 (-1)))) (hY : Hid (Tells 24 #[.int .i64 b, .int .i64 a, .int .i64 v] (.int .i64 1))) (hL : Hid (Tells 25 #[.int .i64 a, .int .i64 b, .int .i64 v] (.bool lt))) (hZ : Hid (Tells 24 #[.int .i64 b, .int .i64 c, .int .i64 v] (.int .i64 z))) (zq : decide (z ≤ 0) = false) (hLo : Hid (Tells 26 #[.int .i64 a, .int .i64 b, .int .i64 v] (.int .i64 a))) (hHi : Hid (Tells 27 #[.int .i64 a, .int .i64 b, .int .i64 v] (.int .i64 b))) (hA : Hid (Tells 28 #[.int .i64 a, .int .i64 v] (.int .i64 ca))) (c1 : (ca == 4) = false) (hB : Hid (Tells 28 #[.int .i64 b, .int .i64 v] (.int .i64 cb))) (c2 : (cb == 4) = false) : Tells 6 #[.int .i64 a0, .int .i64 b0, .int .i64 c0, .int .i64 w0] (.bool true) := by
  intro w
  cases lt
  all_goals
    have HB : Below w.heap.size w w := Below.refl _ _
    go_enter Try.func6, Try.ntmps6
    go_wp2_with fail
    refine (hE.out _).mono ?_
    rintro e w1 ⟨rfl, hb1⟩
    replace HB := below_on HB hb1
    clear hb1
    go_wp2_with fail
    refine (hPA.out _).mono ?_
    rintro e w1 ⟨rfl, hb1⟩
    replace HB := below_on HB hb1
    clear hb1
    go_wp2_with fail
    refine (hPB.out _).mono ?_
    rintro e w1 ⟨rfl, hb1⟩
    replace HB := below_on HB hb1
    clear hb1
    go_wp2_with fail
    refine (hPC.out _).mono ?_
    rintro e w1 ⟨rfl, hb1⟩
    replace HB := below_on HB hb1
    clear hb1
    go_wp2_with fail
    refine (hX.out _).mono ?_
    rintro e w1 ⟨rfl, hb1⟩
    replace HB := below_on HB hb1
    clear hb1
    go_wp2_with fail
    refine (alive_any _).mono ?_
    rintro e w1 ⟨rfl, hb1⟩
    replace HB := below_on HB hb1
    clear hb1
    go_wp2_with fail
    refine (hY.out _).mono ?_
    rintro e w1 ⟨rfl, hb1⟩
    replace HB := below_on HB hb1
    clear hb1
    go_wp2_with fail
    refine (hL.out _).mono ?_
    rintro e w1 ⟨rfl, hb1⟩
    replace HB := below_on HB hb1
    clear hb1
    go_wp2_with fail
    refine (hZ.out _).mono ?_
    rintro e w1 ⟨rfl, hb1⟩
    replace HB := below_on HB hb1
    clear hb1
    go_wp2_with fail
    refine (hLo.out _).mono ?_
    rintro e w1 ⟨rfl, hb1⟩
    replace HB := below_on HB hb1
    clear hb1
    go_wp2_with fail
    refine (hHi.out _).mono ?_
    rintro e w1 ⟨rfl, hb1⟩
    replace HB := below_on HB hb1
    clear hb1
    go_wp2_with fail
    refine (hA.out _).mono ?_
    rintro e w1 ⟨rfl, hb1⟩
    replace HB := below_on HB hb1
    clear hb1
    go_wp2_with fail
    refine (hB.out _).mono ?_
    rintro e w1 ⟨rfl, hb1⟩
    replace HB := below_on HB hb1
    clear hb1
    go_wp2_with fail
    refine (hX.out _).mono ?_
    rintro e w1 ⟨rfl, hb1⟩
    replace HB := below_on HB hb1
    clear hb1
    go_wp2_with fail
    go_ret
    exact ⟨rfl, HB⟩

set_option maxRecDepth 100000 in
set_option maxHeartbeats 2000000 in
set_option linter.unusedVariables false in
theorem chain_eqt (a0 b0 c0 w0 a b c v z u ca cb n : Int) (lt : Bool) (hE : Hid (Tells 22 #[.int .i64 w0] (.int .i64 v))) (hPA : Hid (Tells 23 #[.int .i64 a0, .int .i64 v] (.int .i64 a))) (hPB : Hid (Tells 23 #[.int .i64 b0, .int .i64 v] (.int .i64 b))) (hPC : Hid (Tells 23 #[.int .i64 c0, .int .i64 v] (.int .i64 c))) (hX : Hid (Tells 24 #[.int .i64 a, .int .i64 b, .int .i64 v] (.int .i64 0))) (hY : Hid (Tells 24 #[.int .i64 b, .int .i64 a, .int .i64 v] (.int .i64 0))) (hL : Hid (Tells 25 #[.int .i64 a, .int .i64 b, .int .i64 v] (.bool false))) (hZ : Hid (Tells 24 #[.int .i64 b, .int .i64 c, .int .i64 v] (.int .i64 z))) (zq : decide (z ≤ 0) = true) (hU : Hid (Tells 24 #[.int .i64 a, .int .i64 c, .int .i64 v] (.int .i64 u))) (uq : decide (0 < u) = false) (hLo : Hid (Tells 26 #[.int .i64 a, .int .i64 b, .int .i64 v] (.int .i64 a))) (hHi : Hid (Tells 27 #[.int .i64 a, .int .i64 b, .int .i64 v] (.int .i64 b))) (hA : Hid (Tells 28 #[.int .i64 a, .int .i64 v] (.int .i64 ca))) (c1 : (ca == 4) = false) (hB : Hid (Tells 28 #[.int .i64 b, .int .i64 v] (.int .i64 cb))) (c2 : (cb == 4) = false) : Tells 6 #[.int .i64 a0, .int .i64 b0, .int .i64 c0, .int .i64 w0] (.bool true) := by
  intro w
  have HB : Below w.heap.size w w := Below.refl _ _
  go_enter Try.func6, Try.ntmps6
  go_wp2_with fail
  refine (hE.out _).mono ?_
  rintro e w1 ⟨rfl, hb1⟩
  replace HB := below_on HB hb1
  clear hb1
  go_wp2_with fail
  refine (hPA.out _).mono ?_
  rintro e w1 ⟨rfl, hb1⟩
  replace HB := below_on HB hb1
  clear hb1
  go_wp2_with fail
  refine (hPB.out _).mono ?_
  rintro e w1 ⟨rfl, hb1⟩
  replace HB := below_on HB hb1
  clear hb1
  go_wp2_with fail
  refine (hPC.out _).mono ?_
  rintro e w1 ⟨rfl, hb1⟩
  replace HB := below_on HB hb1
  clear hb1
  go_wp2_with fail
  refine (hX.out _).mono ?_
  rintro e w1 ⟨rfl, hb1⟩
  replace HB := below_on HB hb1
  clear hb1
  go_wp2_with fail
  refine (alive_any _).mono ?_
  rintro e w1 ⟨rfl, hb1⟩
  replace HB := below_on HB hb1
  clear hb1
  go_wp2_with fail
  refine (hY.out _).mono ?_
  rintro e w1 ⟨rfl, hb1⟩
  replace HB := below_on HB hb1
  clear hb1
  go_wp2_with fail
  refine (hL.out _).mono ?_
  rintro e w1 ⟨rfl, hb1⟩
  replace HB := below_on HB hb1
  clear hb1
  go_wp2_with fail
  refine (hZ.out _).mono ?_
  rintro e w1 ⟨rfl, hb1⟩
  replace HB := below_on HB hb1
  clear hb1
  go_wp2_with fail
  refine (hU.out _).mono ?_
  rintro e w1 ⟨rfl, hb1⟩
  replace HB := below_on HB hb1
  clear hb1
  go_wp2_with fail
  refine (hLo.out _).mono ?_
  rintro e w1 ⟨rfl, hb1⟩
  replace HB := below_on HB hb1
  clear hb1
  go_wp2_with fail
  refine (hHi.out _).mono ?_
  rintro e w1 ⟨rfl, hb1⟩
  replace HB := below_on HB hb1
  clear hb1
  go_wp2_with fail
  refine (hA.out _).mono ?_
  rintro e w1 ⟨rfl, hb1⟩
  replace HB := below_on HB hb1
  clear hb1
  go_wp2_with fail
  refine (hB.out _).mono ?_
  rintro e w1 ⟨rfl, hb1⟩
  replace HB := below_on HB hb1
  clear hb1
  go_wp2_with fail
  refine (hX.out _).mono ?_
  rintro e w1 ⟨rfl, hb1⟩
  replace HB := below_on HB hb1
  clear hb1
  go_wp2_with fail
  go_ret
  exact ⟨rfl, HB⟩

set_option maxRecDepth 100000 in
set_option maxHeartbeats 2000000 in
set_option linter.unusedVariables false in
theorem chain_eqf (a0 b0 c0 w0 a b c v z u ca cb n : Int) (lt : Bool) (hE : Hid (Tells 22 #[.int .i64 w0] (.int .i64 v))) (hPA : Hid (Tells 23 #[.int .i64 a0, .int .i64 v] (.int .i64 a))) (hPB : Hid (Tells 23 #[.int .i64 b0, .int .i64 v] (.int .i64 b))) (hPC : Hid (Tells 23 #[.int .i64 c0, .int .i64 v] (.int .i64 c))) (hX : Hid (Tells 24 #[.int .i64 a, .int .i64 b, .int .i64 v] (.int .i64 0))) (hY : Hid (Tells 24 #[.int .i64 b, .int .i64 a, .int .i64 v] (.int .i64 0))) (hL : Hid (Tells 25 #[.int .i64 a, .int .i64 b, .int .i64 v] (.bool false))) (hZ : Hid (Tells 24 #[.int .i64 b, .int .i64 c, .int .i64 v] (.int .i64 z))) (zq : decide (z ≤ 0) = false) (hLo : Hid (Tells 26 #[.int .i64 a, .int .i64 b, .int .i64 v] (.int .i64 a))) (hHi : Hid (Tells 27 #[.int .i64 a, .int .i64 b, .int .i64 v] (.int .i64 b))) (hA : Hid (Tells 28 #[.int .i64 a, .int .i64 v] (.int .i64 ca))) (c1 : (ca == 4) = false) (hB : Hid (Tells 28 #[.int .i64 b, .int .i64 v] (.int .i64 cb))) (c2 : (cb == 4) = false) : Tells 6 #[.int .i64 a0, .int .i64 b0, .int .i64 c0, .int .i64 w0] (.bool true) := by
  intro w
  have HB : Below w.heap.size w w := Below.refl _ _
  go_enter Try.func6, Try.ntmps6
  go_wp2_with fail
  refine (hE.out _).mono ?_
  rintro e w1 ⟨rfl, hb1⟩
  replace HB := below_on HB hb1
  clear hb1
  go_wp2_with fail
  refine (hPA.out _).mono ?_
  rintro e w1 ⟨rfl, hb1⟩
  replace HB := below_on HB hb1
  clear hb1
  go_wp2_with fail
  refine (hPB.out _).mono ?_
  rintro e w1 ⟨rfl, hb1⟩
  replace HB := below_on HB hb1
  clear hb1
  go_wp2_with fail
  refine (hPC.out _).mono ?_
  rintro e w1 ⟨rfl, hb1⟩
  replace HB := below_on HB hb1
  clear hb1
  go_wp2_with fail
  refine (hX.out _).mono ?_
  rintro e w1 ⟨rfl, hb1⟩
  replace HB := below_on HB hb1
  clear hb1
  go_wp2_with fail
  refine (alive_any _).mono ?_
  rintro e w1 ⟨rfl, hb1⟩
  replace HB := below_on HB hb1
  clear hb1
  go_wp2_with fail
  refine (hY.out _).mono ?_
  rintro e w1 ⟨rfl, hb1⟩
  replace HB := below_on HB hb1
  clear hb1
  go_wp2_with fail
  refine (hL.out _).mono ?_
  rintro e w1 ⟨rfl, hb1⟩
  replace HB := below_on HB hb1
  clear hb1
  go_wp2_with fail
  refine (hZ.out _).mono ?_
  rintro e w1 ⟨rfl, hb1⟩
  replace HB := below_on HB hb1
  clear hb1
  go_wp2_with fail
  refine (hLo.out _).mono ?_
  rintro e w1 ⟨rfl, hb1⟩
  replace HB := below_on HB hb1
  clear hb1
  go_wp2_with fail
  refine (hHi.out _).mono ?_
  rintro e w1 ⟨rfl, hb1⟩
  replace HB := below_on HB hb1
  clear hb1
  go_wp2_with fail
  refine (hA.out _).mono ?_
  rintro e w1 ⟨rfl, hb1⟩
  replace HB := below_on HB hb1
  clear hb1
  go_wp2_with fail
  refine (hB.out _).mono ?_
  rintro e w1 ⟨rfl, hb1⟩
  replace HB := below_on HB hb1
  clear hb1
  go_wp2_with fail
  refine (hX.out _).mono ?_
  rintro e w1 ⟨rfl, hb1⟩
  replace HB := below_on HB hb1
  clear hb1
  go_wp2_with fail
  go_ret
  exact ⟨rfl, HB⟩

set_option maxRecDepth 100000 in
set_option maxHeartbeats 2000000 in
set_option linter.unusedVariables false in
theorem chain_gt (a0 b0 c0 w0 a b c v z u ca cb n : Int) (lt : Bool) (hE : Hid (Tells 22 #[.int .i64 w0] (.int .i64 v))) (hPA : Hid (Tells 23 #[.int .i64 a0, .int .i64 v] (.int .i64 a))) (hPB : Hid (Tells 23 #[.int .i64 b0, .int .i64 v] (.int .i64 b))) (hPC : Hid (Tells 23 #[.int .i64 c0, .int .i64 v] (.int .i64 c))) (hX : Hid (Tells 24 #[.int .i64 a, .int .i64 b, .int .i64 v] (.int .i64 1))) (hY : Hid (Tells 24 #[.int .i64 b, .int .i64 a, .int .i64 v] (.int .i64 (-1)))) (hL : Hid (Tells 25 #[.int .i64 a, .int .i64 b, .int .i64 v] (.bool false))) (hLo : Hid (Tells 26 #[.int .i64 a, .int .i64 b, .int .i64 v] (.int .i64 b))) (hHi : Hid (Tells 27 #[.int .i64 a, .int .i64 b, .int .i64 v] (.int .i64 a))) (hA : Hid (Tells 28 #[.int .i64 a, .int .i64 v] (.int .i64 ca))) (c1 : (ca == 4) = false) (hB : Hid (Tells 28 #[.int .i64 b, .int .i64 v] (.int .i64 cb))) (c2 : (cb == 4) = false) (ne : (b == a) = false) : Tells 6 #[.int .i64 a0, .int .i64 b0, .int .i64 c0, .int .i64 w0] (.bool true) := by
  intro w
  have HB : Below w.heap.size w w := Below.refl _ _
  go_enter Try.func6, Try.ntmps6
  go_wp2_with fail
  refine (hE.out _).mono ?_
  rintro e w1 ⟨rfl, hb1⟩
  replace HB := below_on HB hb1
  clear hb1
  go_wp2_with fail
  refine (hPA.out _).mono ?_
  rintro e w1 ⟨rfl, hb1⟩
  replace HB := below_on HB hb1
  clear hb1
  go_wp2_with fail
  refine (hPB.out _).mono ?_
  rintro e w1 ⟨rfl, hb1⟩
  replace HB := below_on HB hb1
  clear hb1
  go_wp2_with fail
  refine (hPC.out _).mono ?_
  rintro e w1 ⟨rfl, hb1⟩
  replace HB := below_on HB hb1
  clear hb1
  go_wp2_with fail
  refine (hX.out _).mono ?_
  rintro e w1 ⟨rfl, hb1⟩
  replace HB := below_on HB hb1
  clear hb1
  go_wp2_with fail
  refine (alive_any _).mono ?_
  rintro e w1 ⟨rfl, hb1⟩
  replace HB := below_on HB hb1
  clear hb1
  go_wp2_with fail
  refine (hY.out _).mono ?_
  rintro e w1 ⟨rfl, hb1⟩
  replace HB := below_on HB hb1
  clear hb1
  go_wp2_with fail
  refine (hL.out _).mono ?_
  rintro e w1 ⟨rfl, hb1⟩
  replace HB := below_on HB hb1
  clear hb1
  go_wp2_with fail
  refine (hLo.out _).mono ?_
  rintro e w1 ⟨rfl, hb1⟩
  replace HB := below_on HB hb1
  clear hb1
  go_wp2_with fail
  refine (hHi.out _).mono ?_
  rintro e w1 ⟨rfl, hb1⟩
  replace HB := below_on HB hb1
  clear hb1
  go_wp2_with fail
  refine (hA.out _).mono ?_
  rintro e w1 ⟨rfl, hb1⟩
  replace HB := below_on HB hb1
  clear hb1
  go_wp2_with fail
  refine (hB.out _).mono ?_
  rintro e w1 ⟨rfl, hb1⟩
  replace HB := below_on HB hb1
  clear hb1
  go_wp2_with fail
  refine (hY.out _).mono ?_
  rintro e w1 ⟨rfl, hb1⟩
  replace HB := below_on HB hb1
  clear hb1
  go_wp2_with fail
  go_ret
  exact ⟨rfl, HB⟩
end Go.Proofs.Ytjogbiopbobifaa
