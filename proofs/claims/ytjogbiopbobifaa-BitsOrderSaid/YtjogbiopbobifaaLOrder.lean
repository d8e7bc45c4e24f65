/- BitsOrder's own walk. -/
import Derived.Test.YtjogbiopbobifaaOrderD
namespace Go.Proofs.Ytjogbiopbobifaa
open Go.RowKit

set_option maxRecDepth 100000 in
set_option maxHeartbeats 1000000 in
theorem ordered_law (a b v : Int) (ha : Hid (Flt.I64 a)) (hb : Hid (Flt.I64 b)) : Tells 32 #[.int .i64 a, .int .i64 b, .int .i64 v] (.bool true) := by
  intro w
  have HB : Below w.heap.size w w := Below.refl _ _
  have P1 := Lib.hid (less_any a b v ha.out hb.out)
  have P2 := Lib.hid (rless_any a b v ha.out hb.out)
  have P3 := Lib.hid (same_any a b v ha.out hb.out)
  have P4 := Lib.hid (rsame_any a b v ha.out hb.out)
  have P5 := Lib.hid (order_any a b v ha.out hb.out)
  have p6 := rorder_any a b v ha.out hb.out
  unfold Flt.ord at p6
  have P6 := Lib.hid p6
  clear p6
  have P7 := Lib.hid (min_any a b v ha.out hb.out)
  have P8 := Lib.hid (rmin_any a b v ha.out hb.out)
  have P9 := Lib.hid (max_any a b v ha.out hb.out)
  have P10 := Lib.hid (rmax_any a b v ha.out hb.out)
  generalize (Flt.isW v && Flt.nless a b v) = x1 at *
  generalize (Flt.isW v && Flt.nsame a b v) = x2 at *
  generalize (if Flt.isW v = true then Flt.nord a b v else 0) = x3 at *
  generalize Flt.pickv a b v 1 = x4 at *
  generalize Flt.pickv a b v (-1) = x5 at *
  go_enter Try.func32, Try.ntmps32
  go_wp2_with fail
  refine (P1.out _).mono ?_
  rintro e w1 ⟨rfl, hb1⟩
  replace HB := below_on HB hb1
  clear hb1
  go_wp2_with fail
  refine (P2.out _).mono ?_
  rintro e w1 ⟨rfl, hb1⟩
  replace HB := below_on HB hb1
  clear hb1
  go_wp2_with fail
  refine (P3.out _).mono ?_
  rintro e w1 ⟨rfl, hb1⟩
  replace HB := below_on HB hb1
  clear hb1
  go_wp2_with fail
  refine (P4.out _).mono ?_
  rintro e w1 ⟨rfl, hb1⟩
  replace HB := below_on HB hb1
  clear hb1
  go_wp2_with fail
  refine (P5.out _).mono ?_
  rintro e w1 ⟨rfl, hb1⟩
  replace HB := below_on HB hb1
  clear hb1
  go_wp2_with fail
  refine (P6.out _).mono ?_
  rintro e w1 ⟨rfl, hb1⟩
  replace HB := below_on HB hb1
  clear hb1
  go_wp2_with fail
  refine (P7.out _).mono ?_
  rintro e w1 ⟨rfl, hb1⟩
  replace HB := below_on HB hb1
  clear hb1
  go_wp2_with fail
  refine (P8.out _).mono ?_
  rintro e w1 ⟨rfl, hb1⟩
  replace HB := below_on HB hb1
  clear hb1
  go_wp2_with fail
  refine (P9.out _).mono ?_
  rintro e w1 ⟨rfl, hb1⟩
  replace HB := below_on HB hb1
  clear hb1
  go_wp2_with fail
  refine (P10.out _).mono ?_
  rintro e w1 ⟨rfl, hb1⟩
  replace HB := below_on HB hb1
  clear hb1
  go_wp2_with fail
  go_ret
  exact ⟨rfl, HB⟩
set_option maxRecDepth 100000 in
set_option maxHeartbeats 1000000 in
theorem bitsOrder_walk (a b v : Int) (ha : Hid (Flt.I64 a)) (hb : Hid (Flt.I64 b)) : Tells 8 #[.int .i64 a, .int .i64 b, .int .i64 v] (.bool true) := by
  intro w
  have HB : Below w.heap.size w w := Below.refl _ _
  go_enter Try.func8, Try.ntmps8
  go_wp2_with fail
  refine (alive_any _).mono ?_
  rintro e w1 ⟨rfl, hb1⟩
  replace HB := below_on HB hb1
  clear hb1
  go_wp2_with fail
  refine (ordered_law a b v ha hb _).mono ?_
  rintro e w1 ⟨rfl, hb1⟩
  replace HB := below_on HB hb1
  clear hb1
  go_wp2_with fail
  refine (ordered_law b a v hb ha _).mono ?_
  rintro e w1 ⟨rfl, hb1⟩
  replace HB := below_on HB hb1
  clear hb1
  go_wp2_with fail
  go_ret
  exact ⟨rfl, HB⟩
end Go.Proofs.Ytjogbiopbobifaa
