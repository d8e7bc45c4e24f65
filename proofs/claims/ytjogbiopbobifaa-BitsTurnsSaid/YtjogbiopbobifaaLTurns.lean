/- BitsTurns' own walk. -/
import Derived.Test.YtjogbiopbobifaaTurnsA
import Derived.Test.YtjogbiopbobifaaRefT
namespace Go.Proofs.Ytjogbiopbobifaa
open Go.RowKit

set_option maxRecDepth 100000 in
set_option maxHeartbeats 1000000 in
theorem turned_law (b v : Int) (hb : Hid (Flt.I64 b)) : Tells 21 #[.int .i64 b, .int .i64 v] (.bool true) := by
  intro w
  have HB : Below w.heap.size w w := Below.refl _ _
  have P1 := Lib.hid (next_any b v hb.out)
  have P2 := Lib.hid (rnext_any b v hb.out)
  have P3 := Lib.hid (prev_any b v hb.out)
  have P4 := Lib.hid (rprev_any b v hb.out)
  have P5 := Lib.hid (neg_any b v hb.out)
  have P6 := Lib.hid (rneg_any b v hb.out)
  have P7 := Lib.hid (abs_any b v hb.out)
  have P8 := Lib.hid (rabs_any b v hb.out)
  have P9 := Lib.hid (canon_any b v)
  have P10 := Lib.hid (rcanon_any b v hb.out)
  generalize Flt.nxt b v = x1 at *
  generalize Flt.nprev b v = x2 at *
  generalize Flt.nneg b v = x3 at *
  generalize Flt.nabs b v = x4 at *
  generalize Flt.ncan b v = x5 at *
  go_enter Try.func21, Try.ntmps21
  go_wp2_with fail
  refine (P1.out _).mono ?_
  rintro e w1 ⟨rfl, hb1⟩
  replace HB := below_on HB hb1
  clear hb1
  go_wp2_with fail
  refine (P2.out _).mono ?_
  rintro e w1 ⟨rfl, hb1⟩
  replace HB := below_on HB hb1
  clear hb1
  go_wp2_with fail
  refine (P3.out _).mono ?_
  rintro e w1 ⟨rfl, hb1⟩
  replace HB := below_on HB hb1
  clear hb1
  go_wp2_with fail
  refine (P4.out _).mono ?_
  rintro e w1 ⟨rfl, hb1⟩
  replace HB := below_on HB hb1
  clear hb1
  go_wp2_with fail
  refine (P5.out _).mono ?_
  rintro e w1 ⟨rfl, hb1⟩
  replace HB := below_on HB hb1
  clear hb1
  go_wp2_with fail
  refine (P6.out _).mono ?_
  rintro e w1 ⟨rfl, hb1⟩
  replace HB := below_on HB hb1
  clear hb1
  go_wp2_with fail
  refine (P7.out _).mono ?_
  rintro e w1 ⟨rfl, hb1⟩
  replace HB := below_on HB hb1
  clear hb1
  go_wp2_with fail
  refine (P8.out _).mono ?_
  rintro e w1 ⟨rfl, hb1⟩
  replace HB := below_on HB hb1
  clear hb1
  go_wp2_with fail
  refine (P9.out _).mono ?_
  rintro e w1 ⟨rfl, hb1⟩
  replace HB := below_on HB hb1
  clear hb1
  go_wp2_with fail
  refine (P10.out _).mono ?_
  rintro e w1 ⟨rfl, hb1⟩
  replace HB := below_on HB hb1
  clear hb1
  go_wp2_with fail
  go_ret
  exact ⟨rfl, HB⟩
set_option maxRecDepth 100000 in
set_option maxHeartbeats 1000000 in
theorem bitsTurns_walk (b v : Int) (hb : Hid (Flt.I64 b)) : Tells 5 #[.int .i64 b, .int .i64 v] (.bool true) := by
  intro w
  have HB : Below w.heap.size w w := Below.refl _ _
  go_enter Try.func5, Try.ntmps5
  go_wp2_with fail
  refine (alive_any _).mono ?_
  rintro e w1 ⟨rfl, hb1⟩
  replace HB := below_on HB hb1
  clear hb1
  go_wp2_with fail
  refine (turned_law b v hb _).mono ?_
  rintro e w1 ⟨rfl, hb1⟩
  replace HB := below_on HB hb1
  clear hb1
  go_wp2_with fail
  go_ret
  exact ⟨rfl, HB⟩
end Go.Proofs.Ytjogbiopbobifaa
