/- BitsParts' own walk. -/
import Derived.Test.YtjogbiopbobifaaA11
import Derived.Test.YtjogbiopbobifaaR1
namespace Go.Proofs.Ytjogbiopbobifaa
open Go.RowKit

set_option maxRecDepth 100000 in
set_option maxHeartbeats 1000000 in
theorem parts_law (b v : Int) (hb : Hid (Flt.I64 b)) : Tells 15 #[.int .i64 b, .int .i64 v] (.bool true) := by
  intro w
  have HB : Below w.heap.size w w := Below.refl _ _
  have P1 := Lib.hid (parts_any b v hb.out)
  have P2 := Lib.hid (rparts_any b v hb.out)
  have P3 := Lib.hid (class_any b v)
  have P4 := Lib.hid (rclass_any b v hb.out)
  have P5 := Lib.hid (valid_any b v)
  have P6 := Lib.hid (rvalid_any b v hb.out)
  unfold partsV at P1 P2
  generalize Flt.pneg b v = pn at *
  generalize Flt.pmag b v = pm at *
  generalize Flt.pexp b v = pe at *
  generalize Flt.fin b v = pf at *
  generalize Flt.cls b v = c at *
  generalize Flt.valid b v = va at *
  go_enter Try.func15, Try.ntmps15
  go_wp2_with fail
  refine (P1.out _).mono ?_
  rintro e w1 ⟨rfl, hb⟩
  replace HB := below_on HB hb
  clear hb
  go_wp2_with fail
  refine (P2.out _).mono ?_
  rintro e w1 ⟨rfl, hb⟩
  replace HB := below_on HB hb
  clear hb
  go_wp2_with fail
  refine (P3.out _).mono ?_
  rintro e w1 ⟨rfl, hb⟩
  replace HB := below_on HB hb
  clear hb
  go_wp2_with fail
  refine (P4.out _).mono ?_
  rintro e w1 ⟨rfl, hb⟩
  replace HB := below_on HB hb
  clear hb
  go_wp2_with fail
  refine (P5.out _).mono ?_
  rintro e w1 ⟨rfl, hb⟩
  replace HB := below_on HB hb
  clear hb
  go_wp2_with fail
  refine (P6.out _).mono ?_
  rintro e w1 ⟨rfl, hb⟩
  replace HB := below_on HB hb
  clear hb
  go_wp2_with fail
  go_ret
  exact ⟨rfl, HB⟩

theorem i64_of_wf {b : Int} (h : (Lit.int .i64 b).wf = true) : Flt.I64 b := by
  have h' : -9223372036854775808 ≤ b ∧ b ≤ 9223372036854775807 := by simpa [Lit.wf, IntKind.min, IntKind.max, IntKind.signed, IntKind.bits] using h
  exact ⟨h'.1, by omega⟩
set_option maxRecDepth 100000 in
set_option maxHeartbeats 1000000 in
theorem bitsParts_walk (b v : Int) (hb : Hid (Flt.I64 b)) : Tells 3 #[.int .i64 b, .int .i64 v] (.bool true) := by
  intro w
  have HB : Below w.heap.size w w := Below.refl _ _
  go_enter Try.func3, Try.ntmps3
  go_wp2_with fail
  refine (alive_any _).mono ?_
  rintro e w1 ⟨rfl, hb1⟩
  replace HB := below_on HB hb1
  clear hb1
  go_wp2_with fail
  refine (parts_law b v hb _).mono ?_
  rintro e w1 ⟨rfl, hb1⟩
  replace HB := below_on HB hb1
  clear hb1
  go_wp2_with fail
  refine (parts_law b 32 hb _).mono ?_
  rintro e w1 ⟨rfl, hb1⟩
  replace HB := below_on HB hb1
  clear hb1
  go_wp2_with fail
  refine (parts_law b 64 hb _).mono ?_
  rintro e w1 ⟨rfl, hb1⟩
  replace HB := below_on HB hb1
  clear hb1
  go_wp2_with fail
  go_ret
  exact ⟨rfl, HB⟩
end Go.Proofs.Ytjogbiopbobifaa
