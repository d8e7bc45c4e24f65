/- Walks: the order of all, the lesser and the greater of two. -/
import Derived.Test.YtjogbiopbobifaaOrderA
import Derived.Test.YtjogbiopbobifaaFBitsNan
namespace Go.Proofs.Ytjogbiopbobifaa
open Go.RowKit

set_option maxRecDepth 100000 in
set_option maxHeartbeats 400000 in
theorem signbit_any (n : Nat) (w : World) : Calls Try.prog 62 #[.float .f64 n] w fun e w' => e = .returned (.bool (decide (wrap64 n < 0))) ∧ w = w' := by
  go_enter Try.func62, Try.ntmps62
  go_wp2
  go_ret
  exact ⟨rfl, rfl⟩

namespace Flt
theorem stands_sign {a v : Int} {r : Nat} (hv : v = 64 ∨ v = 32) (ha : I64 a) (h : Stands a v r) (hc : ¬ cls a v = 4) : decide (wrap64 r < 0) = neg a v := by
  have hlt := h.lt
  have key : decide (wrap64 r < 0) = (r / Ieee.double.signWeight % 2 == 1) := by
    rw [dfields.1, Bool.eq_iff_iff, decide_eq_true_iff, beq_iff_eq]
    unfold wrap64
    omega
  rw [key]
  rcases hv with rfl | rfl
  · rw [h.wide64 rfl, dfields.1]
    obtain ⟨h0, h1⟩ := ha
    have e : neg a 64 = neg64 a := rfl
    rw [e]
    unfold neg64 w64
    rw [Bool.eq_iff_iff, decide_eq_true_iff, beq_iff_eq]
    omega
  · have hc' : ¬ cls32 a = 4 := hc
    have hv := valid_bounds (valid_of_cls hc')
    rw [h.num rfl hc', wide_sign _ (w32_num hc'), sfields.1]
    have e : neg a 32 = neg32 a := rfl
    rw [e]
    unfold neg32 w32
    rw [if_pos (valid_of_cls hc'), Bool.eq_iff_iff, decide_eq_true_iff, beq_iff_eq]
    omega
theorem stands_ne {a v : Int} {r : Nat} (hv : v = 64 ∨ v = 32) (ha : I64 a) (h : Stands a v r) : (FloatKind.f64.format.order r r != some .eq) = decide (cls a v = 4) := by
  have e := order_self Ieee.double ok_double r
  rw [stands_nan hv ha h] at e
  exact e
/-- where a pattern that is a number stands, -0 ahead of 0 -/
def place (b w : Int) : Int := if neg b w = true then sr b w - 1 else sr b w
def nord (a b v : Int) : Int :=
  if cls a v = 4 then (if cls b v = 4 then 0 else 1) else if cls b v = 4 then -1 else if place a v < place b v then -1 else if place b v < place a v then 1 else 0
theorem neg_sr {a v : Int} (hv : v = 64 ∨ v = 32) (ha : I64 a) (hc : ¬ cls a v = 4) : if neg a v = true then sr a v ≤ 0 else 0 ≤ sr a v := by
  rcases hv with rfl | rfl
  · have e : neg a 64 = neg64 a := rfl
    have e2 : sr a 64 = sr64 a := rfl
    rw [e, e2]
    obtain ⟨h0, h1⟩ := ha
    unfold neg64 sr64
    by_cases h : a < 0
    · rw [decide_eq_true h, if_pos rfl, if_pos h]; omega
    · rw [decide_eq_false h, if_neg (by decide), if_neg h]; omega
  · have hc' : ¬ cls32 a = 4 := hc
    have hv := valid_bounds (valid_of_cls hc')
    have e : neg a 32 = neg32 a := rfl
    have e2 : sr a 32 = sr32 a := rfl
    rw [e, e2]
    unfold neg32 sr32
    by_cases h : 2147483648 ≤ a
    · rw [decide_eq_true h, if_pos rfl, if_pos h]; omega
    · rw [decide_eq_false h, if_neg (by decide), if_neg h]; omega
end Flt

set_option maxRecDepth 100000 in
set_option maxHeartbeats 1000000 in
theorem order_nn (a b v : Int) (hv : Hid (v = 64 ∨ v = 32)) (ha : Hid (Flt.I64 a)) (hb : Hid (Flt.I64 b)) (c1 : Hid (Flt.cls a v = 4)) (c2 : Hid (Flt.cls b v = 4)) : Tells 24 #[.int .i64 a, .int .i64 b, .int .i64 v] (.int .i64 0) := by
  intro w
  have HB : Below w.heap.size w w := Below.refl _ _
  go_enter Try.func24, Try.ntmps24
  go_wp2_with fail
  refine (wide_any a v hv.out _).mono ?_
  rintro e w1 ⟨r, hr, rfl, hb1⟩
  replace HB := below_on HB hb1
  clear hb1
  have HR := Lib.hid hr
  clear hr
  go_wp2_with fail
  refine (wide_any b v hv.out _).mono ?_
  rintro e w1 ⟨s, hs, rfl, hb1⟩
  replace HB := below_on HB hb1
  clear hb1
  have HS := Lib.hid hs
  clear hs
  have n1 : (FloatKind.f64.format.order r r != some .eq) = true := by rw [Flt.stands_ne hv.out ha.out HR.out]; exact decide_eq_true c1.out
  have n2 : (FloatKind.f64.format.order s s != some .eq) = true := by rw [Flt.stands_ne hv.out hb.out HS.out]; exact decide_eq_true c2.out
  go_wp2_with (go_at_call 62; (with_reducible refine (signbit_any _ _).mono ?_); rintro e w1 ⟨rfl, rfl⟩)
  go_ret
  exact ⟨rfl, HB⟩

set_option maxRecDepth 100000 in
set_option maxHeartbeats 1000000 in
theorem order_nx (a b v : Int) (hv : Hid (v = 64 ∨ v = 32)) (ha : Hid (Flt.I64 a)) (hb : Hid (Flt.I64 b)) (c1 : Hid (Flt.cls a v = 4)) (c2 : Hid (¬ Flt.cls b v = 4)) : Tells 24 #[.int .i64 a, .int .i64 b, .int .i64 v] (.int .i64 1) := by
  intro w
  have HB : Below w.heap.size w w := Below.refl _ _
  go_enter Try.func24, Try.ntmps24
  go_wp2_with fail
  refine (wide_any a v hv.out _).mono ?_
  rintro e w1 ⟨r, hr, rfl, hb1⟩
  replace HB := below_on HB hb1
  clear hb1
  have HR := Lib.hid hr
  clear hr
  go_wp2_with fail
  refine (wide_any b v hv.out _).mono ?_
  rintro e w1 ⟨s, hs, rfl, hb1⟩
  replace HB := below_on HB hb1
  clear hb1
  have HS := Lib.hid hs
  clear hs
  have n1 : (FloatKind.f64.format.order r r != some .eq) = true := by rw [Flt.stands_ne hv.out ha.out HR.out]; exact decide_eq_true c1.out
  have n2 : (FloatKind.f64.format.order s s != some .eq) = false := by rw [Flt.stands_ne hv.out hb.out HS.out]; exact decide_eq_false c2.out
  go_wp2_with (go_at_call 62; (with_reducible refine (signbit_any _ _).mono ?_); rintro e w1 ⟨rfl, rfl⟩)
  go_ret
  exact ⟨rfl, HB⟩

set_option maxRecDepth 100000 in
set_option maxHeartbeats 1000000 in
theorem order_xn (a b v : Int) (hv : Hid (v = 64 ∨ v = 32)) (ha : Hid (Flt.I64 a)) (hb : Hid (Flt.I64 b)) (c1 : Hid (¬ Flt.cls a v = 4)) (c2 : Hid (Flt.cls b v = 4)) : Tells 24 #[.int .i64 a, .int .i64 b, .int .i64 v] (.int .i64 (-1)) := by
  intro w
  have HB : Below w.heap.size w w := Below.refl _ _
  go_enter Try.func24, Try.ntmps24
  go_wp2_with fail
  refine (wide_any a v hv.out _).mono ?_
  rintro e w1 ⟨r, hr, rfl, hb1⟩
  replace HB := below_on HB hb1
  clear hb1
  have HR := Lib.hid hr
  clear hr
  go_wp2_with fail
  refine (wide_any b v hv.out _).mono ?_
  rintro e w1 ⟨s, hs, rfl, hb1⟩
  replace HB := below_on HB hb1
  clear hb1
  have HS := Lib.hid hs
  clear hs
  have n1 : (FloatKind.f64.format.order r r != some .eq) = false := by rw [Flt.stands_ne hv.out ha.out HR.out]; exact decide_eq_false c1.out
  have n2 : (FloatKind.f64.format.order s s != some .eq) = true := by rw [Flt.stands_ne hv.out hb.out HS.out]; exact decide_eq_true c2.out
  go_wp2_with (go_at_call 62; (with_reducible refine (signbit_any _ _).mono ?_); rintro e w1 ⟨rfl, rfl⟩)
  go_ret
  exact ⟨rfl, HB⟩

set_option maxRecDepth 100000 in
set_option maxHeartbeats 1000000 in
theorem order_lt (a b v : Int) (hv : Hid (v = 64 ∨ v = 32)) (ha : Hid (Flt.I64 a)) (hb : Hid (Flt.I64 b)) (c1 : Hid (¬ Flt.cls a v = 4)) (c2 : Hid (¬ Flt.cls b v = 4)) (l1 : Hid (Flt.nless a b v = true)) : Tells 24 #[.int .i64 a, .int .i64 b, .int .i64 v] (.int .i64 (-1)) := by
  intro w
  have HB : Below w.heap.size w w := Below.refl _ _
  go_enter Try.func24, Try.ntmps24
  go_wp2_with fail
  refine (wide_any a v hv.out _).mono ?_
  rintro e w1 ⟨r, hr, rfl, hb1⟩
  replace HB := below_on HB hb1
  clear hb1
  have HR := Lib.hid hr
  clear hr
  go_wp2_with fail
  refine (wide_any b v hv.out _).mono ?_
  rintro e w1 ⟨s, hs, rfl, hb1⟩
  replace HB := below_on HB hb1
  clear hb1
  have HS := Lib.hid hs
  clear hs
  have n1 : (FloatKind.f64.format.order r r != some .eq) = false := by rw [Flt.stands_ne hv.out ha.out HR.out]; exact decide_eq_false c1.out
  have n2 : (FloatKind.f64.format.order s s != some .eq) = false := by rw [Flt.stands_ne hv.out hb.out HS.out]; exact decide_eq_false c2.out
  have m1 : (FloatKind.f64.format.order r s == some .lt) = true := by rw [Flt.stands_lt hv.out ha.out hb.out HR.out HS.out]; exact l1.out
  go_wp2_with (go_at_call 62; (with_reducible refine (signbit_any _ _).mono ?_); rintro e w1 ⟨rfl, rfl⟩)
  go_ret
  exact ⟨rfl, HB⟩

set_option maxRecDepth 100000 in
set_option maxHeartbeats 1000000 in
theorem order_gt (a b v : Int) (hv : Hid (v = 64 ∨ v = 32)) (ha : Hid (Flt.I64 a)) (hb : Hid (Flt.I64 b)) (c1 : Hid (¬ Flt.cls a v = 4)) (c2 : Hid (¬ Flt.cls b v = 4)) (l1 : Hid (Flt.nless a b v = false)) (l2 : Hid (Flt.nsame a b v = false)) (l3 : Hid (Flt.nless b a v = true)) : Tells 24 #[.int .i64 a, .int .i64 b, .int .i64 v] (.int .i64 1) := by
  intro w
  have HB : Below w.heap.size w w := Below.refl _ _
  go_enter Try.func24, Try.ntmps24
  go_wp2_with fail
  refine (wide_any a v hv.out _).mono ?_
  rintro e w1 ⟨r, hr, rfl, hb1⟩
  replace HB := below_on HB hb1
  clear hb1
  have HR := Lib.hid hr
  clear hr
  go_wp2_with fail
  refine (wide_any b v hv.out _).mono ?_
  rintro e w1 ⟨s, hs, rfl, hb1⟩
  replace HB := below_on HB hb1
  clear hb1
  have HS := Lib.hid hs
  clear hs
  have n1 : (FloatKind.f64.format.order r r != some .eq) = false := by rw [Flt.stands_ne hv.out ha.out HR.out]; exact decide_eq_false c1.out
  have n2 : (FloatKind.f64.format.order s s != some .eq) = false := by rw [Flt.stands_ne hv.out hb.out HS.out]; exact decide_eq_false c2.out
  have m1 : (FloatKind.f64.format.order r s == some .lt) = false := by rw [Flt.stands_lt hv.out ha.out hb.out HR.out HS.out]; exact l1.out
  have m2 : (FloatKind.f64.format.order r s == some .eq) = false := by rw [Flt.stands_eq hv.out ha.out hb.out HR.out HS.out]; exact l2.out
  have m3 : (FloatKind.f64.format.order r s == some .gt) = true := by rw [Flt.stands_gt hv.out ha.out hb.out HR.out HS.out]; exact l3.out
  go_wp2_with (go_at_call 62; (with_reducible refine (signbit_any _ _).mono ?_); rintro e w1 ⟨rfl, rfl⟩)
  go_ret
  exact ⟨rfl, HB⟩

set_option maxRecDepth 100000 in
set_option maxHeartbeats 1000000 in
theorem order_tf (a b v : Int) (hv : Hid (v = 64 ∨ v = 32)) (ha : Hid (Flt.I64 a)) (hb : Hid (Flt.I64 b)) (c1 : Hid (¬ Flt.cls a v = 4)) (c2 : Hid (¬ Flt.cls b v = 4)) (l1 : Hid (Flt.nless a b v = false)) (l2 : Hid (Flt.nsame a b v = true)) (l3 : Hid (Flt.nless b a v = false)) (s1 : Hid (Flt.neg a v = true)) (s2 : Hid (Flt.neg b v = false)) : Tells 24 #[.int .i64 a, .int .i64 b, .int .i64 v] (.int .i64 (-1)) := by
  intro w
  have HB : Below w.heap.size w w := Below.refl _ _
  go_enter Try.func24, Try.ntmps24
  go_wp2_with fail
  refine (wide_any a v hv.out _).mono ?_
  rintro e w1 ⟨r, hr, rfl, hb1⟩
  replace HB := below_on HB hb1
  clear hb1
  have HR := Lib.hid hr
  clear hr
  go_wp2_with fail
  refine (wide_any b v hv.out _).mono ?_
  rintro e w1 ⟨s, hs, rfl, hb1⟩
  replace HB := below_on HB hb1
  clear hb1
  have HS := Lib.hid hs
  clear hs
  have n1 : (FloatKind.f64.format.order r r != some .eq) = false := by rw [Flt.stands_ne hv.out ha.out HR.out]; exact decide_eq_false c1.out
  have n2 : (FloatKind.f64.format.order s s != some .eq) = false := by rw [Flt.stands_ne hv.out hb.out HS.out]; exact decide_eq_false c2.out
  have m1 : (FloatKind.f64.format.order r s == some .lt) = false := by rw [Flt.stands_lt hv.out ha.out hb.out HR.out HS.out]; exact l1.out
  have m2 : (FloatKind.f64.format.order r s == some .eq) = true := by rw [Flt.stands_eq hv.out ha.out hb.out HR.out HS.out]; exact l2.out
  have m3 : (FloatKind.f64.format.order r s == some .gt) = false := by rw [Flt.stands_gt hv.out ha.out hb.out HR.out HS.out]; exact l3.out
  have k1 : decide (wrap64 r < 0) = true := by rw [Flt.stands_sign hv.out ha.out HR.out c1.out]; exact s1.out
  have k2 : decide (wrap64 s < 0) = false := by rw [Flt.stands_sign hv.out hb.out HS.out c2.out]; exact s2.out
  go_wp2_with (go_at_call 62; (with_reducible refine (signbit_any _ _).mono ?_); rintro e w1 ⟨rfl, rfl⟩)
  go_ret
  exact ⟨rfl, HB⟩

set_option maxRecDepth 100000 in
set_option maxHeartbeats 1000000 in
theorem order_ft (a b v : Int) (hv : Hid (v = 64 ∨ v = 32)) (ha : Hid (Flt.I64 a)) (hb : Hid (Flt.I64 b)) (c1 : Hid (¬ Flt.cls a v = 4)) (c2 : Hid (¬ Flt.cls b v = 4)) (l1 : Hid (Flt.nless a b v = false)) (l2 : Hid (Flt.nsame a b v = true)) (l3 : Hid (Flt.nless b a v = false)) (s1 : Hid (Flt.neg a v = false)) (s2 : Hid (Flt.neg b v = true)) : Tells 24 #[.int .i64 a, .int .i64 b, .int .i64 v] (.int .i64 1) := by
  intro w
  have HB : Below w.heap.size w w := Below.refl _ _
  go_enter Try.func24, Try.ntmps24
  go_wp2_with fail
  refine (wide_any a v hv.out _).mono ?_
  rintro e w1 ⟨r, hr, rfl, hb1⟩
  replace HB := below_on HB hb1
  clear hb1
  have HR := Lib.hid hr
  clear hr
  go_wp2_with fail
  refine (wide_any b v hv.out _).mono ?_
  rintro e w1 ⟨s, hs, rfl, hb1⟩
  replace HB := below_on HB hb1
  clear hb1
  have HS := Lib.hid hs
  clear hs
  have n1 : (FloatKind.f64.format.order r r != some .eq) = false := by rw [Flt.stands_ne hv.out ha.out HR.out]; exact decide_eq_false c1.out
  have n2 : (FloatKind.f64.format.order s s != some .eq) = false := by rw [Flt.stands_ne hv.out hb.out HS.out]; exact decide_eq_false c2.out
  have m1 : (FloatKind.f64.format.order r s == some .lt) = false := by rw [Flt.stands_lt hv.out ha.out hb.out HR.out HS.out]; exact l1.out
  have m2 : (FloatKind.f64.format.order r s == some .eq) = true := by rw [Flt.stands_eq hv.out ha.out hb.out HR.out HS.out]; exact l2.out
  have m3 : (FloatKind.f64.format.order r s == some .gt) = false := by rw [Flt.stands_gt hv.out ha.out hb.out HR.out HS.out]; exact l3.out
  have k1 : decide (wrap64 r < 0) = false := by rw [Flt.stands_sign hv.out ha.out HR.out c1.out]; exact s1.out
  have k2 : decide (wrap64 s < 0) = true := by rw [Flt.stands_sign hv.out hb.out HS.out c2.out]; exact s2.out
  go_wp2_with (go_at_call 62; (with_reducible refine (signbit_any _ _).mono ?_); rintro e w1 ⟨rfl, rfl⟩)
  go_ret
  exact ⟨rfl, HB⟩

set_option maxRecDepth 100000 in
set_option maxHeartbeats 1000000 in
theorem order_tt (a b v : Int) (hv : Hid (v = 64 ∨ v = 32)) (ha : Hid (Flt.I64 a)) (hb : Hid (Flt.I64 b)) (c1 : Hid (¬ Flt.cls a v = 4)) (c2 : Hid (¬ Flt.cls b v = 4)) (l1 : Hid (Flt.nless a b v = false)) (l2 : Hid (Flt.nsame a b v = true)) (l3 : Hid (Flt.nless b a v = false)) (s1 : Hid (Flt.neg a v = true)) (s2 : Hid (Flt.neg b v = true)) : Tells 24 #[.int .i64 a, .int .i64 b, .int .i64 v] (.int .i64 0) := by
  intro w
  have HB : Below w.heap.size w w := Below.refl _ _
  go_enter Try.func24, Try.ntmps24
  go_wp2_with fail
  refine (wide_any a v hv.out _).mono ?_
  rintro e w1 ⟨r, hr, rfl, hb1⟩
  replace HB := below_on HB hb1
  clear hb1
  have HR := Lib.hid hr
  clear hr
  go_wp2_with fail
  refine (wide_any b v hv.out _).mono ?_
  rintro e w1 ⟨s, hs, rfl, hb1⟩
  replace HB := below_on HB hb1
  clear hb1
  have HS := Lib.hid hs
  clear hs
  have n1 : (FloatKind.f64.format.order r r != some .eq) = false := by rw [Flt.stands_ne hv.out ha.out HR.out]; exact decide_eq_false c1.out
  have n2 : (FloatKind.f64.format.order s s != some .eq) = false := by rw [Flt.stands_ne hv.out hb.out HS.out]; exact decide_eq_false c2.out
  have m1 : (FloatKind.f64.format.order r s == some .lt) = false := by rw [Flt.stands_lt hv.out ha.out hb.out HR.out HS.out]; exact l1.out
  have m2 : (FloatKind.f64.format.order r s == some .eq) = true := by rw [Flt.stands_eq hv.out ha.out hb.out HR.out HS.out]; exact l2.out
  have m3 : (FloatKind.f64.format.order r s == some .gt) = false := by rw [Flt.stands_gt hv.out ha.out hb.out HR.out HS.out]; exact l3.out
  have k1 : decide (wrap64 r < 0) = true := by rw [Flt.stands_sign hv.out ha.out HR.out c1.out]; exact s1.out
  have k2 : decide (wrap64 s < 0) = true := by rw [Flt.stands_sign hv.out hb.out HS.out c2.out]; exact s2.out
  go_wp2_with (go_at_call 62; (with_reducible refine (signbit_any _ _).mono ?_); rintro e w1 ⟨rfl, rfl⟩)
  go_ret
  exact ⟨rfl, HB⟩

set_option maxRecDepth 100000 in
set_option maxHeartbeats 1000000 in
theorem order_ff (a b v : Int) (hv : Hid (v = 64 ∨ v = 32)) (ha : Hid (Flt.I64 a)) (hb : Hid (Flt.I64 b)) (c1 : Hid (¬ Flt.cls a v = 4)) (c2 : Hid (¬ Flt.cls b v = 4)) (l1 : Hid (Flt.nless a b v = false)) (l2 : Hid (Flt.nsame a b v = true)) (l3 : Hid (Flt.nless b a v = false)) (s1 : Hid (Flt.neg a v = false)) (s2 : Hid (Flt.neg b v = false)) : Tells 24 #[.int .i64 a, .int .i64 b, .int .i64 v] (.int .i64 0) := by
  intro w
  have HB : Below w.heap.size w w := Below.refl _ _
  go_enter Try.func24, Try.ntmps24
  go_wp2_with fail
  refine (wide_any a v hv.out _).mono ?_
  rintro e w1 ⟨r, hr, rfl, hb1⟩
  replace HB := below_on HB hb1
  clear hb1
  have HR := Lib.hid hr
  clear hr
  go_wp2_with fail
  refine (wide_any b v hv.out _).mono ?_
  rintro e w1 ⟨s, hs, rfl, hb1⟩
  replace HB := below_on HB hb1
  clear hb1
  have HS := Lib.hid hs
  clear hs
  have n1 : (FloatKind.f64.format.order r r != some .eq) = false := by rw [Flt.stands_ne hv.out ha.out HR.out]; exact decide_eq_false c1.out
  have n2 : (FloatKind.f64.format.order s s != some .eq) = false := by rw [Flt.stands_ne hv.out hb.out HS.out]; exact decide_eq_false c2.out
  have m1 : (FloatKind.f64.format.order r s == some .lt) = false := by rw [Flt.stands_lt hv.out ha.out hb.out HR.out HS.out]; exact l1.out
  have m2 : (FloatKind.f64.format.order r s == some .eq) = true := by rw [Flt.stands_eq hv.out ha.out hb.out HR.out HS.out]; exact l2.out
  have m3 : (FloatKind.f64.format.order r s == some .gt) = false := by rw [Flt.stands_gt hv.out ha.out hb.out HR.out HS.out]; exact l3.out
  have k1 : decide (wrap64 r < 0) = false := by rw [Flt.stands_sign hv.out ha.out HR.out c1.out]; exact s1.out
  have k2 : decide (wrap64 s < 0) = false := by rw [Flt.stands_sign hv.out hb.out HS.out c2.out]; exact s2.out
  go_wp2_with (go_at_call 62; (with_reducible refine (signbit_any _ _).mono ?_); rintro e w1 ⟨rfl, rfl⟩)
  go_ret
  exact ⟨rfl, HB⟩

set_option maxRecDepth 100000 in
set_option maxHeartbeats 1000000 in
theorem order_no (a b v : Int) (h64 : Hid ((v == 64) = false)) (h32 : Hid ((v == 32) = false)) : Tells 24 #[.int .i64 a, .int .i64 b, .int .i64 v] (.int .i64 0) := by
  intro w
  have HB : Below w.heap.size w w := Below.refl _ _
  go_enter Try.func24, Try.ntmps24
  go_wp2_with fail
  refine (wide_no a v h64.out h32.out _).mono ?_
  rintro e w1 ⟨rfl, hb1⟩
  replace HB := below_on HB hb1
  clear hb1
  go_wp2_with fail
  refine (wide_no b v h64.out h32.out _).mono ?_
  rintro e w1 ⟨rfl, hb1⟩
  replace HB := below_on HB hb1
  clear hb1
  go_wp2_with fail
  go_ret
  exact ⟨rfl, HB⟩
theorem order_wide (a b v : Int) (hv : v = 64 ∨ v = 32) (ha : Flt.I64 a) (hb : Flt.I64 b) : Tells 24 #[.int .i64 a, .int .i64 b, .int .i64 v] (.int .i64 (Flt.nord a b v)) := by
  have HV := Lib.hid hv
  have HA := Lib.hid ha
  have HB := Lib.hid hb
  have e : ∀ x : Int, Flt.nord a b v = x → Tells 24 #[.int .i64 a, .int .i64 b, .int .i64 v] (.int .i64 x) → Tells 24 #[.int .i64 a, .int .i64 b, .int .i64 v] (.int .i64 (Flt.nord a b v)) := fun x h t => by rw [h]; exact t
  have U : Flt.nord a b v = (if Flt.cls a v = 4 then (if Flt.cls b v = 4 then 0 else 1) else if Flt.cls b v = 4 then -1 else if Flt.place a v < Flt.place b v then -1 else if Flt.place b v < Flt.place a v then 1 else 0) := rfl
  by_cases c1 : Flt.cls a v = 4
  · by_cases c2 : Flt.cls b v = 4
    · exact e 0 (by rw [U, if_pos c1, if_pos c2]) (order_nn a b v HV HA HB (Lib.hid c1) (Lib.hid c2))
    · exact e 1 (by rw [U, if_pos c1, if_neg c2]) (order_nx a b v HV HA HB (Lib.hid c1) (Lib.hid c2))
  · by_cases c2 : Flt.cls b v = 4
    · exact e (-1) (by rw [U, if_neg c1, if_pos c2]) (order_xn a b v HV HA HB (Lib.hid c1) (Lib.hid c2))
    · rw [if_neg c1, if_neg c2] at U
      have s1 := Flt.neg_sr hv ha c1
      have s2 := Flt.neg_sr hv hb c2
      have el : ∀ q, decide (Flt.sr a v < Flt.sr b v) = q → Flt.nless a b v = q := fun q h => by unfold Flt.nless; rw [decide_eq_false c1, decide_eq_false c2, h]; rfl
      have eg : ∀ q, decide (Flt.sr b v < Flt.sr a v) = q → Flt.nless b a v = q := fun q h => by unfold Flt.nless; rw [decide_eq_false c1, decide_eq_false c2, h]; rfl
      have eq : ∀ q, decide (Flt.sr a v = Flt.sr b v) = q → Flt.nsame a b v = q := fun q h => by unfold Flt.nsame; rw [decide_eq_false c1, decide_eq_false c2, h]; rfl
      have H1 := Lib.hid c1
      have H2 := Lib.hid c2
      unfold Flt.place at U
      by_cases l : Flt.sr a v < Flt.sr b v
      · refine e (-1) ?_ (order_lt a b v HV HA HB H1 H2 (Lib.hid (el _ (decide_eq_true l))))
        rw [U, if_pos]
        split at s1 <;> split at s2 <;> simp_all <;> omega
      · by_cases g : Flt.sr b v < Flt.sr a v
        · refine e 1 ?_ (order_gt a b v HV HA HB H1 H2 (Lib.hid (el _ (decide_eq_false l))) (Lib.hid (eq _ (decide_eq_false (by omega)))) (Lib.hid (eg _ (decide_eq_true g))))
          rw [U, if_neg, if_pos] <;> (split at s1 <;> split at s2 <;> simp_all <;> omega)
        · have q : Flt.sr a v = Flt.sr b v := by omega
          have L1 := Lib.hid (el _ (decide_eq_false l))
          have L2 := Lib.hid (eq _ (decide_eq_true q))
          have L3 := Lib.hid (eg _ (decide_eq_false g))
          cases n1 : Flt.neg a v <;> cases n2 : Flt.neg b v
          · exact e 0 (by rw [U, n1, n2, q]; simp) (order_ff a b v HV HA HB H1 H2 L1 L2 L3 (Lib.hid n1) (Lib.hid n2))
          · refine e 1 (by rw [U, n1, n2, q]; simp; omega) (order_ft a b v HV HA HB H1 H2 L1 L2 L3 (Lib.hid n1) (Lib.hid n2))
          · refine e (-1) (by rw [U, n1, n2, q]; simp; omega) (order_tf a b v HV HA HB H1 H2 L1 L2 L3 (Lib.hid n1) (Lib.hid n2))
          · exact e 0 (by rw [U, n1, n2, q]; simp) (order_tt a b v HV HA HB H1 H2 L1 L2 L3 (Lib.hid n1) (Lib.hid n2))
theorem order_any (a b v : Int) (ha : Flt.I64 a) (hb : Flt.I64 b) : Tells 24 #[.int .i64 a, .int .i64 b, .int .i64 v] (.int .i64 (if Flt.isW v = true then Flt.nord a b v else 0)) := by
  by_cases h : Flt.isW v = true
  · rw [if_pos h]; exact order_wide a b v (Flt.isW_yes h) ha hb
  · rw [if_neg h]; exact order_no a b v (Lib.hid (Flt.isW_no h).1) (Lib.hid (Flt.isW_no h).2)
end Go.Proofs.Ytjogbiopbobifaa
