/- The lesser and the greater of two: package bits' answers. -/
import Derived.Test.YtjogbiopbobifaaOrderB
namespace Go.Proofs.Ytjogbiopbobifaa
open Go.RowKit Go.Proofs.YtjogbiopbobifaaW.PrintWords

def Flt.nanw (v : Int) : Int := if v = 32 then 2143289345 else 9221120237041090561
/-- the one of two that stands on a side (1: b, where a stands behind it; -1: b, where a stands ahead of it) -/
def Flt.pickv (a b v k : Int) : Int := if isW v = true then (if cls a v = 4 ∨ cls b v = 4 then nanw v else if nord a b v = k then b else a) else 0

theorem nan_any (v : Int) : Tells 95 #[.int .i64 v] (.int .i64 (Flt.nanw v)) := by
  intro w
  have hf : F.bits_nan.f v = some (Flt.nanw v) := by unfold F.bits_nan.f Flt.nanw; split <;> rfl
  refine (F.bits_nan.calls v _ w hf).mono ?_
  rintro e w' ⟨he, n, rfl⟩
  exact ⟨he, below_drewN' (Below.refl _ _) n⟩


set_option maxRecDepth 100000 in
set_option maxHeartbeats 1000000 in
theorem min_no (a b v : Int) (m64 : (v != 64) = true) (m32 : (v != 32) = true) : Tells 26 #[.int .i64 a, .int .i64 b, .int .i64 v] (.int .i64 0) := by
  intro w
  have HB : Below w.heap.size w w := Below.refl _ _
  go_enter Try.func26, Try.ntmps26
  go_wp2_with (go_at_call 63; go_in)
  go_ret
  exact ⟨rfl, HB⟩

set_option maxRecDepth 100000 in
set_option maxHeartbeats 1000000 in
theorem min_n1_64 (a b : Int) (x z : Int) (hA : Hid (Tells 28 #[.int .i64 a, .int .i64 64] (.int .i64 x))) (hN : Hid (Tells 95 #[.int .i64 64] (.int .i64 z))) (c1 : (x == 4) = true) : Tells 26 #[.int .i64 a, .int .i64 b, .int .i64 64] (.int .i64 z) := by
  intro w
  have HB : Below w.heap.size w w := Below.refl _ _
  go_enter Try.func26, Try.ntmps26
  go_wp2_with (go_at_call 63; go_in)
  refine (hA.out _).mono ?_
  rintro e w1 ⟨rfl, hb1⟩
  replace HB := below_on HB hb1
  clear hb1
  go_wp2_with (go_at_call 63; go_in)
  refine (hN.out _).mono ?_
  rintro e w1 ⟨rfl, hb1⟩
  replace HB := below_on HB hb1
  clear hb1
  go_wp2_with (go_at_call 63; go_in)
  go_ret
  exact ⟨rfl, HB⟩

set_option maxRecDepth 100000 in
set_option maxHeartbeats 1000000 in
theorem min_n2_64 (a b : Int) (x y z : Int) (hA : Hid (Tells 28 #[.int .i64 a, .int .i64 64] (.int .i64 x))) (hB : Hid (Tells 28 #[.int .i64 b, .int .i64 64] (.int .i64 y))) (hN : Hid (Tells 95 #[.int .i64 64] (.int .i64 z))) (c1 : (x == 4) = false) (c2 : (y == 4) = true) : Tells 26 #[.int .i64 a, .int .i64 b, .int .i64 64] (.int .i64 z) := by
  intro w
  have HB : Below w.heap.size w w := Below.refl _ _
  go_enter Try.func26, Try.ntmps26
  go_wp2_with (go_at_call 63; go_in)
  refine (hA.out _).mono ?_
  rintro e w1 ⟨rfl, hb1⟩
  replace HB := below_on HB hb1
  clear hb1
  go_wp2_with (go_at_call 63; go_in)
  refine (hB.out _).mono ?_
  rintro e w1 ⟨rfl, hb1⟩
  replace HB := below_on HB hb1
  clear hb1
  go_wp2_with (go_at_call 63; go_in)
  refine (hN.out _).mono ?_
  rintro e w1 ⟨rfl, hb1⟩
  replace HB := below_on HB hb1
  clear hb1
  go_wp2_with (go_at_call 63; go_in)
  go_ret
  exact ⟨rfl, HB⟩

set_option maxRecDepth 100000 in
set_option maxHeartbeats 1000000 in
theorem min_b_64 (a b : Int) (x y z : Int) (hA : Hid (Tells 28 #[.int .i64 a, .int .i64 64] (.int .i64 x))) (hB : Hid (Tells 28 #[.int .i64 b, .int .i64 64] (.int .i64 y))) (hO : Hid (Tells 24 #[.int .i64 a, .int .i64 b, .int .i64 64] (.int .i64 z))) (c1 : (x == 4) = false) (c2 : (y == 4) = false) (o : (z == 1) = true) : Tells 26 #[.int .i64 a, .int .i64 b, .int .i64 64] (.int .i64 b) := by
  intro w
  have HB : Below w.heap.size w w := Below.refl _ _
  go_enter Try.func26, Try.ntmps26
  go_wp2_with (go_at_call 63; go_in)
  refine (hA.out _).mono ?_
  rintro e w1 ⟨rfl, hb1⟩
  replace HB := below_on HB hb1
  clear hb1
  go_wp2_with (go_at_call 63; go_in)
  refine (hB.out _).mono ?_
  rintro e w1 ⟨rfl, hb1⟩
  replace HB := below_on HB hb1
  clear hb1
  go_wp2_with (go_at_call 63; go_in)
  refine (hO.out _).mono ?_
  rintro e w1 ⟨rfl, hb1⟩
  replace HB := below_on HB hb1
  clear hb1
  go_wp2_with (go_at_call 63; go_in)
  go_ret
  exact ⟨rfl, HB⟩

set_option maxRecDepth 100000 in
set_option maxHeartbeats 1000000 in
theorem min_a_64 (a b : Int) (x y z : Int) (hA : Hid (Tells 28 #[.int .i64 a, .int .i64 64] (.int .i64 x))) (hB : Hid (Tells 28 #[.int .i64 b, .int .i64 64] (.int .i64 y))) (hO : Hid (Tells 24 #[.int .i64 a, .int .i64 b, .int .i64 64] (.int .i64 z))) (c1 : (x == 4) = false) (c2 : (y == 4) = false) (o : (z == 1) = false) : Tells 26 #[.int .i64 a, .int .i64 b, .int .i64 64] (.int .i64 a) := by
  intro w
  have HB : Below w.heap.size w w := Below.refl _ _
  go_enter Try.func26, Try.ntmps26
  go_wp2_with (go_at_call 63; go_in)
  refine (hA.out _).mono ?_
  rintro e w1 ⟨rfl, hb1⟩
  replace HB := below_on HB hb1
  clear hb1
  go_wp2_with (go_at_call 63; go_in)
  refine (hB.out _).mono ?_
  rintro e w1 ⟨rfl, hb1⟩
  replace HB := below_on HB hb1
  clear hb1
  go_wp2_with (go_at_call 63; go_in)
  refine (hO.out _).mono ?_
  rintro e w1 ⟨rfl, hb1⟩
  replace HB := below_on HB hb1
  clear hb1
  go_wp2_with (go_at_call 63; go_in)
  go_ret
  exact ⟨rfl, HB⟩

set_option maxRecDepth 100000 in
set_option maxHeartbeats 1000000 in
theorem min_n1_32 (a b : Int) (x z : Int) (hA : Hid (Tells 28 #[.int .i64 a, .int .i64 32] (.int .i64 x))) (hN : Hid (Tells 95 #[.int .i64 32] (.int .i64 z))) (c1 : (x == 4) = true) : Tells 26 #[.int .i64 a, .int .i64 b, .int .i64 32] (.int .i64 z) := by
  intro w
  have HB : Below w.heap.size w w := Below.refl _ _
  go_enter Try.func26, Try.ntmps26
  go_wp2_with (go_at_call 63; go_in)
  refine (hA.out _).mono ?_
  rintro e w1 ⟨rfl, hb1⟩
  replace HB := below_on HB hb1
  clear hb1
  go_wp2_with (go_at_call 63; go_in)
  refine (hN.out _).mono ?_
  rintro e w1 ⟨rfl, hb1⟩
  replace HB := below_on HB hb1
  clear hb1
  go_wp2_with (go_at_call 63; go_in)
  go_ret
  exact ⟨rfl, HB⟩

set_option maxRecDepth 100000 in
set_option maxHeartbeats 1000000 in
theorem min_n2_32 (a b : Int) (x y z : Int) (hA : Hid (Tells 28 #[.int .i64 a, .int .i64 32] (.int .i64 x))) (hB : Hid (Tells 28 #[.int .i64 b, .int .i64 32] (.int .i64 y))) (hN : Hid (Tells 95 #[.int .i64 32] (.int .i64 z))) (c1 : (x == 4) = false) (c2 : (y == 4) = true) : Tells 26 #[.int .i64 a, .int .i64 b, .int .i64 32] (.int .i64 z) := by
  intro w
  have HB : Below w.heap.size w w := Below.refl _ _
  go_enter Try.func26, Try.ntmps26
  go_wp2_with (go_at_call 63; go_in)
  refine (hA.out _).mono ?_
  rintro e w1 ⟨rfl, hb1⟩
  replace HB := below_on HB hb1
  clear hb1
  go_wp2_with (go_at_call 63; go_in)
  refine (hB.out _).mono ?_
  rintro e w1 ⟨rfl, hb1⟩
  replace HB := below_on HB hb1
  clear hb1
  go_wp2_with (go_at_call 63; go_in)
  refine (hN.out _).mono ?_
  rintro e w1 ⟨rfl, hb1⟩
  replace HB := below_on HB hb1
  clear hb1
  go_wp2_with (go_at_call 63; go_in)
  go_ret
  exact ⟨rfl, HB⟩

set_option maxRecDepth 100000 in
set_option maxHeartbeats 1000000 in
theorem min_b_32 (a b : Int) (x y z : Int) (hA : Hid (Tells 28 #[.int .i64 a, .int .i64 32] (.int .i64 x))) (hB : Hid (Tells 28 #[.int .i64 b, .int .i64 32] (.int .i64 y))) (hO : Hid (Tells 24 #[.int .i64 a, .int .i64 b, .int .i64 32] (.int .i64 z))) (c1 : (x == 4) = false) (c2 : (y == 4) = false) (o : (z == 1) = true) : Tells 26 #[.int .i64 a, .int .i64 b, .int .i64 32] (.int .i64 b) := by
  intro w
  have HB : Below w.heap.size w w := Below.refl _ _
  go_enter Try.func26, Try.ntmps26
  go_wp2_with (go_at_call 63; go_in)
  refine (hA.out _).mono ?_
  rintro e w1 ⟨rfl, hb1⟩
  replace HB := below_on HB hb1
  clear hb1
  go_wp2_with (go_at_call 63; go_in)
  refine (hB.out _).mono ?_
  rintro e w1 ⟨rfl, hb1⟩
  replace HB := below_on HB hb1
  clear hb1
  go_wp2_with (go_at_call 63; go_in)
  refine (hO.out _).mono ?_
  rintro e w1 ⟨rfl, hb1⟩
  replace HB := below_on HB hb1
  clear hb1
  go_wp2_with (go_at_call 63; go_in)
  go_ret
  exact ⟨rfl, HB⟩

set_option maxRecDepth 100000 in
set_option maxHeartbeats 1000000 in
theorem min_a_32 (a b : Int) (x y z : Int) (hA : Hid (Tells 28 #[.int .i64 a, .int .i64 32] (.int .i64 x))) (hB : Hid (Tells 28 #[.int .i64 b, .int .i64 32] (.int .i64 y))) (hO : Hid (Tells 24 #[.int .i64 a, .int .i64 b, .int .i64 32] (.int .i64 z))) (c1 : (x == 4) = false) (c2 : (y == 4) = false) (o : (z == 1) = false) : Tells 26 #[.int .i64 a, .int .i64 b, .int .i64 32] (.int .i64 a) := by
  intro w
  have HB : Below w.heap.size w w := Below.refl _ _
  go_enter Try.func26, Try.ntmps26
  go_wp2_with (go_at_call 63; go_in)
  refine (hA.out _).mono ?_
  rintro e w1 ⟨rfl, hb1⟩
  replace HB := below_on HB hb1
  clear hb1
  go_wp2_with (go_at_call 63; go_in)
  refine (hB.out _).mono ?_
  rintro e w1 ⟨rfl, hb1⟩
  replace HB := below_on HB hb1
  clear hb1
  go_wp2_with (go_at_call 63; go_in)
  refine (hO.out _).mono ?_
  rintro e w1 ⟨rfl, hb1⟩
  replace HB := below_on HB hb1
  clear hb1
  go_wp2_with (go_at_call 63; go_in)
  go_ret
  exact ⟨rfl, HB⟩

theorem min_wide64 (a b : Int) (ha : Flt.I64 a) (hb : Flt.I64 b) : Tells 26 #[.int .i64 a, .int .i64 b, .int .i64 64] (.int .i64 (Flt.pickv a b 64 1)) := by
  have HA := Lib.hid (class_any a 64)
  have HB := Lib.hid (class_any b 64)
  have HN := Lib.hid (nan_any 64)
  have ho := order_any a b 64 ha hb
  have hw : Flt.isW 64 = true := by decide
  rw [if_pos hw] at ho
  have HO := Lib.hid ho
  unfold Flt.pickv
  rw [if_pos hw]
  by_cases c1 : Flt.cls a 64 = 4
  · rw [if_pos (.inl c1)]; exact min_n1_64 a b _ _ HA HN (beq_iff_eq.2 c1)
  · by_cases c2 : Flt.cls b 64 = 4
    · rw [if_pos (.inr c2)]; exact min_n2_64 a b _ _ _ HA HB HN (beq_eq_false_iff_ne.2 c1) (beq_iff_eq.2 c2)
    · rw [if_neg (fun h => h.elim c1 c2)]
      by_cases o : Flt.nord a b 64 = 1
      · rw [if_pos o]; exact min_b_64 a b _ _ _ HA HB HO (beq_eq_false_iff_ne.2 c1) (beq_eq_false_iff_ne.2 c2) (beq_iff_eq.2 o)
      · rw [if_neg o]; exact min_a_64 a b _ _ _ HA HB HO (beq_eq_false_iff_ne.2 c1) (beq_eq_false_iff_ne.2 c2) (beq_eq_false_iff_ne.2 o)

theorem min_wide32 (a b : Int) (ha : Flt.I64 a) (hb : Flt.I64 b) : Tells 26 #[.int .i64 a, .int .i64 b, .int .i64 32] (.int .i64 (Flt.pickv a b 32 1)) := by
  have HA := Lib.hid (class_any a 32)
  have HB := Lib.hid (class_any b 32)
  have HN := Lib.hid (nan_any 32)
  have ho := order_any a b 32 ha hb
  have hw : Flt.isW 32 = true := by decide
  rw [if_pos hw] at ho
  have HO := Lib.hid ho
  unfold Flt.pickv
  rw [if_pos hw]
  by_cases c1 : Flt.cls a 32 = 4
  · rw [if_pos (.inl c1)]; exact min_n1_32 a b _ _ HA HN (beq_iff_eq.2 c1)
  · by_cases c2 : Flt.cls b 32 = 4
    · rw [if_pos (.inr c2)]; exact min_n2_32 a b _ _ _ HA HB HN (beq_eq_false_iff_ne.2 c1) (beq_iff_eq.2 c2)
    · rw [if_neg (fun h => h.elim c1 c2)]
      by_cases o : Flt.nord a b 32 = 1
      · rw [if_pos o]; exact min_b_32 a b _ _ _ HA HB HO (beq_eq_false_iff_ne.2 c1) (beq_eq_false_iff_ne.2 c2) (beq_iff_eq.2 o)
      · rw [if_neg o]; exact min_a_32 a b _ _ _ HA HB HO (beq_eq_false_iff_ne.2 c1) (beq_eq_false_iff_ne.2 c2) (beq_eq_false_iff_ne.2 o)
theorem min_any (a b v : Int) (ha : Flt.I64 a) (hb : Flt.I64 b) : Tells 26 #[.int .i64 a, .int .i64 b, .int .i64 v] (.int .i64 (Flt.pickv a b v 1)) := by
  by_cases h : v = 64
  · subst h; exact min_wide64 a b ha hb
  · by_cases h2 : v = 32
    · subst h2; exact min_wide32 a b ha hb
    · have hw : ¬ Flt.isW v = true := by unfold Flt.isW; rw [decide_eq_false h, decide_eq_false h2]; decide
      unfold Flt.pickv
      rw [if_neg hw]
      exact min_no a b v (bne_iff_ne.2 h) (bne_iff_ne.2 h2)

set_option maxRecDepth 100000 in
set_option maxHeartbeats 1000000 in
theorem max_no (a b v : Int) (m64 : (v != 64) = true) (m32 : (v != 32) = true) : Tells 27 #[.int .i64 a, .int .i64 b, .int .i64 v] (.int .i64 0) := by
  intro w
  have HB : Below w.heap.size w w := Below.refl _ _
  go_enter Try.func27, Try.ntmps27
  go_wp2_with (go_at_call 63; go_in)
  go_ret
  exact ⟨rfl, HB⟩

set_option maxRecDepth 100000 in
set_option maxHeartbeats 1000000 in
theorem max_n1_64 (a b : Int) (x z : Int) (hA : Hid (Tells 28 #[.int .i64 a, .int .i64 64] (.int .i64 x))) (hN : Hid (Tells 95 #[.int .i64 64] (.int .i64 z))) (c1 : (x == 4) = true) : Tells 27 #[.int .i64 a, .int .i64 b, .int .i64 64] (.int .i64 z) := by
  intro w
  have HB : Below w.heap.size w w := Below.refl _ _
  go_enter Try.func27, Try.ntmps27
  go_wp2_with (go_at_call 63; go_in)
  refine (hA.out _).mono ?_
  rintro e w1 ⟨rfl, hb1⟩
  replace HB := below_on HB hb1
  clear hb1
  go_wp2_with (go_at_call 63; go_in)
  refine (hN.out _).mono ?_
  rintro e w1 ⟨rfl, hb1⟩
  replace HB := below_on HB hb1
  clear hb1
  go_wp2_with (go_at_call 63; go_in)
  go_ret
  exact ⟨rfl, HB⟩

set_option maxRecDepth 100000 in
set_option maxHeartbeats 1000000 in
theorem max_n2_64 (a b : Int) (x y z : Int) (hA : Hid (Tells 28 #[.int .i64 a, .int .i64 64] (.int .i64 x))) (hB : Hid (Tells 28 #[.int .i64 b, .int .i64 64] (.int .i64 y))) (hN : Hid (Tells 95 #[.int .i64 64] (.int .i64 z))) (c1 : (x == 4) = false) (c2 : (y == 4) = true) : Tells 27 #[.int .i64 a, .int .i64 b, .int .i64 64] (.int .i64 z) := by
  intro w
  have HB : Below w.heap.size w w := Below.refl _ _
  go_enter Try.func27, Try.ntmps27
  go_wp2_with (go_at_call 63; go_in)
  refine (hA.out _).mono ?_
  rintro e w1 ⟨rfl, hb1⟩
  replace HB := below_on HB hb1
  clear hb1
  go_wp2_with (go_at_call 63; go_in)
  refine (hB.out _).mono ?_
  rintro e w1 ⟨rfl, hb1⟩
  replace HB := below_on HB hb1
  clear hb1
  go_wp2_with (go_at_call 63; go_in)
  refine (hN.out _).mono ?_
  rintro e w1 ⟨rfl, hb1⟩
  replace HB := below_on HB hb1
  clear hb1
  go_wp2_with (go_at_call 63; go_in)
  go_ret
  exact ⟨rfl, HB⟩

set_option maxRecDepth 100000 in
set_option maxHeartbeats 1000000 in
theorem max_b_64 (a b : Int) (x y z : Int) (hA : Hid (Tells 28 #[.int .i64 a, .int .i64 64] (.int .i64 x))) (hB : Hid (Tells 28 #[.int .i64 b, .int .i64 64] (.int .i64 y))) (hO : Hid (Tells 24 #[.int .i64 a, .int .i64 b, .int .i64 64] (.int .i64 z))) (c1 : (x == 4) = false) (c2 : (y == 4) = false) (o : (z == (-1)) = true) : Tells 27 #[.int .i64 a, .int .i64 b, .int .i64 64] (.int .i64 b) := by
  intro w
  have HB : Below w.heap.size w w := Below.refl _ _
  go_enter Try.func27, Try.ntmps27
  go_wp2_with (go_at_call 63; go_in)
  refine (hA.out _).mono ?_
  rintro e w1 ⟨rfl, hb1⟩
  replace HB := below_on HB hb1
  clear hb1
  go_wp2_with (go_at_call 63; go_in)
  refine (hB.out _).mono ?_
  rintro e w1 ⟨rfl, hb1⟩
  replace HB := below_on HB hb1
  clear hb1
  go_wp2_with (go_at_call 63; go_in)
  refine (hO.out _).mono ?_
  rintro e w1 ⟨rfl, hb1⟩
  replace HB := below_on HB hb1
  clear hb1
  go_wp2_with (go_at_call 63; go_in)
  go_ret
  exact ⟨rfl, HB⟩

set_option maxRecDepth 100000 in
set_option maxHeartbeats 1000000 in
theorem max_a_64 (a b : Int) (x y z : Int) (hA : Hid (Tells 28 #[.int .i64 a, .int .i64 64] (.int .i64 x))) (hB : Hid (Tells 28 #[.int .i64 b, .int .i64 64] (.int .i64 y))) (hO : Hid (Tells 24 #[.int .i64 a, .int .i64 b, .int .i64 64] (.int .i64 z))) (c1 : (x == 4) = false) (c2 : (y == 4) = false) (o : (z == (-1)) = false) : Tells 27 #[.int .i64 a, .int .i64 b, .int .i64 64] (.int .i64 a) := by
  intro w
  have HB : Below w.heap.size w w := Below.refl _ _
  go_enter Try.func27, Try.ntmps27
  go_wp2_with (go_at_call 63; go_in)
  refine (hA.out _).mono ?_
  rintro e w1 ⟨rfl, hb1⟩
  replace HB := below_on HB hb1
  clear hb1
  go_wp2_with (go_at_call 63; go_in)
  refine (hB.out _).mono ?_
  rintro e w1 ⟨rfl, hb1⟩
  replace HB := below_on HB hb1
  clear hb1
  go_wp2_with (go_at_call 63; go_in)
  refine (hO.out _).mono ?_
  rintro e w1 ⟨rfl, hb1⟩
  replace HB := below_on HB hb1
  clear hb1
  go_wp2_with (go_at_call 63; go_in)
  go_ret
  exact ⟨rfl, HB⟩

set_option maxRecDepth 100000 in
set_option maxHeartbeats 1000000 in
theorem max_n1_32 (a b : Int) (x z : Int) (hA : Hid (Tells 28 #[.int .i64 a, .int .i64 32] (.int .i64 x))) (hN : Hid (Tells 95 #[.int .i64 32] (.int .i64 z))) (c1 : (x == 4) = true) : Tells 27 #[.int .i64 a, .int .i64 b, .int .i64 32] (.int .i64 z) := by
  intro w
  have HB : Below w.heap.size w w := Below.refl _ _
  go_enter Try.func27, Try.ntmps27
  go_wp2_with (go_at_call 63; go_in)
  refine (hA.out _).mono ?_
  rintro e w1 ⟨rfl, hb1⟩
  replace HB := below_on HB hb1
  clear hb1
  go_wp2_with (go_at_call 63; go_in)
  refine (hN.out _).mono ?_
  rintro e w1 ⟨rfl, hb1⟩
  replace HB := below_on HB hb1
  clear hb1
  go_wp2_with (go_at_call 63; go_in)
  go_ret
  exact ⟨rfl, HB⟩

set_option maxRecDepth 100000 in
set_option maxHeartbeats 1000000 in
theorem max_n2_32 (a b : Int) (x y z : Int) (hA : Hid (Tells 28 #[.int .i64 a, .int .i64 32] (.int .i64 x))) (hB : Hid (Tells 28 #[.int .i64 b, .int .i64 32] (.int .i64 y))) (hN : Hid (Tells 95 #[.int .i64 32] (.int .i64 z))) (c1 : (x == 4) = false) (c2 : (y == 4) = true) : Tells 27 #[.int .i64 a, .int .i64 b, .int .i64 32] (.int .i64 z) := by
  intro w
  have HB : Below w.heap.size w w := Below.refl _ _
  go_enter Try.func27, Try.ntmps27
  go_wp2_with (go_at_call 63; go_in)
  refine (hA.out _).mono ?_
  rintro e w1 ⟨rfl, hb1⟩
  replace HB := below_on HB hb1
  clear hb1
  go_wp2_with (go_at_call 63; go_in)
  refine (hB.out _).mono ?_
  rintro e w1 ⟨rfl, hb1⟩
  replace HB := below_on HB hb1
  clear hb1
  go_wp2_with (go_at_call 63; go_in)
  refine (hN.out _).mono ?_
  rintro e w1 ⟨rfl, hb1⟩
  replace HB := below_on HB hb1
  clear hb1
  go_wp2_with (go_at_call 63; go_in)
  go_ret
  exact ⟨rfl, HB⟩

set_option maxRecDepth 100000 in
set_option maxHeartbeats 1000000 in
theorem max_b_32 (a b : Int) (x y z : Int) (hA : Hid (Tells 28 #[.int .i64 a, .int .i64 32] (.int .i64 x))) (hB : Hid (Tells 28 #[.int .i64 b, .int .i64 32] (.int .i64 y))) (hO : Hid (Tells 24 #[.int .i64 a, .int .i64 b, .int .i64 32] (.int .i64 z))) (c1 : (x == 4) = false) (c2 : (y == 4) = false) (o : (z == (-1)) = true) : Tells 27 #[.int .i64 a, .int .i64 b, .int .i64 32] (.int .i64 b) := by
  intro w
  have HB : Below w.heap.size w w := Below.refl _ _
  go_enter Try.func27, Try.ntmps27
  go_wp2_with (go_at_call 63; go_in)
  refine (hA.out _).mono ?_
  rintro e w1 ⟨rfl, hb1⟩
  replace HB := below_on HB hb1
  clear hb1
  go_wp2_with (go_at_call 63; go_in)
  refine (hB.out _).mono ?_
  rintro e w1 ⟨rfl, hb1⟩
  replace HB := below_on HB hb1
  clear hb1
  go_wp2_with (go_at_call 63; go_in)
  refine (hO.out _).mono ?_
  rintro e w1 ⟨rfl, hb1⟩
  replace HB := below_on HB hb1
  clear hb1
  go_wp2_with (go_at_call 63; go_in)
  go_ret
  exact ⟨rfl, HB⟩

set_option maxRecDepth 100000 in
set_option maxHeartbeats 1000000 in
theorem max_a_32 (a b : Int) (x y z : Int) (hA : Hid (Tells 28 #[.int .i64 a, .int .i64 32] (.int .i64 x))) (hB : Hid (Tells 28 #[.int .i64 b, .int .i64 32] (.int .i64 y))) (hO : Hid (Tells 24 #[.int .i64 a, .int .i64 b, .int .i64 32] (.int .i64 z))) (c1 : (x == 4) = false) (c2 : (y == 4) = false) (o : (z == (-1)) = false) : Tells 27 #[.int .i64 a, .int .i64 b, .int .i64 32] (.int .i64 a) := by
  intro w
  have HB : Below w.heap.size w w := Below.refl _ _
  go_enter Try.func27, Try.ntmps27
  go_wp2_with (go_at_call 63; go_in)
  refine (hA.out _).mono ?_
  rintro e w1 ⟨rfl, hb1⟩
  replace HB := below_on HB hb1
  clear hb1
  go_wp2_with (go_at_call 63; go_in)
  refine (hB.out _).mono ?_
  rintro e w1 ⟨rfl, hb1⟩
  replace HB := below_on HB hb1
  clear hb1
  go_wp2_with (go_at_call 63; go_in)
  refine (hO.out _).mono ?_
  rintro e w1 ⟨rfl, hb1⟩
  replace HB := below_on HB hb1
  clear hb1
  go_wp2_with (go_at_call 63; go_in)
  go_ret
  exact ⟨rfl, HB⟩

theorem max_wide64 (a b : Int) (ha : Flt.I64 a) (hb : Flt.I64 b) : Tells 27 #[.int .i64 a, .int .i64 b, .int .i64 64] (.int .i64 (Flt.pickv a b 64 (-1))) := by
  have HA := Lib.hid (class_any a 64)
  have HB := Lib.hid (class_any b 64)
  have HN := Lib.hid (nan_any 64)
  have ho := order_any a b 64 ha hb
  have hw : Flt.isW 64 = true := by decide
  rw [if_pos hw] at ho
  have HO := Lib.hid ho
  unfold Flt.pickv
  rw [if_pos hw]
  by_cases c1 : Flt.cls a 64 = 4
  · rw [if_pos (.inl c1)]; exact max_n1_64 a b _ _ HA HN (beq_iff_eq.2 c1)
  · by_cases c2 : Flt.cls b 64 = 4
    · rw [if_pos (.inr c2)]; exact max_n2_64 a b _ _ _ HA HB HN (beq_eq_false_iff_ne.2 c1) (beq_iff_eq.2 c2)
    · rw [if_neg (fun h => h.elim c1 c2)]
      by_cases o : Flt.nord a b 64 = (-1)
      · rw [if_pos o]; exact max_b_64 a b _ _ _ HA HB HO (beq_eq_false_iff_ne.2 c1) (beq_eq_false_iff_ne.2 c2) (beq_iff_eq.2 o)
      · rw [if_neg o]; exact max_a_64 a b _ _ _ HA HB HO (beq_eq_false_iff_ne.2 c1) (beq_eq_false_iff_ne.2 c2) (beq_eq_false_iff_ne.2 o)

theorem max_wide32 (a b : Int) (ha : Flt.I64 a) (hb : Flt.I64 b) : Tells 27 #[.int .i64 a, .int .i64 b, .int .i64 32] (.int .i64 (Flt.pickv a b 32 (-1))) := by
  have HA := Lib.hid (class_any a 32)
  have HB := Lib.hid (class_any b 32)
  have HN := Lib.hid (nan_any 32)
  have ho := order_any a b 32 ha hb
  have hw : Flt.isW 32 = true := by decide
  rw [if_pos hw] at ho
  have HO := Lib.hid ho
  unfold Flt.pickv
  rw [if_pos hw]
  by_cases c1 : Flt.cls a 32 = 4
  · rw [if_pos (.inl c1)]; exact max_n1_32 a b _ _ HA HN (beq_iff_eq.2 c1)
  · by_cases c2 : Flt.cls b 32 = 4
    · rw [if_pos (.inr c2)]; exact max_n2_32 a b _ _ _ HA HB HN (beq_eq_false_iff_ne.2 c1) (beq_iff_eq.2 c2)
    · rw [if_neg (fun h => h.elim c1 c2)]
      by_cases o : Flt.nord a b 32 = (-1)
      · rw [if_pos o]; exact max_b_32 a b _ _ _ HA HB HO (beq_eq_false_iff_ne.2 c1) (beq_eq_false_iff_ne.2 c2) (beq_iff_eq.2 o)
      · rw [if_neg o]; exact max_a_32 a b _ _ _ HA HB HO (beq_eq_false_iff_ne.2 c1) (beq_eq_false_iff_ne.2 c2) (beq_eq_false_iff_ne.2 o)
theorem max_any (a b v : Int) (ha : Flt.I64 a) (hb : Flt.I64 b) : Tells 27 #[.int .i64 a, .int .i64 b, .int .i64 v] (.int .i64 (Flt.pickv a b v (-1))) := by
  by_cases h : v = 64
  · subst h; exact max_wide64 a b ha hb
  · by_cases h2 : v = 32
    · subst h2; exact max_wide32 a b ha hb
    · have hw : ¬ Flt.isW v = true := by unfold Flt.isW; rw [decide_eq_false h, decide_eq_false h2]; decide
      unfold Flt.pickv
      rw [if_neg hw]
      exact max_no a b v (bne_iff_ne.2 h) (bne_iff_ne.2 h2)
end Go.Proofs.Ytjogbiopbobifaa
