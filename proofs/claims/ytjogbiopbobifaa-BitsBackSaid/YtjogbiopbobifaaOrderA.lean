/- Walks: what a pattern stands for, less, same. -/
import Derived.Test.YtjogbiopbobifaaSpecB
namespace Go.Proofs.Ytjogbiopbobifaa
open Go.RowKit

/-- what 'wide' answers -/
def WideAnswer (b v : Int) (w : World) (e : Ending) (w' : World) : Prop := ∃ r, Flt.Stands b v r ∧ e = .returned (.tuple #[.float .f64 r, .bool true]) ∧ Below w.heap.size w w'

set_option maxRecDepth 100000 in
set_option maxHeartbeats 400000 in
theorem wide64 (b : Int) (w : World) : Calls Try.prog 61 #[.int .i64 b, .int .i64 64] w fun e w' => e = .returned (.tuple #[.float .f64 (Flt.w64 b), .bool true]) ∧ w = w' := by
  go_enter Try.func61, Try.ntmps61
  go_wp2_with (go_at_call 16; (with_reducible refine (float_w64 _ _).mono ?_); rintro e w1 ⟨rfl, rfl⟩)
  go_ret2
  exact ⟨rfl, rfl⟩
set_option maxRecDepth 100000 in
set_option maxHeartbeats 400000 in
theorem wide32 (b : Int) (r : Nat) (w w2 : World) (hr : (convert 26 24 (.float .f32 (Flt.w32 b))).run Try.prog w = .ok (.float .f64 r) w2) :
    Calls Try.prog 61 #[.int .i64 b, .int .i64 32] w fun e w' => e = .returned (.tuple #[.float .f64 r, .bool true]) ∧ w2 = w' := by
  go_enter Try.func61, Try.ntmps61
  go_wp2_with (go_at_call 17; (with_reducible refine (float32_any _ _).mono ?_); rintro e w1 ⟨rfl, rfl⟩)
  go_ret2
  exact ⟨rfl, rfl⟩
set_option maxRecDepth 100000 in
set_option maxHeartbeats 400000 in
theorem wide_no (b v : Int) (h64 : (v == 64) = false) (h32 : (v == 32) = false) : Tells 61 #[.int .i64 b, .int .i64 v] (.tuple #[.float .f64 0, .bool false]) := by
  intro w
  go_enter Try.func61, Try.ntmps61
  go_wp2
  go_ret2
  exact ⟨rfl, Below.refl _ _⟩
theorem wide_any (b v : Int) (hv : v = 64 ∨ v = 32) (w : World) : Calls Try.prog 61 #[.int .i64 b, .int .i64 v] w (WideAnswer b v w) := by
  rcases hv with rfl | rfl
  · refine (wide64 b w).mono ?_
    rintro e w' ⟨he, rfl⟩
    exact ⟨_, ⟨w64_lt b, fun _ => rfl, (fun h => by cases h), (fun h => by cases h)⟩, he, Below.refl _ _⟩
  · by_cases c : Flt.cls32 b = 4
    · obtain ⟨r, hr, hrn, hrun⟩ := f32to64_nan (Flt.w32 b) (by rw [Flt.w32_nan]; exact decide_eq_true c) w
      refine (wide32 b r w w.drew hrun).mono ?_
      rintro e w' ⟨he, rfl⟩
      exact ⟨r, ⟨hr, (fun h => by cases h), fun _ _ => hrn, fun _ h => absurd c h⟩, he, (Below.refl _ _).drew⟩
    · refine (wide32 b _ w w (f32to64 _ (Flt.w32_num c) w)).mono ?_
      rintro e w' ⟨he, rfl⟩
      exact ⟨_, ⟨Flt.wide_lt _, (fun h => by cases h), fun _ h => absurd h c, fun _ _ => rfl⟩, he, Below.refl _ _⟩

namespace Flt
/-- less, by value -/
def nless (a b v : Int) : Bool := !decide (cls a v = 4) && !decide (cls b v = 4) && decide (sr a v < sr b v)
def nsame (a b v : Int) : Bool := !decide (cls a v = 4) && !decide (cls b v = 4) && decide (sr a v = sr b v)
theorem stands_lt {a b v : Int} {r s : Nat} (hv : v = 64 ∨ v = 32) (ha : I64 a) (hb : I64 b) (h : Stands a v r) (k : Stands b v s) : (FloatKind.f64.format.order r s == some .lt) = nless a b v := by
  have e : FloatKind.f64.format.order r s = _ := stands_order hv ha hb h k
  rw [e]
  unfold nless
  by_cases c1 : cls a v = 4
  · simp [c1]
  · by_cases c2 : cls b v = 4
    · simp [c2]
    · simp only [c1, c2, or_self, if_false, decide_false, Bool.not_false, Bool.true_and, compare_int]
      by_cases l : sr a v < sr b v
      · simp [l]
      · rw [if_neg l, decide_eq_false l]; split <;> rfl
theorem stands_eq {a b v : Int} {r s : Nat} (hv : v = 64 ∨ v = 32) (ha : I64 a) (hb : I64 b) (h : Stands a v r) (k : Stands b v s) : (FloatKind.f64.format.order r s == some .eq) = nsame a b v := by
  have e : FloatKind.f64.format.order r s = _ := stands_order hv ha hb h k
  rw [e]
  unfold nsame
  by_cases c1 : cls a v = 4
  · simp [c1]
  · by_cases c2 : cls b v = 4
    · simp [c2]
    · simp only [c1, c2, or_self, if_false, decide_false, Bool.not_false, Bool.true_and, compare_int]
      by_cases l : sr a v < sr b v
      · rw [if_pos l, decide_eq_false (by omega)]; rfl
      · by_cases m : sr a v = sr b v
        · rw [if_neg l, if_pos m, decide_eq_true m]; rfl
        · rw [if_neg l, if_neg m, decide_eq_false m]; rfl
theorem stands_gt {a b v : Int} {r s : Nat} (hv : v = 64 ∨ v = 32) (ha : I64 a) (hb : I64 b) (h : Stands a v r) (k : Stands b v s) : (FloatKind.f64.format.order r s == some .gt) = nless b a v := by
  have e : FloatKind.f64.format.order r s = _ := stands_order hv ha hb h k
  rw [e]
  unfold nless
  by_cases c1 : cls a v = 4
  · simp [c1]
  · by_cases c2 : cls b v = 4
    · simp [c2]
    · simp only [c1, c2, or_self, if_false, decide_false, Bool.not_false, Bool.true_and, compare_int]
      by_cases l : sr a v < sr b v
      · rw [if_pos l, decide_eq_false (by omega)]; rfl
      · by_cases m : sr a v = sr b v
        · rw [if_neg l, if_pos m, decide_eq_false (by omega)]; rfl
        · rw [if_neg l, if_neg m, decide_eq_true (by omega)]; rfl
end Flt

theorem ret_bool {a b : Bool} (h : a = b) : Ending.returned (.bool a) = .returned (.bool b) := by rw [h]
theorem below_same {w : World} : Below w.heap.size w w := Below.refl _ _

set_option maxRecDepth 100000 in
set_option maxHeartbeats 1000000 in
theorem less_wide (a b v : Int) (hv : Hid (v = 64 ∨ v = 32)) (ha : Hid (Flt.I64 a)) (hb : Hid (Flt.I64 b)) : Tells 25 #[.int .i64 a, .int .i64 b, .int .i64 v] (.bool (Flt.nless a b v)) := by
  intro w
  have HB : Below w.heap.size w w := Below.refl _ _
  go_enter Try.func25, Try.ntmps25
  go_wp2_with fail
  refine (wide_any a v hv.out _).mono ?_
  rintro e w1 ⟨r, hr, rfl, hb1⟩
  replace HB := below_on HB hb1
  clear hb1
  have HR := Lib.hid hr
  clear hr
  go_wp2_with fail
  refine (wide_any b v hv.out _).mono ?_
  rintro e w1 ⟨s, hs, rfl, hb1⟩
  replace HB := below_on HB hb1
  clear hb1
  have HS := Lib.hid hs
  clear hs
  go_wp2_with fail
  go_ret
  exact ⟨ret_bool (Flt.stands_lt hv.out ha.out hb.out HR.out HS.out), HB⟩
set_option maxRecDepth 100000 in
set_option maxHeartbeats 1000000 in
theorem same_wide (a b v : Int) (hv : Hid (v = 64 ∨ v = 32)) (ha : Hid (Flt.I64 a)) (hb : Hid (Flt.I64 b)) : Tells 30 #[.int .i64 a, .int .i64 b, .int .i64 v] (.bool (Flt.nsame a b v)) := by
  intro w
  have HB : Below w.heap.size w w := Below.refl _ _
  go_enter Try.func30, Try.ntmps30
  go_wp2_with fail
  refine (wide_any a v hv.out _).mono ?_
  rintro e w1 ⟨r, hr, rfl, hb1⟩
  replace HB := below_on HB hb1
  clear hb1
  have HR := Lib.hid hr
  clear hr
  go_wp2_with fail
  refine (wide_any b v hv.out _).mono ?_
  rintro e w1 ⟨s, hs, rfl, hb1⟩
  replace HB := below_on HB hb1
  clear hb1
  have HS := Lib.hid hs
  clear hs
  go_wp2_with fail
  go_ret
  exact ⟨ret_bool (Flt.stands_eq hv.out ha.out hb.out HR.out HS.out), HB⟩
set_option maxRecDepth 100000 in
set_option maxHeartbeats 1000000 in
theorem less_no (a b v : Int) (h64 : Hid ((v == 64) = false)) (h32 : Hid ((v == 32) = false)) : Tells 25 #[.int .i64 a, .int .i64 b, .int .i64 v] (.bool false) := by
  intro w
  have HB : Below w.heap.size w w := Below.refl _ _
  go_enter Try.func25, Try.ntmps25
  go_wp2_with fail
  refine (wide_no a v h64.out h32.out _).mono ?_
  rintro e w1 ⟨rfl, hb1⟩
  replace HB := below_on HB hb1
  clear hb1
  go_wp2_with fail
  refine (wide_no b v h64.out h32.out _).mono ?_
  rintro e w1 ⟨rfl, hb1⟩
  replace HB := below_on HB hb1
  clear hb1
  go_wp2_with fail
  go_ret
  exact ⟨rfl, HB⟩
set_option maxRecDepth 100000 in
set_option maxHeartbeats 1000000 in
theorem same_no (a b v : Int) (h64 : Hid ((v == 64) = false)) (h32 : Hid ((v == 32) = false)) : Tells 30 #[.int .i64 a, .int .i64 b, .int .i64 v] (.bool false) := by
  intro w
  have HB : Below w.heap.size w w := Below.refl _ _
  go_enter Try.func30, Try.ntmps30
  go_wp2_with fail
  refine (wide_no a v h64.out h32.out _).mono ?_
  rintro e w1 ⟨rfl, hb1⟩
  replace HB := below_on HB hb1
  clear hb1
  go_wp2_with fail
  refine (wide_no b v h64.out h32.out _).mono ?_
  rintro e w1 ⟨rfl, hb1⟩
  replace HB := below_on HB hb1
  clear hb1
  go_wp2_with fail
  go_ret
  exact ⟨rfl, HB⟩

/-- is there such a width? -/
def Flt.isW (v : Int) : Bool := decide (v = 64) || decide (v = 32)
theorem Flt.isW_yes {v : Int} (h : Flt.isW v = true) : v = 64 ∨ v = 32 := by unfold Flt.isW at h; simpa using h
theorem Flt.isW_no {v : Int} (h : ¬ Flt.isW v = true) : (v == 64) = false ∧ (v == 32) = false := by unfold Flt.isW at h; simpa using h
theorem less_any (a b v : Int) (ha : Flt.I64 a) (hb : Flt.I64 b) : Tells 25 #[.int .i64 a, .int .i64 b, .int .i64 v] (.bool (Flt.isW v && Flt.nless a b v)) := by
  by_cases h : Flt.isW v = true
  · rw [h, Bool.true_and]; exact less_wide a b v (Lib.hid (Flt.isW_yes h)) (Lib.hid ha) (Lib.hid hb)
  · rw [Bool.eq_false_iff.2 h, Bool.false_and]; exact less_no a b v (Lib.hid (Flt.isW_no h).1) (Lib.hid (Flt.isW_no h).2)
theorem same_any (a b v : Int) (ha : Flt.I64 a) (hb : Flt.I64 b) : Tells 30 #[.int .i64 a, .int .i64 b, .int .i64 v] (.bool (Flt.isW v && Flt.nsame a b v)) := by
  by_cases h : Flt.isW v = true
  · rw [h, Bool.true_and]; exact same_wide a b v (Lib.hid (Flt.isW_yes h)) (Lib.hid ha) (Lib.hid hb)
  · rw [Bool.eq_false_iff.2 h, Bool.false_and]; exact same_no a b v (Lib.hid (Flt.isW_no h).1) (Lib.hid (Flt.isW_no h).2)
end Go.Proofs.Ytjogbiopbobifaa
