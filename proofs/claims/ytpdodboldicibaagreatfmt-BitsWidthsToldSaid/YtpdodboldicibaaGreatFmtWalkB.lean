/- The class of a pattern: what the printed function tells, as a plain function. Walks: a pattern's parts. Walks: the laws' own question whether 1 says what it is. -/
import Derived.Test.YtpdodboldicibaaGreatFmtWalkA
import Derived.Test.YtpdodboldicibaaGreatFmtPlain
import Derived.Test.YtpdodboldicibaaGreatFmtFBitsClass
import Derived.BigQuiet
import Derived.Deep.QuietTactic
namespace Go.Proofs.YtpdodboldicibaaGreatFmt
open Go.RowKit Go.Proofs.YtpdodboldicibaaGreatFmtW.PrintWords

theorem Flt.fld64_eq (b : Int) : bits .and .i64 (b / 4503599627370496) 2047 = b / 4503599627370496 % 2048 := Flt.i64_and_mask _ 11 (by omega) 2047 (by decide)
theorem Flt.frc64_eq (b : Int) : bits .and .i64 b 4503599627370495 = b % 4503599627370496 := Flt.i64_and_mask _ 52 (by omega) 4503599627370495 (by decide)
theorem Flt.fld32_eq (b : Int) : bits .and .i64 (b / 8388608) 255 = b / 8388608 % 256 := Flt.i64_and_mask _ 8 (by omega) 255 (by decide)
theorem Flt.frc32_eq (b : Int) : bits .and .i64 b 8388607 = b % 8388608 := Flt.i64_and_mask _ 23 (by omega) 8388607 (by decide)

theorem shl52 : wrap64 (shl .i64 1 52 - 1) = 4503599627370495 := by kernel_rfl
theorem shl23 : wrap64 (shl .i64 1 23 - 1) = 8388607 := by kernel_rfl
theorem cls_f64 (b : Int) : F.bits_Class.f 1 b 64 = some (Flt.cls64 b) := by
  have e1 : shr .i64 b 52 = b / 4503599627370496 := rfl
  unfold F.bits_Class.f F.bits_of.f F.bits_Valid.f
  simp only [if_true, Option.bind_some, e1, shl52, Flt.fld64_eq, Flt.frc64_eq, F.bits_Class.j0]
  unfold Flt.cls64
  by_cases c : b / 4503599627370496 % 2048 = 2047
  · by_cases c2 : b % 4503599627370496 = 0 <;> simp [c, c2]
  · by_cases c3 : b / 4503599627370496 % 2048 = 0
    · by_cases c2 : b % 4503599627370496 = 0 <;> simp [c2, c3]
    · have : b / 4503599627370496 % 2048 > 0 := by omega
      simp [c, c3]
theorem cls_f32 (b : Int) : F.bits_Class.f 1 b 32 = some (Flt.cls32 b) := by
  have e1 : shr .i64 b 23 = b / 8388608 := rfl
  have hv : (b == b % 4294967296) = Flt.valid32 b := valid32_b b
  unfold F.bits_Class.f F.bits_of.f F.bits_Valid.f
  simp only [if_true, show ¬ (32 : Int) = 64 by decide, if_false, Option.bind_some, e1, shl23, Flt.fld32_eq, Flt.frc32_eq, F.bits_Class.j0, hv]
  unfold Flt.cls32
  cases Flt.valid32 b
  · simp
  · by_cases c : b / 8388608 % 256 = 255
    · by_cases c2 : b % 8388608 = 0 <;> simp [c, c2]
    · by_cases c3 : b / 8388608 % 256 = 0
      · by_cases c2 : b % 8388608 = 0 <;> simp [c2, c3]
      · simp [c, c3]
theorem cls_fno (b v : Int) (h64 : ¬ v = 64) (h32 : ¬ v = 32) : F.bits_Class.f 1 b v = some 0 := by
  unfold F.bits_Class.f F.bits_of.f
  rw [if_neg h64, if_neg h32]
  rfl
theorem cls_f (b v : Int) : F.bits_Class.f 1 b v = some (Flt.cls b v) := by
  unfold Flt.cls
  by_cases h : v = 64
  · subst h; exact cls_f64 b
  · rw [if_neg h]
    by_cases h2 : v = 32
    · subst h2; exact cls_f32 b
    · rw [if_neg h2]; exact cls_fno b v h h2
theorem class_any (b v : Int) : Tells 10 #[.int .i64 b, .int .i64 v] (.int .i64 (Flt.cls b v)) :=
  fun w => F.bits_Class.calls 1 b v _ w (cls_f b v)
end Go.Proofs.YtpdodboldicibaaGreatFmt

namespace Go.Proofs.YtpdodboldicibaaGreatFmt
open Go.RowKit

theorem bcell {W w1 : World} (hb : Below W.heap.size W w1) : (∀ b o, b < W.heap.size → w1.cell? ⟨b, o, none⟩ = W.cell? ⟨b, o, none⟩) ∧ (∀ b o, b < W.heap.size → w1.frozen? ⟨b, o, none⟩ = W.frozen? ⟨b, o, none⟩) :=
  ⟨fun b o h => hb.cell (p := ⟨b, o, none⟩) h, fun b o h => hb.frozen (p := ⟨b, o, none⟩) h⟩
theorem below_drewN' {B : Nat} {a w : World} (h : Below B a w) (n : Nat) : Below B a (w.drewN n) := ⟨h.os, h.tape, h.output, h.size, h.block⟩
/-- two calls with a new block between them -/
theorem below_two {w w1 w2 : World} {o : Obj} (hb : Below w.heap.size w w1) (hb2 : Below (w1.alloc o).heap.size (w1.alloc o) w2) : Below w.heap.size w w2 :=
  (hb.alloc hb.size o).trans (hb2.mono (Nat.le_trans hb.size (by simp)))
theorem results_tmp4 {fn : Func} {t u v x : Tmp} (h : fn.results = #[.tmp t, .tmp u, .tmp v, .tmp x]) (tmps : Array Value) (P : Program) (w : World) :
    (results fn tmps).run P w = .ok (.tuple #[tmps.getD t undef, tmps.getD u undef, tmps.getD v undef, tmps.getD x undef]) w := by simp [results, h]
theorem ret_parts {a b : Bool} {m n x y : Int} (h1 : a = b) (h2 : m = n) (h3 : x = y) : Ending.returned (.tuple #[.bool a, .int .i64 m, .int .i64 x, .bool true]) = .returned (.tuple #[.bool b, .int .i64 n, .int .i64 y, .bool true]) := by rw [h1, h2, h3]

namespace Flt
def mag64 (b : Int) : Int := if b / 4503599627370496 % 2048 = 0 then b % 4503599627370496 else b % 4503599627370496 + 4503599627370496
def exp64 (b : Int) : Int := if b / 4503599627370496 % 2048 = 0 then -1074 else b / 4503599627370496 % 2048 - 1075
def mag32 (b : Int) : Int := if b / 8388608 % 256 = 0 then b % 8388608 else b % 8388608 + 8388608
def exp32 (b : Int) : Int := if b / 8388608 % 256 = 0 then -149 else b / 8388608 % 256 - 150
theorem mask64_b (x : Int) : 0 ≤ bits .and .i64 x 2047 ∧ bits .and .i64 x 2047 ≤ 2047 := by rw [i64_and_mask x 11 (by omega) 2047 (by decide)]; omega
theorem mask32_b (x : Int) : 0 ≤ bits .and .i64 x 255 ∧ bits .and .i64 x 255 ≤ 255 := by rw [i64_and_mask x 8 (by omega) 255 (by decide)]; omega
theorem sign64_b (b : Int) (h : I64 b) : (bits .and .i64 b (-9223372036854775808) != 0) = neg64 b := by
  unfold neg64
  rw [i64_and_sign b h.1 h.2]
  by_cases h : b < 0 <;> simp [h]
theorem sign32_b (b : Int) (h : valid32 b = true) : (bits .and .i64 b 2147483648 != 0) = neg32 b := by
  have hv : 0 ≤ b ∧ b < 4294967296 := by unfold valid32 at h; simpa using h
  unfold neg32
  rw [i64_and_sign32 b hv.1 hv.2]
  by_cases h : 2147483648 ≤ b <;> simp [h]
theorem mag64_hi (b : Int) (h : 0 < bits .and .i64 (b / 4503599627370496) 2047) : bits .or .i64 (bits .and .i64 b 4503599627370495) 4503599627370496 = mag64 b := by
  rw [fld64_eq] at h
  rw [frc64_eq, i64_or_bit _ 52 (by omega) (by omega) (by omega) _ (by decide)]
  unfold mag64; rw [if_neg (by omega)]
theorem mag64_lo (b : Int) (h : bits .and .i64 (b / 4503599627370496) 2047 ≤ 0) : bits .and .i64 b 4503599627370495 = mag64 b := by
  rw [fld64_eq] at h
  rw [frc64_eq]
  unfold mag64; rw [if_pos (by omega)]
theorem exp64_hi (b : Int) (h : 0 < bits .and .i64 (b / 4503599627370496) 2047) : -1074 + (bits .and .i64 (b / 4503599627370496) 2047 - 1) = exp64 b := by
  rw [fld64_eq] at h ⊢
  unfold exp64; rw [if_neg (by omega)]; omega
theorem exp64_lo (b : Int) (h : bits .and .i64 (b / 4503599627370496) 2047 ≤ 0) : -1074 = exp64 b := by
  rw [fld64_eq] at h
  unfold exp64; rw [if_pos (by omega)]
theorem mag32_hi (b : Int) (h : 0 < bits .and .i64 (b / 8388608) 255) : bits .or .i64 (bits .and .i64 b 8388607) 8388608 = mag32 b := by
  rw [fld32_eq] at h
  rw [frc32_eq, i64_or_bit _ 23 (by omega) (by omega) (by omega) _ (by decide)]
  unfold mag32; rw [if_neg (by omega)]
theorem mag32_lo (b : Int) (h : bits .and .i64 (b / 8388608) 255 ≤ 0) : bits .and .i64 b 8388607 = mag32 b := by
  rw [fld32_eq] at h
  rw [frc32_eq]
  unfold mag32; rw [if_pos (by omega)]
theorem exp32_hi (b : Int) (h : 0 < bits .and .i64 (b / 8388608) 255) : -149 + (bits .and .i64 (b / 8388608) 255 - 1) = exp32 b := by
  rw [fld32_eq] at h ⊢
  unfold exp32; rw [if_neg (by omega)]; omega
theorem exp32_lo (b : Int) (h : bits .and .i64 (b / 8388608) 255 ≤ 0) : -149 = exp32 b := by
  rw [fld32_eq] at h
  unfold exp32; rw [if_pos (by omega)]
end Flt

set_option maxRecDepth 100000 in
set_option maxHeartbeats 1000000 in
theorem parts64_yes (b c : Int) (w : World) (hc : Hid (F.bits_Class.f 1 b 64 = some c)) (h2 : decide (2 < c) = false) (hb0 : Hid (Flt.I64 b)) :
    Calls Tryz.prog 4 #[.int .i64 b, .int .i64 64] w fun e w' => e = .returned (.tuple #[.bool (Flt.neg64 b), .int .i64 (Flt.mag64 b), .int .i64 (Flt.exp64 b), .bool true]) ∧ Below w.heap.size w w' := by
  obtain ⟨hm0, hm1⟩ := Flt.mask64_b (b / 4503599627370496)
  go_enter Tryz.func4, Tryz.ntmps4
  go_wp2_with (first | (go_at_call 28; (with_reducible refine (F.bits_of.calls 64 52 2047 (-1074) (-9223372036854775808) true _ rfl).mono ?_); rintro e w1 ⟨rfl, hb⟩) | (go_at_call 10; (with_reducible refine (F.bits_Class.calls 1 b 64 c _ hc.out).mono ?_); rintro e w2 ⟨rfl, hb2⟩; obtain ⟨hc2, hf2⟩ := bcell hb2))
  have hz0 := hc2 w1.heap.size 0 (by simp)
  have hz1 := hc2 w1.heap.size 1 (by simp)
  have hz2 := hc2 w1.heap.size 2 (by simp)
  have hz3 := hc2 w1.heap.size 3 (by simp)
  go_quiet (fail)
  go_wp2_with fail
  all_goals
    go_quiet (fail)
    go_wp2_with fail
    refine bodyPost_ret (results_tmp4 (t := 4) (u := 5) (v := 6) (x := 7) rfl _ _ _) rfl ⟨ret_parts ?_ ?_ ?_, ?_⟩
  · exact Flt.sign64_b b hb0.out
  · exact Flt.mag64_hi b (by assumption)
  · exact Flt.exp64_hi b (by assumption)
  · exact below_drewN' (below_drewN' (below_two hb hb2) _) _
  · exact Flt.sign64_b b hb0.out
  · exact Flt.mag64_lo b (by assumption)
  · exact Flt.exp64_lo b (by assumption)
  · exact below_drewN' (below_drewN' (below_two hb hb2) _) _
set_option maxRecDepth 100000 in
set_option maxHeartbeats 1000000 in
theorem parts64_not (b c : Int) (w : World) (hc : Hid (F.bits_Class.f 1 b 64 = some c)) (h2 : decide (2 < c) = true) :
    Calls Tryz.prog 4 #[.int .i64 b, .int .i64 64] w fun e w' => e = .returned (.tuple #[.bool false, .int .i64 0, .int .i64 0, .bool false]) ∧ Below w.heap.size w w' := by
  go_enter Tryz.func4, Tryz.ntmps4
  go_wp2_with (first | (go_at_call 28; (with_reducible refine (F.bits_of.calls 64 52 2047 (-1074) (-9223372036854775808) true _ rfl).mono ?_); rintro e w1 ⟨rfl, hb⟩) | (go_at_call 10; (with_reducible refine (F.bits_Class.calls 1 b 64 c _ hc.out).mono ?_); rintro e w2 ⟨rfl, hb2⟩))
  refine bodyPost_ret (results_tmp4 (t := 4) (u := 5) (v := 6) (x := 7) rfl _ _ _) rfl ⟨rfl, ?_⟩
  exact below_two hb hb2

set_option maxRecDepth 100000 in
set_option maxHeartbeats 1000000 in
theorem parts32_yes (b c : Int) (w : World) (hc : Hid (F.bits_Class.f 1 b 32 = some c)) (h2 : decide (2 < c) = false) (hb0 : Hid (Flt.valid32 b = true)) :
    Calls Tryz.prog 4 #[.int .i64 b, .int .i64 32] w fun e w' => e = .returned (.tuple #[.bool (Flt.neg32 b), .int .i64 (Flt.mag32 b), .int .i64 (Flt.exp32 b), .bool true]) ∧ Below w.heap.size w w' := by
  obtain ⟨hm0, hm1⟩ := Flt.mask32_b (b / 8388608)
  go_enter Tryz.func4, Tryz.ntmps4
  go_wp2_with (first | (go_at_call 28; (with_reducible refine (F.bits_of.calls 32 23 255 (-149) 2147483648 true _ rfl).mono ?_); rintro e w1 ⟨rfl, hb⟩) | (go_at_call 10; (with_reducible refine (F.bits_Class.calls 1 b 32 c _ hc.out).mono ?_); rintro e w2 ⟨rfl, hb2⟩; obtain ⟨hc2, hf2⟩ := bcell hb2))
  have hz0 := hc2 w1.heap.size 0 (by simp)
  have hz1 := hc2 w1.heap.size 1 (by simp)
  have hz2 := hc2 w1.heap.size 2 (by simp)
  have hz3 := hc2 w1.heap.size 3 (by simp)
  go_quiet (fail)
  go_wp2_with fail
  all_goals
    go_quiet (fail)
    go_wp2_with fail
    refine bodyPost_ret (results_tmp4 (t := 4) (u := 5) (v := 6) (x := 7) rfl _ _ _) rfl ⟨ret_parts ?_ ?_ ?_, ?_⟩
  · exact Flt.sign32_b b hb0.out
  · exact Flt.mag32_hi b (by assumption)
  · exact Flt.exp32_hi b (by assumption)
  · exact below_drewN' (below_drewN' (below_two hb hb2) _) _
  · exact Flt.sign32_b b hb0.out
  · exact Flt.mag32_lo b (by assumption)
  · exact Flt.exp32_lo b (by assumption)
  · exact below_drewN' (below_drewN' (below_two hb hb2) _) _
set_option maxRecDepth 100000 in
set_option maxHeartbeats 1000000 in
theorem parts32_not (b c : Int) (w : World) (hc : Hid (F.bits_Class.f 1 b 32 = some c)) (h2 : decide (2 < c) = true) :
    Calls Tryz.prog 4 #[.int .i64 b, .int .i64 32] w fun e w' => e = .returned (.tuple #[.bool false, .int .i64 0, .int .i64 0, .bool false]) ∧ Below w.heap.size w w' := by
  go_enter Tryz.func4, Tryz.ntmps4
  go_wp2_with (first | (go_at_call 28; (with_reducible refine (F.bits_of.calls 32 23 255 (-149) 2147483648 true _ rfl).mono ?_); rintro e w1 ⟨rfl, hb⟩) | (go_at_call 10; (with_reducible refine (F.bits_Class.calls 1 b 32 c _ hc.out).mono ?_); rintro e w2 ⟨rfl, hb2⟩))
  refine bodyPost_ret (results_tmp4 (t := 4) (u := 5) (v := 6) (x := 7) rfl _ _ _) rfl ⟨rfl, ?_⟩
  exact below_two hb hb2

set_option maxRecDepth 100000 in
set_option maxHeartbeats 1000000 in
theorem parts_no (b v : Int) (w : World) (hf : Hid (F.bits_of.f v = some (0, 0, 0, 0, false))) :
    Calls Tryz.prog 4 #[.int .i64 b, .int .i64 v] w fun e w' => e = .returned (.tuple #[.bool false, .int .i64 0, .int .i64 0, .bool false]) ∧ Below w.heap.size w w' := by
  go_enter Tryz.func4, Tryz.ntmps4
  go_wp2_with (first | (go_at_call 28; (with_reducible refine (F.bits_of.calls v 0 0 0 0 false _ hf.out).mono ?_); rintro e w1 ⟨rfl, hb⟩))
  refine bodyPost_ret (results_tmp4 (t := 4) (u := 5) (v := 6) (x := 7) rfl _ _ _) rfl ⟨rfl, ?_⟩
  exact hb.alloc hb.size _

namespace Flt
/-- a finite pattern of a width -/
def fin (b w : Int) : Bool := (decide (w = 64) || decide (w = 32)) && decide (cls b w ≤ 2)
def neg (b w : Int) : Bool := if w = 64 then neg64 b else neg32 b
def mag (b w : Int) : Int := if w = 64 then mag64 b else mag32 b
def exp (b w : Int) : Int := if w = 64 then exp64 b else exp32 b
def pneg (b w : Int) : Bool := fin b w && neg b w
def pmag (b w : Int) : Int := if fin b w = true then mag b w else 0
def pexp (b w : Int) : Int := if fin b w = true then exp b w else 0
end Flt
def partsV (b v : Int) : Value := .tuple #[.bool (Flt.pneg b v), .int .i64 (Flt.pmag b v), .int .i64 (Flt.pexp b v), .bool (Flt.fin b v)]
theorem of_no (v : Int) (h : ¬ v = 64) (h2 : ¬ v = 32) : F.bits_of.f v = some (0, 0, 0, 0, false) := by
  unfold F.bits_of.f; rw [if_neg h, if_neg h2]
theorem parts_any (b v : Int) (hb : Flt.I64 b) : Tells 4 #[.int .i64 b, .int .i64 v] (partsV b v) := by
  intro w
  unfold partsV Flt.pneg Flt.pmag Flt.pexp Flt.fin Flt.neg Flt.mag Flt.exp Flt.cls
  by_cases h : v = 64
  · subst h
    simp only [decide_true, Bool.true_or, Bool.true_and, if_true]
    by_cases c : Flt.cls64 b ≤ 2
    · simp only [c, decide_true, Bool.true_and, if_true]
      exact parts64_yes b _ w (Lib.hid (cls_f64 b)) (by simpa using c) (Lib.hid hb)
    · simp only [c, decide_false, Bool.false_and, if_false, Bool.false_eq_true]
      exact parts64_not b _ w (Lib.hid (cls_f64 b)) (by simp; omega)
  · by_cases h2 : v = 32
    · subst h2
      simp only [show ¬ (32 : Int) = 64 by decide, decide_false, decide_true, Bool.false_or, Bool.true_and, if_true, if_false]
      by_cases c : Flt.cls32 b ≤ 2
      · simp only [c, decide_true, Bool.true_and, if_true]
        exact parts32_yes b _ w (Lib.hid (cls_f32 b)) (by simpa using c) (Lib.hid (Flt.valid_of_cls (by omega)))
      · simp only [c, decide_false, Bool.false_and, if_false, Bool.false_eq_true]
        exact parts32_not b _ w (Lib.hid (cls_f32 b)) (by simp; omega)
    · simp only [h, h2, decide_false, Bool.or_self, Bool.false_and, if_false, Bool.false_eq_true]
      exact parts_no b v w (Lib.hid (of_no v h h2))
end Go.Proofs.YtpdodboldicibaaGreatFmt

namespace Go.Proofs.YtpdodboldicibaaGreatFmt
open Go.RowKit

theorem below_on {w w1 w2 : World} (h : Below w.heap.size w w1) (h2 : Below w1.heap.size w1 w2) : Below w.heap.size w w2 := h.trans (h2.mono h.size)
theorem alive_parts : Tells 4 #[.int .i64 4607182418800017408, .int .i64 64] (.tuple #[.bool false, .int .i64 4503599627370496, .int .i64 (-52), .bool true]) :=
  parts_any 4607182418800017408 64 ⟨by decide, by decide⟩
theorem alive_class64 : Tells 10 #[.int .i64 4607182418800017408, .int .i64 64] (.int .i64 2) := class_any 4607182418800017408 64
theorem alive_class32 : Tells 10 #[.int .i64 1065353216, .int .i64 32] (.int .i64 2) := class_any 1065353216 32
theorem alive_next : Tells 11 #[.int .i64 4607182418800017408, .int .i64 64] (.int .i64 4607182418800017409) := next_any 4607182418800017408 64 ⟨by decide, by decide⟩

set_option maxRecDepth 100000 in
set_option maxHeartbeats 1000000 in
theorem alive_any : Tells 27 #[] (.bool true) := by
  intro w
  have HB : Below w.heap.size w w := Below.refl _ _
  go_enter Tryz.func27, Tryz.ntmps27
  go_wp2_with fail
  refine (alive_parts _).mono ?_
  rintro e w1 ⟨rfl, hb⟩
  have n0 := below_on HB hb
  clear HB hb
  have HB := n0
  clear n0
  go_wp2_with fail
  refine (alive_class64 _).mono ?_
  rintro e w1 ⟨rfl, hb⟩
  have n0 := below_on HB hb
  clear HB hb
  have HB := n0
  clear n0
  go_wp2_with fail
  refine (alive_class32 _).mono ?_
  rintro e w1 ⟨rfl, hb⟩
  have n0 := below_on HB hb
  clear HB hb
  have HB := n0
  clear n0
  go_wp2_with fail
  refine (alive_next _).mono ?_
  rintro e w1 ⟨rfl, hb⟩
  have n0 := below_on HB hb
  clear HB hb
  have HB := n0
  clear n0
  go_wp2_with fail
  refine (add_one64 _).mono ?_
  rintro e w1 ⟨rfl, hb⟩
  have n0 := below_on HB hb
  clear HB hb
  have HB := n0
  clear n0
  go_wp2_with fail
  refine (add_one32 _).mono ?_
  rintro e w1 ⟨rfl, hb⟩
  have n0 := below_on HB hb
  clear HB hb
  have HB := n0
  clear n0
  go_wp2_with fail
  go_ret
  exact ⟨rfl, HB⟩
end Go.Proofs.YtpdodboldicibaaGreatFmt
