/- The class of a pattern: what the printed function tells, as a plain function. -/
import Derived.Test.YtjogbiopbobifaaA8
import Derived.Test.YtjogbiopbobifaaP1
import Derived.Test.YtjogbiopbobifaaFBitsClass
namespace Go.Proofs.Ytjogbiopbobifaa
open Go.RowKit Go.Proofs.YtjogbiopbobifaaW.PrintWords

theorem Flt.fld64_eq (b : Int) : bits .and .i64 (b / 4503599627370496) 2047 = b / 4503599627370496 % 2048 := Flt.i64_and_mask _ 11 (by omega) 2047 (by decide)
theorem Flt.frc64_eq (b : Int) : bits .and .i64 b 4503599627370495 = b % 4503599627370496 := Flt.i64_and_mask _ 52 (by omega) 4503599627370495 (by decide)
theorem Flt.fld32_eq (b : Int) : bits .and .i64 (b / 8388608) 255 = b / 8388608 % 256 := Flt.i64_and_mask _ 8 (by omega) 255 (by decide)
theorem Flt.frc32_eq (b : Int) : bits .and .i64 b 8388607 = b % 8388608 := Flt.i64_and_mask _ 23 (by omega) 8388607 (by decide)

theorem shl52 : wrap64 (shl .i64 1 52 - 1) = 4503599627370495 := by kernel_rfl
theorem shl23 : wrap64 (shl .i64 1 23 - 1) = 8388607 := by kernel_rfl
theorem cls_f64 (b : Int) : F.bits_Class.f 1 b 64 = some (Flt.cls64 b) := by
  have e1 : shr .i64 b 52 = b / 4503599627370496 := rfl
  unfold F.bits_Class.f F.bits_of.f F.bits_Valid.f
  simp only [if_true, Option.bind_some, e1, shl52, Flt.fld64_eq, Flt.frc64_eq, F.bits_Class.j0]
  unfold Flt.cls64
  by_cases c : b / 4503599627370496 % 2048 = 2047
  · by_cases c2 : b % 4503599627370496 = 0 <;> simp [c, c2]
  · by_cases c3 : b / 4503599627370496 % 2048 = 0
    · by_cases c2 : b % 4503599627370496 = 0 <;> simp [c2, c3]
    · have : b / 4503599627370496 % 2048 > 0 := by omega
      simp [c, c3]
theorem cls_f32 (b : Int) : F.bits_Class.f 1 b 32 = some (Flt.cls32 b) := by
  have e1 : shr .i64 b 23 = b / 8388608 := rfl
  have hv : (b == b % 4294967296) = Flt.valid32 b := valid32_b b
  unfold F.bits_Class.f F.bits_of.f F.bits_Valid.f
  simp only [if_true, show ¬ (32 : Int) = 64 by decide, if_false, Option.bind_some, e1, shl23, Flt.fld32_eq, Flt.frc32_eq, F.bits_Class.j0, hv]
  unfold Flt.cls32
  cases Flt.valid32 b
  · simp
  · by_cases c : b / 8388608 % 256 = 255
    · by_cases c2 : b % 8388608 = 0 <;> simp [c, c2]
    · by_cases c3 : b / 8388608 % 256 = 0
      · by_cases c2 : b % 8388608 = 0 <;> simp [c2, c3]
      · simp [c, c3]
theorem cls_fno (b v : Int) (h64 : ¬ v = 64) (h32 : ¬ v = 32) : F.bits_Class.f 1 b v = some 0 := by
  unfold F.bits_Class.f F.bits_of.f
  rw [if_neg h64, if_neg h32]
  rfl
theorem cls_f (b v : Int) : F.bits_Class.f 1 b v = some (Flt.cls b v) := by
  unfold Flt.cls
  by_cases h : v = 64
  · subst h; exact cls_f64 b
  · rw [if_neg h]
    by_cases h2 : v = 32
    · subst h2; exact cls_f32 b
    · rw [if_neg h2]; exact cls_fno b v h h2
theorem class_any (b v : Int) : Tells 28 #[.int .i64 b, .int .i64 v] (.int .i64 (Flt.cls b v)) :=
  fun w => F.bits_Class.calls 1 b v _ w (cls_f b v)
end Go.Proofs.Ytjogbiopbobifaa
