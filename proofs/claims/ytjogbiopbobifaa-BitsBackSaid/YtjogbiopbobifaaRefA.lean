/- The document's own answers of chapter 1, as the printed functions tell them: class, parts, validity. -/
import Derived.Test.YtjogbiopbobifaaWalkB
import Derived.Test.YtjogbiopbobifaaFPupilref1Class
namespace Go.Proofs.Ytjogbiopbobifaa
open Go.RowKit Go.Proofs.YtjogbiopbobifaaW.PrintWords

theorem cut64 (k : Nat) (b : Int) (hb : Flt.I64 b) : F.pupilref1_Kind_cut.f k 64 53 4503599627370496 2047 (-1074) 1024 9218868437227405312 (-9223372036854775808) 9221120237041090561 b = some (decide (b < 0), b / 4503599627370496 % 2048, b % 4503599627370496, true) := by
  obtain ⟨h0, h1⟩ := hb
  unfold F.pupilref1_Kind_cut.f
  rw [if_neg (by decide)]
  by_cases c : b < 0
  · rw [if_pos c, if_neg (by decide)]
    have e : wrap64 (b - -9223372036854775808) = b + 9223372036854775808 := by unfold wrap64; omega
    rw [e, Int.tdiv_eq_ediv_of_nonneg (by omega), Int.tmod_eq_emod_of_nonneg (by omega)]
    have e2 : wrap64 ((b + 9223372036854775808) / 4503599627370496) = b / 4503599627370496 % 2048 := by unfold wrap64; omega
    have e3 : (b + 9223372036854775808) % 4503599627370496 = b % 4503599627370496 := by omega
    rw [e2, e3]
  · rw [if_neg c, if_neg (by decide)]
    rw [Int.tdiv_eq_ediv_of_nonneg (by omega), Int.tmod_eq_emod_of_nonneg (by omega)]
    have e2 : wrap64 (b / 4503599627370496) = b / 4503599627370496 % 2048 := by unfold wrap64; omega
    rw [e2]
theorem cut32 (k : Nat) (b : Int) : F.pupilref1_Kind_cut.f (k + 1) 32 24 8388608 255 (-149) 128 2139095040 2147483648 2143289345 b = some (if Flt.valid32 b = true then (Flt.neg32 b, b / 8388608 % 256, b % 8388608, true) else (false, 0, 0, false)) := by
  unfold F.pupilref1_Kind_cut.f Flt.valid32
  rw [if_pos rfl]
  by_cases c : b < 0
  · rw [if_pos c, decide_eq_false (show ¬ 0 ≤ b by omega)]; rfl
  · rw [if_neg c, decide_eq_true (show 0 ≤ b by omega)]
    by_cases c2 : b < 4294967296
    · rw [decide_eq_true c2, decide_eq_false (show ¬ b ≥ 4294967296 by omega)]
      simp only [F.pupilref1_Kind_cut.j0, Bool.false_eq_true, if_false, Bool.and_self, if_true]
      rw [if_neg (by decide), if_neg (by decide), Int.tmod_eq_emod_of_nonneg (by omega), Int.tmod_eq_emod_of_nonneg (by omega), Int.tdiv_eq_ediv_of_nonneg (by omega)]
      have e : wrap64 (b % 2147483648 / 8388608) = b / 8388608 % 256 := by unfold wrap64; omega
      rw [e]; rfl
    · rw [decide_eq_false c2, decide_eq_true (show b ≥ 4294967296 by omega)]; rfl

theorem rclass_f64 (k : Nat) (b : Int) (hb : Flt.I64 b) : F.pupilref1_Class.f (k + 1) b 64 = some (Flt.cls64 b) := by
  unfold F.pupilref1_Class.f F.pupilref1_Of.f
  simp only [if_true, Option.bind_some, cut64 _ b hb, F.pupilref1_Class.j0]
  unfold Flt.cls64
  by_cases c : b / 4503599627370496 % 2048 = 2047
  · by_cases c2 : b % 4503599627370496 = 0
    · simp [c, c2]
    · have : 0 < b % 4503599627370496 := by omega
      simp [c, c2, this]
  · by_cases c3 : b / 4503599627370496 % 2048 = 0
    · by_cases c2 : b % 4503599627370496 = 0
      · simp [c2, c3]
      · have : 0 < b % 4503599627370496 := by omega
        simp [c2, c3, this]
    · have : 0 < b / 4503599627370496 % 2048 := by omega
      simp [c, c3, this]
theorem rclass_f32 (k : Nat) (b : Int) : F.pupilref1_Class.f (k + 1) b 32 = some (Flt.cls32 b) := by
  unfold F.pupilref1_Class.f F.pupilref1_Of.f
  simp only [if_true, show ¬ (32 : Int) = 64 by decide, if_false, Option.bind_some, cut32, F.pupilref1_Class.j0]
  unfold Flt.cls32
  cases Flt.valid32 b
  · simp
  · simp only [if_true]
    by_cases c : b / 8388608 % 256 = 255
    · by_cases c2 : b % 8388608 = 0
      · simp [c, c2]
      · have : 0 < b % 8388608 := by omega
        simp [c, c2, this]
    · by_cases c3 : b / 8388608 % 256 = 0
      · by_cases c2 : b % 8388608 = 0
        · simp [c2, c3]
        · have : 0 < b % 8388608 := by omega
          simp [c2, c3, this]
      · have : 0 < b / 8388608 % 256 := by omega
        simp [c, c3, this]
theorem rof_no (v : Int) (h : ¬ v = 64) (h2 : ¬ v = 32) : F.pupilref1_Of.f v = some (0, 0, 0, 0, 0, 0, 0, 0, 0, false) := by
  unfold F.pupilref1_Of.f; rw [if_neg h, if_neg h2]
theorem rclass_f (k : Nat) (b v : Int) (hb : Flt.I64 b) : F.pupilref1_Class.f (k + 1) b v = some (Flt.cls b v) := by
  unfold Flt.cls
  by_cases h : v = 64
  · subst h; exact rclass_f64 k b hb
  · rw [if_neg h]
    by_cases h2 : v = 32
    · subst h2; exact rclass_f32 k b
    · rw [if_neg h2]
      unfold F.pupilref1_Class.f
      rw [rof_no v h h2]; rfl
theorem rclass_any (b v : Int) (hb : Flt.I64 b) : Tells 47 #[.int .i64 b, .int .i64 v] (.int .i64 (Flt.cls b v)) :=
  fun w => F.pupilref1_Class.calls 1 b v _ w (rclass_f 0 b v hb)

theorem i64_of_wf {b : Int} (h : (Lit.int .i64 b).wf = true) : Flt.I64 b := by
  have h' : -9223372036854775808 ≤ b ∧ b ≤ 9223372036854775807 := by simpa [Lit.wf, IntKind.min, IntKind.max, IntKind.signed, IntKind.bits] using h
  exact ⟨h'.1, by omega⟩
end Go.Proofs.Ytjogbiopbobifaa
