/- The document's own answers of chapter 1, as the printed functions tell them: class, parts, validity. -/
import Derived.Test.YtjogbiopbobifaaA10
import Derived.Test.YtjogbiopbobifaaFPupilref1Parts
import Derived.Test.YtjogbiopbobifaaFPupilref1Valid
import Derived.Test.YtjogbiopbobifaaFPupilref1Nan
namespace Go.Proofs.Ytjogbiopbobifaa
open Go.RowKit Go.Proofs.YtjogbiopbobifaaW.PrintWords

theorem cut64 (k : Nat) (b : Int) (hb : Flt.I64 b) : F.pupilref1_Kind_cut.f k 64 53 4503599627370496 2047 (-1074) 1024 9218868437227405312 (-9223372036854775808) 9221120237041090561 b = some (decide (b < 0), b / 4503599627370496 % 2048, b % 4503599627370496, true) := by
  obtain ⟨h0, h1⟩ := hb
  unfold F.pupilref1_Kind_cut.f
  rw [if_neg (by decide)]
  by_cases c : b < 0
  · rw [if_pos c, if_neg (by decide)]
    have e : wrap64 (b - -9223372036854775808) = b + 9223372036854775808 := by unfold wrap64; omega
    rw [e, Int.tdiv_eq_ediv_of_nonneg (by omega), Int.tmod_eq_emod_of_nonneg (by omega)]
    have e2 : wrap64 ((b + 9223372036854775808) / 4503599627370496) = b / 4503599627370496 % 2048 := by unfold wrap64; omega
    have e3 : (b + 9223372036854775808) % 4503599627370496 = b % 4503599627370496 := by omega
    rw [e2, e3]
  · rw [if_neg c, if_neg (by decide)]
    rw [Int.tdiv_eq_ediv_of_nonneg (by omega), Int.tmod_eq_emod_of_nonneg (by omega)]
    have e2 : wrap64 (b / 4503599627370496) = b / 4503599627370496 % 2048 := by unfold wrap64; omega
    rw [e2]
theorem cut32 (k : Nat) (b : Int) : F.pupilref1_Kind_cut.f (k + 1) 32 24 8388608 255 (-149) 128 2139095040 2147483648 2143289345 b = some (if Flt.valid32 b = true then (Flt.neg32 b, b / 8388608 % 256, b % 8388608, true) else (false, 0, 0, false)) := by
  unfold F.pupilref1_Kind_cut.f Flt.valid32
  rw [if_pos rfl]
  by_cases c : b < 0
  · rw [if_pos c, decide_eq_false (show ¬ 0 ≤ b by omega)]; rfl
  · rw [if_neg c, decide_eq_true (show 0 ≤ b by omega)]
    by_cases c2 : b < 4294967296
    · rw [decide_eq_true c2, decide_eq_false (show ¬ b ≥ 4294967296 by omega)]
      simp only [F.pupilref1_Kind_cut.j0, Bool.false_eq_true, if_false, Bool.and_self, if_true]
      rw [if_neg (by decide), if_neg (by decide), Int.tmod_eq_emod_of_nonneg (by omega), Int.tmod_eq_emod_of_nonneg (by omega), Int.tdiv_eq_ediv_of_nonneg (by omega)]
      have e : wrap64 (b % 2147483648 / 8388608) = b / 8388608 % 256 := by unfold wrap64; omega
      rw [e]; rfl
    · rw [decide_eq_false c2, decide_eq_true (show b ≥ 4294967296 by omega)]; rfl

theorem rclass_f64 (k : Nat) (b : Int) (hb : Flt.I64 b) : F.pupilref1_Class.f (k + 1) b 64 = some (Flt.cls64 b) := by
  unfold F.pupilref1_Class.f F.pupilref1_Of.f
  simp only [if_true, Option.bind_some, cut64 _ b hb, F.pupilref1_Class.j0]
  unfold Flt.cls64
  by_cases c : b / 4503599627370496 % 2048 = 2047
  · by_cases c2 : b % 4503599627370496 = 0
    · simp [c, c2]
    · have : 0 < b % 4503599627370496 := by omega
      simp [c, c2, this]
  · by_cases c3 : b / 4503599627370496 % 2048 = 0
    · by_cases c2 : b % 4503599627370496 = 0
      · simp [c2, c3]
      · have : 0 < b % 4503599627370496 := by omega
        simp [c2, c3, this]
    · have : 0 < b / 4503599627370496 % 2048 := by omega
      simp [c, c3, this]
theorem rclass_f32 (k : Nat) (b : Int) : F.pupilref1_Class.f (k + 1) b 32 = some (Flt.cls32 b) := by
  unfold F.pupilref1_Class.f F.pupilref1_Of.f
  simp only [if_true, show ¬ (32 : Int) = 64 by decide, if_false, Option.bind_some, cut32, F.pupilref1_Class.j0]
  unfold Flt.cls32
  cases Flt.valid32 b
  · simp
  · simp only [if_true]
    by_cases c : b / 8388608 % 256 = 255
    · by_cases c2 : b % 8388608 = 0
      · simp [c, c2]
      · have : 0 < b % 8388608 := by omega
        simp [c, c2, this]
    · by_cases c3 : b / 8388608 % 256 = 0
      · by_cases c2 : b % 8388608 = 0
        · simp [c2, c3]
        · have : 0 < b % 8388608 := by omega
          simp [c2, c3, this]
      · have : 0 < b / 8388608 % 256 := by omega
        simp [c, c3, this]
theorem rof_no (v : Int) (h : ¬ v = 64) (h2 : ¬ v = 32) : F.pupilref1_Of.f v = some (0, 0, 0, 0, 0, 0, 0, 0, 0, false) := by
  unfold F.pupilref1_Of.f; rw [if_neg h, if_neg h2]
theorem rclass_f (k : Nat) (b v : Int) (hb : Flt.I64 b) : F.pupilref1_Class.f (k + 1) b v = some (Flt.cls b v) := by
  unfold Flt.cls
  by_cases h : v = 64
  · subst h; exact rclass_f64 k b hb
  · rw [if_neg h]
    by_cases h2 : v = 32
    · subst h2; exact rclass_f32 k b
    · rw [if_neg h2]
      unfold F.pupilref1_Class.f
      rw [rof_no v h h2]; rfl
theorem rclass_any (b v : Int) (hb : Flt.I64 b) : Tells 47 #[.int .i64 b, .int .i64 v] (.int .i64 (Flt.cls b v)) :=
  fun w => F.pupilref1_Class.calls 1 b v _ w (rclass_f 0 b v hb)

theorem rparts_f (b v : Int) (hb : Flt.I64 b) : F.pupilref1_Parts.f 2 b v = some (Flt.pneg b v, Flt.pmag b v, Flt.pexp b v, Flt.fin b v) := by
  unfold F.pupilref1_Parts.f
  unfold Flt.pneg Flt.pmag Flt.pexp Flt.fin Flt.neg Flt.mag Flt.exp
  by_cases h : v = 64
  · subst h
    unfold F.pupilref1_Of.f
    simp only [if_true, Option.bind_some, rclass_f 1 b 64 hb, F.pupilref1_Parts.j0, cut64 _ b hb]
    by_cases c : Flt.cls b 64 > 2
    · have c' : ¬ Flt.cls b 64 ≤ 2 := by omega
      simp [c, c']
    · have c' : Flt.cls b 64 ≤ 2 := by omega
      simp only [c, c', decide_false, decide_true, Bool.false_eq_true, if_false, Bool.true_or, Bool.true_and, if_true]
      unfold Flt.neg64 Flt.mag64 Flt.exp64
      by_cases z : b / 4503599627370496 % 2048 = 0
      · simp only [z, if_true]
      · simp only [z, if_false]
        congr 3
        · unfold wrap64; omega
        · congr 1; unfold wrap64; omega
  · by_cases h2 : v = 32
    · subst h2
      unfold F.pupilref1_Of.f
      simp only [if_true, show ¬ (32 : Int) = 64 by decide, if_false, Option.bind_some, rclass_f 1 b 32 hb, F.pupilref1_Parts.j0, cut32]
      by_cases c : Flt.cls b 32 > 2
      · have c' : ¬ Flt.cls b 32 ≤ 2 := by omega
        simp [c, c']
      · have c' : Flt.cls b 32 ≤ 2 := by omega
        have hv : Flt.valid32 b = true := Flt.valid_of_cls (by unfold Flt.cls at c'; rw [if_neg (by decide), if_pos rfl] at c'; omega)
        simp only [c, c', hv, decide_false, decide_true, Bool.false_eq_true, if_false, Bool.false_or, Bool.true_and, if_true]
        unfold Flt.mag32 Flt.exp32
        by_cases z : b / 8388608 % 256 = 0
        · simp only [z, if_true]
        · simp only [z, if_false]
          congr 3
          · unfold wrap64; omega
          · congr 1; unfold wrap64; omega
    · rw [rof_no v h h2]
      simp [F.pupilref1_Parts.j0, h, h2]
theorem rparts_any (b v : Int) (hb : Flt.I64 b) : Tells 46 #[.int .i64 b, .int .i64 v] (partsV b v) :=
  fun w => F.pupilref1_Parts.calls 2 b v _ _ _ _ w (rparts_f b v hb)

def Flt.valid (b w : Int) : Bool := if w = 64 then true else if w = 32 then valid32 b else false
theorem rvalid_f (b v : Int) (hb : Flt.I64 b) : F.pupilref1_Valid.f 1 b v = some (Flt.valid b v) := by
  unfold F.pupilref1_Valid.f Flt.valid
  by_cases h : v = 64
  · subst h
    unfold F.pupilref1_Of.f
    simp only [if_true, Option.bind_some, cut64 _ b hb]
  · by_cases h2 : v = 32
    · subst h2
      unfold F.pupilref1_Of.f
      simp only [if_true, show ¬ (32 : Int) = 64 by decide, if_false, Option.bind_some, cut32]
      cases Flt.valid32 b <;> rfl
    · rw [rof_no v h h2, if_neg h, if_neg h2]; rfl
theorem rvalid_any (b v : Int) (hb : Flt.I64 b) : Tells 49 #[.int .i64 b, .int .i64 v] (.bool (Flt.valid b v)) :=
  fun w => F.pupilref1_Valid.calls 1 b v _ w (rvalid_f b v hb)
theorem valid_any (b v : Int) : Tells 48 #[.int .i64 b, .int .i64 v] (.bool (Flt.valid b v)) := by
  intro w
  have hf : F.bits_Valid.f b v = some (Flt.valid b v) := by
    unfold F.bits_Valid.f Flt.valid
    split
    · rfl
    · split
      · rw [valid32_b]
      · rfl
  refine (F.bits_Valid.calls b v _ w hf).mono ?_
  rintro e w' ⟨he, n, rfl⟩
  exact ⟨he, below_drewN' (Below.refl _ _) n⟩
end Go.Proofs.Ytjogbiopbobifaa
