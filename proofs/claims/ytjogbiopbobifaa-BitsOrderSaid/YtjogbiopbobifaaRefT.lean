/- The document's own answers of chapter 1: neighbours, sign, the one pattern of a value. -/
import Derived.Test.YtjogbiopbobifaaRefA
import Derived.Test.YtjogbiopbobifaaSpecB
import Derived.Test.YtjogbiopbobifaaFPupilref1Next
import Derived.Test.YtjogbiopbobifaaFPupilref1Neg
import Derived.Test.YtjogbiopbobifaaFPupilref1Prev
import Derived.Test.YtjogbiopbobifaaFPupilref1Abs
import Derived.Test.YtjogbiopbobifaaFPupilref1Canon
namespace Go.Proofs.Ytjogbiopbobifaa
open Go.RowKit Go.Proofs.YtjogbiopbobifaaW.PrintWords

theorem rnegative64 (k : Nat) (b : Int) (hb : Flt.I64 b) : F.pupilref1_Kind_negative.f k 64 53 4503599627370496 2047 (-1074) 1024 9218868437227405312 (-9223372036854775808) 9221120237041090561 b = some (decide (b < 0)) := by
  unfold F.pupilref1_Kind_negative.f
  rw [cut64 k b hb]; rfl
theorem rnegative32 (k : Nat) (b : Int) (hv : Flt.valid32 b = true) : F.pupilref1_Kind_negative.f (k + 1) 32 24 8388608 255 (-149) 128 2139095040 2147483648 2143289345 b = some (Flt.neg32 b) := by
  unfold F.pupilref1_Kind_negative.f
  rw [cut32 k b, if_pos hv]; rfl

theorem rnext_f (b v : Int) (hb : Flt.I64 b) : F.pupilref1_Next.f 1 b v = some (Flt.nxt b v) := by
  unfold F.pupilref1_Next.f Flt.nxt
  by_cases h : v = 64
  · subst h
    unfold F.pupilref1_Of.f
    simp only [if_true, Option.bind_some, rclass_f64 0 b hb, rnegative64 _ b hb]
    unfold Flt.nxt64
    by_cases c : Flt.cls64 b = 4
    · simp only [c, if_true]; rfl
    · simp only [c, if_false]
      by_cases ci : b = Flt.inf64
      · have ci' : b = 9218868437227405312 := ci
        rw [if_pos ci', if_pos ci]
      · have ci' : ¬ b = 9218868437227405312 := ci
        rw [if_neg ci', if_neg ci]
        by_cases c0 : Flt.cls64 b = 0
        · rw [if_pos c0, if_pos c0]
        · rw [if_neg c0, if_neg c0]
          have hr := Flt.nxt64_range hb c ci c0
          obtain ⟨⟨r0, r1⟩, r2, r3⟩ := hr
          by_cases n : b < 0
          · rw [if_pos n]
            have : wrap64 (b - 1) = b - 1 := by unfold wrap64; omega
            simp [n, this]
          · rw [if_neg n]
            have : wrap64 (b + 1) = b + 1 := by unfold wrap64; omega
            simp [n, this]
  · by_cases h2 : v = 32
    · subst h2
      unfold F.pupilref1_Of.f
      simp only [if_true, show ¬ (32 : Int) = 64 by decide, if_false, Option.bind_some, rclass_f32 0 b]
      unfold Flt.nxt32
      by_cases c : Flt.cls32 b = 4
      · simp only [c, if_true]; rfl
      · have hv := Flt.valid_of_cls c
        have hvb := Flt.valid_bounds hv
        simp only [c, if_false, rnegative32 0 b hv]
        by_cases ci : b = Flt.inf32
        · have ci' : b = 2139095040 := ci
          rw [if_pos ci', if_pos ci]
        · have ci' : ¬ b = 2139095040 := ci
          rw [if_neg ci', if_neg ci]
          by_cases c0 : Flt.cls32 b = 0
          · rw [if_pos c0, if_pos c0]
          · rw [if_neg c0, if_neg c0]
            unfold Flt.neg32
            have e1 : wrap64 (b - 1) = b - 1 := by unfold wrap64; omega
            have e2 : wrap64 (b + 1) = b + 1 := by unfold wrap64; omega
            by_cases n : 2147483648 ≤ b
            · rw [if_pos n]; simp [n, e1]
            · rw [if_neg n]; simp [n, e2]
    · rw [rof_no v h h2, if_neg h, if_neg h2]; rfl
theorem rneg_f (b v : Int) (hb : Flt.I64 b) : F.pupilref1_Neg.f 1 b v = some (Flt.nneg b v) := by
  have hb' := hb
  obtain ⟨l0, l1⟩ := hb'
  unfold F.pupilref1_Neg.f Flt.nneg
  by_cases h : v = 64
  · subst h
    unfold F.pupilref1_Of.f
    simp only [if_true, Option.bind_some, rclass_f64 0 b hb, rnegative64 _ b hb]
    unfold Flt.nneg64
    by_cases c : Flt.cls64 b = 4
    · simp only [c, if_true]; rfl
    · simp only [c, if_false]
      by_cases n : b < 0
      · have : wrap64 (b + 9223372036854775808) = b + 9223372036854775808 := by unfold wrap64; omega
        simp [n, this]
      · have : wrap64 (b + -9223372036854775808) = b - 9223372036854775808 := by unfold wrap64; omega
        simp [n, this]
  · by_cases h2 : v = 32
    · subst h2
      unfold F.pupilref1_Of.f
      simp only [if_true, show ¬ (32 : Int) = 64 by decide, if_false, Option.bind_some, rclass_f32 0 b]
      unfold Flt.nneg32
      by_cases c : Flt.cls32 b = 4
      · simp only [c, if_true]; rfl
      · have hv := Flt.valid_of_cls c
        have hvb := Flt.valid_bounds hv
        simp only [c, if_false, rnegative32 0 b hv]
        unfold Flt.neg32
        by_cases n : 2147483648 ≤ b
        · have : wrap64 (b - 2147483648) = b - 2147483648 := by unfold wrap64; omega
          simp [n, this]
        · have : wrap64 (b + 2147483648) = b + 2147483648 := by unfold wrap64; omega
          simp [n, this]
    · rw [rof_no v h h2, if_neg h, if_neg h2]; rfl
theorem rabs_f (b v : Int) (hb : Flt.I64 b) : F.pupilref1_Abs.f 1 b v = some (Flt.nabs b v) := by
  have hb' := hb
  obtain ⟨l0, l1⟩ := hb'
  unfold F.pupilref1_Abs.f Flt.nabs
  by_cases h : v = 64
  · subst h
    unfold F.pupilref1_Of.f
    simp only [if_true, Option.bind_some, rclass_f64 0 b hb, rnegative64 _ b hb]
    unfold Flt.nabs64
    by_cases c : Flt.cls64 b = 4
    · simp only [c, if_true]; rfl
    · simp only [c, if_false]
      by_cases n : b < 0
      · have : wrap64 (b + 9223372036854775808) = b + 9223372036854775808 := by unfold wrap64; omega
        simp [n, this]
      · simp [n]
  · by_cases h2 : v = 32
    · subst h2
      unfold F.pupilref1_Of.f
      simp only [if_true, show ¬ (32 : Int) = 64 by decide, if_false, Option.bind_some, rclass_f32 0 b]
      unfold Flt.nabs32
      by_cases c : Flt.cls32 b = 4
      · simp only [c, if_true]; rfl
      · have hv := Flt.valid_of_cls c
        have hvb := Flt.valid_bounds hv
        simp only [c, if_false, rnegative32 0 b hv]
        unfold Flt.neg32
        by_cases n : 2147483648 ≤ b
        · have : wrap64 (b - 2147483648) = b - 2147483648 := by unfold wrap64; omega
          simp [n, this]
        · simp [n]
    · rw [rof_no v h h2, if_neg h, if_neg h2]; rfl
theorem rcanon_f (k : Nat) (b v : Int) (hb : Flt.I64 b) : F.pupilref1_Canon.f (k + 2) b v = some (Flt.ncan b v) := by
  unfold F.pupilref1_Canon.f Flt.ncan
  by_cases h : v = 64
  · subst h
    unfold F.pupilref1_Of.f
    simp only [if_true, Option.bind_some, rclass_f64 _ b hb, F.pupilref1_Canon.j0]
    unfold Flt.ncan64
    by_cases c0 : Flt.cls64 b = 0
    · simp [c0]
    · by_cases c : Flt.cls64 b = 4
      · simp only [c]; rfl
      · simp [c, c0]
  · by_cases h2 : v = 32
    · subst h2
      unfold F.pupilref1_Of.f
      simp only [if_true, show ¬ (32 : Int) = 64 by decide, if_false, Option.bind_some, rclass_f32 _ b, F.pupilref1_Canon.j0]
      unfold Flt.ncan32
      by_cases c0 : Flt.cls32 b = 0
      · simp [c0]
      · by_cases c : Flt.cls32 b = 4
        · simp only [c]; rfl
        · simp [c, c0]
    · rw [rof_no v h h2, if_neg h, if_neg h2]; rfl
theorem rprev_f (b v : Int) (hb : Flt.I64 b) : F.pupilref1_Prev.f 1 b v = some (Flt.nprev b v) := by
  unfold F.pupilref1_Prev.f
  rw [rneg_f b v hb, Option.bind_some, rnext_f _ v (Flt.I64_nneg b v hb), Option.bind_some, rneg_f _ v (Flt.I64_nxt _ v (Flt.I64_nneg b v hb)), Option.bind_some]; rfl
section
variable (b v : Int) (hb : Flt.I64 b)
include hb
theorem rnext_any : Tells 54 #[.int .i64 b, .int .i64 v] (.int .i64 (Flt.nxt b v)) := fun w => F.pupilref1_Next.calls 1 b v _ w (rnext_f b v hb)
theorem rprev_any : Tells 55 #[.int .i64 b, .int .i64 v] (.int .i64 (Flt.nprev b v)) := fun w => F.pupilref1_Prev.calls 1 b v _ w (rprev_f b v hb)
theorem rneg_any : Tells 56 #[.int .i64 b, .int .i64 v] (.int .i64 (Flt.nneg b v)) := fun w => F.pupilref1_Neg.calls 1 b v _ w (rneg_f b v hb)
theorem rabs_any : Tells 58 #[.int .i64 b, .int .i64 v] (.int .i64 (Flt.nabs b v)) := fun w => F.pupilref1_Abs.calls 1 b v _ w (rabs_f b v hb)
theorem rcanon_any : Tells 60 #[.int .i64 b, .int .i64 v] (.int .i64 (Flt.ncan b v)) := fun w => F.pupilref1_Canon.calls 2 b v _ w (rcanon_f 0 b v hb)
end
end Go.Proofs.Ytjogbiopbobifaa
