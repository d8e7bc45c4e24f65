/- BitsFloats' own walk. -/
import Derived.Test.YtjogbiopbobifaaLParts
namespace Go.Proofs.Ytjogbiopbobifaa
open Go.RowKit

theorem rnan_f (b v : Int) (hb : Flt.I64 b) : F.pupilref1_NaN.f 1 b v = some (Flt.cls b v == 4) := by
  unfold F.pupilref1_NaN.f
  rw [rclass_f 0 b v hb]; rfl
theorem rnan_any (b v : Int) (hb : Flt.I64 b) (r : Bool) (hr : (Flt.cls b v == 4) = r) : Tells 18 #[.int .i64 b, .int .i64 v] (.bool r) :=
  fun w => F.pupilref1_NaN.calls 1 b v _ w (by rw [← hr]; exact rnan_f b v hb)

theorem told64_cls (b : Int) (hb : Flt.I64 b) : told64 (Flt.w64 b) = if Flt.cls b 64 = 4 then 9221120237041090561 else b := by
  by_cases c : Flt.cls64 b = 4
  · have e : Flt.cls b 64 = 4 := c
    rw [if_pos e]
    exact told64_nan (by rw [Flt.w64_nan b hb]; exact decide_eq_true c)
  · have e : ¬ Flt.cls b 64 = 4 := c
    rw [if_neg e]
    exact told64_w64 b hb c
theorem told32_cls (b : Int) : told32 (Flt.w32 b) = if Flt.cls b 32 = 4 then 2143289345 else b := by
  by_cases c : Flt.cls32 b = 4
  · have e : Flt.cls b 32 = 4 := c
    rw [if_pos e]
    exact told32_nan (by rw [Flt.w32_nan b]; exact decide_eq_true c)
  · have e : ¬ Flt.cls b 32 = 4 := c
    rw [if_neg e]
    exact told32_w32 b c

section
variable (b x y : Int) (m n : Nat) (p q : Bool)
set_option maxRecDepth 100000 in
set_option maxHeartbeats 1000000 in
theorem floats_of (t : Int) (u : Int) (h1 : Hid (∀ w, Calls Try.prog 16 #[.int .i64 b] w fun e w' => e = .returned (.float .f64 m) ∧ w = w'))
    (h2 : Hid (∀ w, Calls Try.prog 17 #[.int .i64 b] w fun e w' => e = .returned (.float .f32 n) ∧ w = w'))
    (h3 : Hid (∀ w, Calls Try.prog 19 #[.float .f64 m] w fun e w' => e = .returned (.int .i64 t) ∧ w = w'))
    (h4 : Hid (∀ w, Calls Try.prog 20 #[.float .f32 n] w fun e w' => e = .returned (.int .i64 u) ∧ w = w'))
    (h5 : Hid (Tells 18 #[.int .i64 b, .int .i64 64] (.bool p))) (h6 : Hid (Tells 18 #[.int .i64 b, .int .i64 32] (.bool q)))
    (ht : Hid (t = if p = true then 9221120237041090561 else b)) (hu : Hid (u = if q = true then 2143289345 else b))
    (hm : Hid ((FloatKind.f64.format.order m m != some .eq) = p)) (hn : Hid ((FloatKind.f32.format.order n n != some .eq) = q)) :
    Tells 4 #[.int .i64 b] (.bool true) := by
  intro w
  have HB : Below w.heap.size w w := Below.refl _ _
  have ht' := ht.out
  have hu' := hu.out
  clear ht hu
  cases p <;> cases q
  all_goals
    simp only [Bool.false_eq_true, if_false, if_true] at ht' hu'
    subst ht' hu'
    go_enter Try.func4, Try.ntmps4
    go_wp2_with fail
    refine (h1.out _).mono ?_
    rintro e w1 ⟨rfl, rfl⟩
    go_wp2_with fail
    refine (h2.out _).mono ?_
    rintro e w1 ⟨rfl, rfl⟩
    go_wp2_with fail
    refine (h5.out _).mono ?_
    rintro e w1 ⟨rfl, hb1⟩
    replace HB := below_on HB hb1
    clear hb1
    go_wp2_with fail
    refine (h6.out _).mono ?_
    rintro e w1 ⟨rfl, hb1⟩
    replace HB := below_on HB hb1
    clear hb1
    go_wp2_with fail
    refine (alive_any _).mono ?_
    rintro e w1 ⟨rfl, hb1⟩
    replace HB := below_on HB hb1
    clear hb1
    go_wp2_with fail
    refine (h3.out _).mono ?_
    rintro e w1 ⟨rfl, rfl⟩
    go_wp2_with fail
    refine (h4.out _).mono ?_
    rintro e w1 ⟨rfl, rfl⟩
    have hm' := hm.out
    go_wp2_with fail
    clear hm'
    refine (h5.out _).mono ?_
    rintro e w1 ⟨rfl, hb1⟩
    replace HB := below_on HB hb1
    clear hb1
    have hn' := hn.out
    go_wp2_with fail
    clear hn'
    refine (h6.out _).mono ?_
    rintro e w1 ⟨rfl, hb1⟩
    replace HB := below_on HB hb1
    clear hb1
    go_wp2_with fail
    go_ret
    exact ⟨rfl, HB⟩
end
theorem bitsFloats_walk (b : Int) (hb : Flt.I64 b) : Tells 4 #[.int .i64 b] (.bool true) := by
  have o1 := Flt.order_self Ieee.double Flt.ok_double (Flt.w64 b)
  have o2 := Flt.order_self Ieee.single Flt.ok_single (Flt.w32 b)
  rw [Flt.w64_nan b hb] at o1
  rw [Flt.w32_nan b] at o2
  refine floats_of b (Flt.w64 b) (Flt.w32 b) (Flt.cls b 64 == 4) (Flt.cls b 32 == 4) (told64 (Flt.w64 b)) (told32 (Flt.w32 b)) (Lib.hid (float_w64 b)) (Lib.hid (float32_any b)) (Lib.hid fun w => of_any _ w (w64_lt b)) (Lib.hid fun w => of32_any _ w (Flt.w32_lt b))
    (Lib.hid (rnan_any b 64 hb _ rfl)) (Lib.hid (rnan_any b 32 hb _ rfl)) (Lib.hid ?_) (Lib.hid ?_) (Lib.hid ?_) (Lib.hid ?_)
  · rw [told64_cls b hb]; simp only [beq_iff_eq]
  · rw [told32_cls b]; simp only [beq_iff_eq]
  · exact o1.trans (by rw [Bool.eq_iff_iff, beq_iff_eq, decide_eq_true_iff]; rfl)
  · exact o2.trans (by rw [Bool.eq_iff_iff, beq_iff_eq, decide_eq_true_iff]; rfl)
end Go.Proofs.Ytjogbiopbobifaa
