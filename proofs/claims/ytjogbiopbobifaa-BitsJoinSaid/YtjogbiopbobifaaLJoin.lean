/- BitsJoin's own walk. -/
import Derived.Test.YtjogbiopbobifaaJoinG
import Derived.Test.YtjogbiopbobifaaJoinR
namespace Go.Proofs.Ytjogbiopbobifaa
open Go.RowKit Go.Proofs.YtjogbiopbobifaaW.PrintWords

theorem clamp_ex (exp : Int) : ∃ E, Clamped exp E := by
  by_cases h : exp < -3000
  · exact ⟨-3000, .inl ⟨h, rfl⟩⟩
  · by_cases h2 : 3000 < exp
    · exact ⟨3000, .inr (.inl ⟨h2, rfl⟩)⟩
    · exact ⟨exp, .inr (.inr ⟨by omega, by omega, rfl⟩)⟩
theorem clamp_far {exp E : Int} (h : Clamped exp E) (hx : exp < -2000 ∨ 2000 < exp) : E ≤ -2000 ∨ 2000 ≤ E := by
  rcases h with ⟨_, rfl⟩ | ⟨_, rfl⟩ | ⟨_, _, rfl⟩ <;> omega
theorem clamp_near {exp E : Int} (h : Clamped exp E) (h0 : -2000 ≤ exp) (h1 : exp ≤ 2000) : E = exp := by
  rcases h with ⟨_, rfl⟩ | ⟨_, rfl⟩ | ⟨_, _, rfl⟩ <;> omega

theorem rjoin64_neg (neg : Bool) (mag exp : Int) (h : mag < 0) : F.pupilref1_Join.f 5000 neg mag exp 64 = some (0, false) := by
  unfold F.pupilref1_Join.f F.pupilref1_Of.f
  simp only [if_true, Option.bind_some]
  rw [if_pos h]
  simp only [F.pupilref1_Join.j0, if_true]
theorem rjoin64_far (neg : Bool) (mag exp : Int) (h : 0 < mag) (hx : exp < -2000 ∨ 2000 < exp) : F.pupilref1_Join.f 5000 neg mag exp 64 = some (0, false) := by
  unfold F.pupilref1_Join.f F.pupilref1_Of.f
  simp only [if_true, Option.bind_some]
  rw [if_neg (by omega)]
  by_cases c : exp > 2000
  · rw [if_pos c, if_pos (by omega)]
    simp only [F.pupilref1_Join.j0, if_true]
  · rw [if_neg c, if_pos (by omega), decide_eq_true (show mag > 0 from h)]
    simp only [F.pupilref1_Join.j0, if_true]
theorem rjoin64_zero (neg : Bool) (exp : Int) : F.pupilref1_Join.f 5000 neg 0 exp 64 = some (if neg = true then (-9223372036854775808) else 0, true) := by
  unfold F.pupilref1_Join.f F.pupilref1_Of.f
  simp only [if_true, Option.bind_some]
  rw [if_neg (by decide)]
  have hd : decide ((0 : Int) > 0) = false := by decide
  by_cases c : exp > 2000
  · rw [if_pos c, if_neg (by decide)]
    by_cases c2 : exp < -2000
    · omega
    · rw [if_neg c2]
      cases neg <;> simp [F.pupilref1_Join.j0, F.pupilref1_Join.j1]
  · rw [if_neg c]
    by_cases c2 : exp < -2000
    · rw [if_pos c2, hd]
      cases neg <;> simp [F.pupilref1_Join.j0, F.pupilref1_Join.j1]
    · rw [if_neg c2]
      cases neg <;> simp [F.pupilref1_Join.j0, F.pupilref1_Join.j1]
theorem both64 (neg : Bool) (mag exp : Int) (hm : Flt.I64 mag) : ∃ r ok, Tells 44 #[.bool neg, .int .i64 mag, .int .i64 exp, .int .i64 64] (joinV r ok) ∧ F.pupilref1_Join.f 5000 neg mag exp 64 = some (r, ok) := by
  obtain ⟨h0, h1⟩ := hm
  by_cases c : mag < 0
  · exact ⟨0, false, join64_neg neg mag exp c, rjoin64_neg neg mag exp c⟩
  · by_cases z : mag = 0
    · subst z
      refine ⟨if neg = true then (-9223372036854775808) else 0, true, ?_, rjoin64_zero neg exp⟩
      cases neg
      · exact join64_zero_false exp
      · exact join64_zero_true exp
    · have m0 : 0 < mag := by omega
      obtain ⟨E, hE⟩ := clamp_ex exp
      obtain ⟨e0, e1⟩ := clamp_range hE
      by_cases far : exp < -2000 ∨ 2000 < exp
      · refine ⟨0, false, join64_none neg mag exp E m0 h1 hE fun r hr => ?_, rjoin64_far neg mag exp m0 far⟩
        have := clamp_far hE far
        have := Flt.Rep.range hr (by omega) e0
        omega
      · have hEe := clamp_near hE (by omega) (by omega)
        subst hEe
        rcases rjoin64_pos neg mag E m0 h1 (by omega) (by omega) with ⟨r, hr, hf⟩ | ⟨hr, hf⟩
        · exact ⟨_, true, join64_some neg mag E E m0 h1 hE r hr, hf⟩
        · exact ⟨0, false, join64_none neg mag E E m0 h1 hE hr, hf⟩

theorem rjoin32_neg (neg : Bool) (mag exp : Int) (h : mag < 0) : F.pupilref1_Join.f 5000 neg mag exp 32 = some (0, false) := by
  unfold F.pupilref1_Join.f F.pupilref1_Of.f
  simp only [if_true, show ¬ (32 : Int) = 64 by decide, if_false, Option.bind_some]
  rw [if_pos h]
  simp only [F.pupilref1_Join.j0, if_true]
theorem rjoin32_far (neg : Bool) (mag exp : Int) (h : 0 < mag) (hx : exp < -2000 ∨ 2000 < exp) : F.pupilref1_Join.f 5000 neg mag exp 32 = some (0, false) := by
  unfold F.pupilref1_Join.f F.pupilref1_Of.f
  simp only [if_true, show ¬ (32 : Int) = 64 by decide, if_false, Option.bind_some]
  rw [if_neg (by omega)]
  by_cases c : exp > 2000
  · rw [if_pos c, if_pos (by omega)]
    simp only [F.pupilref1_Join.j0, if_true]
  · rw [if_neg c, if_pos (by omega), decide_eq_true (show mag > 0 from h)]
    simp only [F.pupilref1_Join.j0, if_true]
theorem rjoin32_zero (neg : Bool) (exp : Int) : F.pupilref1_Join.f 5000 neg 0 exp 32 = some (if neg = true then 2147483648 else 0, true) := by
  unfold F.pupilref1_Join.f F.pupilref1_Of.f
  simp only [if_true, show ¬ (32 : Int) = 64 by decide, if_false, Option.bind_some]
  rw [if_neg (by decide)]
  have hd : decide ((0 : Int) > 0) = false := by decide
  by_cases c : exp > 2000
  · rw [if_pos c, if_neg (by decide)]
    by_cases c2 : exp < -2000
    · omega
    · rw [if_neg c2]
      cases neg <;> simp [F.pupilref1_Join.j0, F.pupilref1_Join.j1]
  · rw [if_neg c]
    by_cases c2 : exp < -2000
    · rw [if_pos c2, hd]
      cases neg <;> simp [F.pupilref1_Join.j0, F.pupilref1_Join.j1]
    · rw [if_neg c2]
      cases neg <;> simp [F.pupilref1_Join.j0, F.pupilref1_Join.j1]
theorem both32 (neg : Bool) (mag exp : Int) (hm : Flt.I64 mag) : ∃ r ok, Tells 44 #[.bool neg, .int .i64 mag, .int .i64 exp, .int .i64 32] (joinV r ok) ∧ F.pupilref1_Join.f 5000 neg mag exp 32 = some (r, ok) := by
  obtain ⟨h0, h1⟩ := hm
  by_cases c : mag < 0
  · exact ⟨0, false, join32_neg neg mag exp c, rjoin32_neg neg mag exp c⟩
  · by_cases z : mag = 0
    · subst z
      refine ⟨if neg = true then 2147483648 else 0, true, ?_, rjoin32_zero neg exp⟩
      cases neg
      · exact join32_zero_false exp
      · exact join32_zero_true exp
    · have m0 : 0 < mag := by omega
      obtain ⟨E, hE⟩ := clamp_ex exp
      obtain ⟨e0, e1⟩ := clamp_range hE
      by_cases far : exp < -2000 ∨ 2000 < exp
      · refine ⟨0, false, join32_none neg mag exp E m0 h1 hE fun r hr => ?_, rjoin32_far neg mag exp m0 far⟩
        have := clamp_far hE far
        obtain ⟨R, hR, _⟩ := hr.wide
        have := Flt.Rep.range hR (by omega) e0
        omega
      · have hEe := clamp_near hE (by omega) (by omega)
        subst hEe
        rcases rjoin32_pos neg mag E m0 h1 (by omega) (by omega) with ⟨r, hr, hf⟩ | ⟨hr, hf⟩
        · exact ⟨_, true, join32_some neg mag E E m0 h1 hE r hr, hf⟩
        · exact ⟨0, false, join32_none neg mag E E m0 h1 hE hr, hf⟩

theorem both_any (neg : Bool) (mag exp v : Int) (hm : Flt.I64 mag) : ∃ r ok, Tells 44 #[.bool neg, .int .i64 mag, .int .i64 exp, .int .i64 v] (joinV r ok) ∧ Tells 77 #[.bool neg, .int .i64 mag, .int .i64 exp, .int .i64 v] (joinV r ok) := by
  by_cases h : v = 64
  · subst h
    obtain ⟨r, ok, h1, h2⟩ := both64 neg mag exp hm
    exact ⟨r, ok, h1, fun w => F.pupilref1_Join.calls 5000 neg mag exp 64 _ _ w h2⟩
  · by_cases h2 : v = 32
    · subst h2
      obtain ⟨r, ok, h1, h2⟩ := both32 neg mag exp hm
      exact ⟨r, ok, h1, fun w => F.pupilref1_Join.calls 5000 neg mag exp 32 _ _ w h2⟩
    · refine ⟨0, false, join_no neg mag exp v (Lib.hid (of_no v h h2)), fun w => F.pupilref1_Join.calls 5000 neg mag exp v _ _ w ?_⟩
      unfold F.pupilref1_Join.f
      rw [rof_no v h h2]
      simp [F.pupilref1_Join.j0]
set_option maxRecDepth 100000 in
set_option maxHeartbeats 1000000 in
theorem joined_law (neg : Bool) (mag exp v : Int) (hm : Hid (Flt.I64 mag)) : Tells 34 #[.bool neg, .int .i64 mag, .int .i64 exp, .int .i64 v] (.bool true) := by
  obtain ⟨r, ok, h1, h2⟩ := both_any neg mag exp v hm.out
  unfold joinV at h1 h2
  have P1 := Lib.hid h1
  have P2 := Lib.hid h2
  clear h1 h2
  intro w
  have HB : Below w.heap.size w w := Below.refl _ _
  go_enter Try.func34, Try.ntmps34
  go_wp2_with fail
  refine (P1.out _).mono ?_
  rintro e w1 ⟨rfl, hb1⟩
  replace HB := below_on HB hb1
  clear hb1
  go_wp2_with fail
  refine (P2.out _).mono ?_
  rintro e w1 ⟨rfl, hb1⟩
  replace HB := below_on HB hb1
  clear hb1
  go_wp2_with fail
  go_ret
  exact ⟨rfl, HB⟩
set_option maxRecDepth 100000 in
set_option maxHeartbeats 1000000 in
theorem bitsJoin_walk (neg : Bool) (mag exp v : Int) (hm : Hid (Flt.I64 mag)) : Tells 10 #[.bool neg, .int .i64 mag, .int .i64 exp, .int .i64 v] (.bool true) := by
  intro w
  have HB : Below w.heap.size w w := Below.refl _ _
  go_enter Try.func10, Try.ntmps10
  go_wp2_with fail
  refine (alive_any _).mono ?_
  rintro e w1 ⟨rfl, hb1⟩
  replace HB := below_on HB hb1
  clear hb1
  go_wp2_with fail
  refine (joined_law neg mag exp v hm _).mono ?_
  rintro e w1 ⟨rfl, hb1⟩
  replace HB := below_on HB hb1
  clear hb1
  go_wp2_with fail
  refine (joined_law neg mag exp 32 hm _).mono ?_
  rintro e w1 ⟨rfl, hb1⟩
  replace HB := below_on HB hb1
  clear hb1
  go_wp2_with fail
  refine (joined_law neg mag exp 64 hm _).mono ?_
  rintro e w1 ⟨rfl, hb1⟩
  replace HB := below_on HB hb1
  clear hb1
  go_wp2_with fail
  go_ret
  exact ⟨rfl, HB⟩
end Go.Proofs.Ytjogbiopbobifaa
