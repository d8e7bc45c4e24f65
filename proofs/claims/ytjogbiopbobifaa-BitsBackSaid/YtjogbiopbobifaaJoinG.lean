/- Join, at every argument: what it tells. -/
import Derived.Test.YtjogbiopbobifaaJoinF
namespace Go.Proofs.Ytjogbiopbobifaa
open Go.RowKit

theorem of_b (Y : Nat) (h : Y < 18446744073709551616) : ∀ w, Calls Try.prog 19 #[.float .f64 Y] w fun e w' => e = .returned (.int .i64 (told64 Y)) ∧ w = w' := fun w => of_any Y w h
theorem clamp_range {exp E : Int} (h : Clamped exp E) : -3000 ≤ E ∧ E ≤ 3000 := by
  rcases h with ⟨_, rfl⟩ | ⟨_, rfl⟩ | ⟨_, _, rfl⟩ <;> omega

def joinV (r : Int) (ok : Bool) : Value := .tuple #[.int .i64 r, .bool ok]
section
variable (neg : Bool) (mag exp E : Int) (m0 : 0 < mag) (m1 : mag < 9223372036854775808) (hE : Clamped exp E)
include m0 m1 hE
theorem join64_got (r : Int) (ok : Bool) (Y : Nat) (hY : Y = if neg = true then Flt.ldx (Flt.ofMag mag.toNat) E + 9223372036854775808 else Flt.ldx (Flt.ofMag mag.toNat) E) (out : Outcome (told64 Y) 64 mag E (-1074) r ok) :
    Tells 44 #[.bool neg, .int .i64 mag, .int .i64 exp, .int .i64 64] (joinV r ok) := by
  obtain ⟨e0, e1⟩ := clamp_range hE
  have hl := Flt.ldx_le (Flt.ofMag mag.toNat) E
  have hL := ldexp_mag mag E m0 m1 e0 e1
  have hm := beq_eq_false_iff_ne.2 (show ¬ mag = 0 by omega)
  cases neg
  · rw [if_neg (by decide)] at hY
    rw [← hY] at hL
    exact join64_pos_f mag exp E _ r ok Y (by omega) hm hE (Lib.hid hL) (Lib.hid (of_b Y (by omega))) out
  · rw [if_pos rfl] at hY
    have hC := copysign_neg (Flt.ldx (Flt.ofMag mag.toNat) E) (by omega)
    rw [← hY] at hC
    exact join64_pos_t mag exp E _ r ok _ Y (by omega) hm hE (Lib.hid hL) (Lib.hid hC) (Lib.hid (of_b Y (by omega))) out
theorem join64_none (hr : ∀ r, ¬ Flt.Rep Ieee.double mag.toNat E r) : Tells 44 #[.bool neg, .int .i64 mag, .int .i64 exp, .int .i64 64] (joinV 0 false) := by
  obtain ⟨e0, e1⟩ := clamp_range hE
  have hl := Flt.ldx_le (Flt.ofMag mag.toNat) E
  refine join64_got neg mag exp E m0 m1 hE 0 false _ rfl (outcome64_no _ mag E (told64_range _ ?_) m0 m1 e0 e1 hr)
  split <;> omega
theorem join64_some (r : Nat) (hr : Flt.Rep Ieee.double mag.toNat E r) : Tells 44 #[.bool neg, .int .i64 mag, .int .i64 exp, .int .i64 64] (joinV (Flt.lay64 neg r) true) := by
  obtain ⟨e0, e1⟩ := clamp_range hE
  obtain ⟨b0, b1⟩ := Flt.ofMag_bounds mag.toNat (by omega) (by omega)
  have hx := Flt.ldx_exact _ _ _ r b0 b1 e0 e1 (Flt.ofMag_exact mag.toNat (by omega) (Nat.le_refl _) Flt.dK (by have := Flt.K_eq; omega) hr) hr
  obtain ⟨l1, l2, l3, l4⟩ := Flt.lay64_fin neg r hr.2.1
  have hY : Ieee.double.word neg r = if neg = true then Flt.ldx (Flt.ofMag mag.toNat) E + 9223372036854775808 else Flt.ldx (Flt.ofMag mag.toNat) E := by
    rw [hx]
    cases neg
    · rfl
    · show Ieee.double.signWeight + r = _
      rw [Flt.dfields.1, if_pos rfl, Nat.add_comm]
  refine join64_got neg mag exp E m0 m1 hE _ true _ hY ?_
  rw [l4]
  exact outcome64_yes _ mag E l1 m0 m1 e0 e1 l2 (by rw [l3]; exact hr)

theorem join32_got (r : Int) (ok : Bool) (Y : Nat) (hY : Y = if neg = true then Flt.ldx (Flt.ofMag mag.toNat) E + 9223372036854775808 else Flt.ldx (Flt.ofMag mag.toNat) E)
    (hV : ∀ w : World, ∃ n w2, n < 4294967296 ∧ (convert 24 26 (.float .f64 Y)).run Try.prog w = .ok (.float .f32 n) w2 ∧ Below w.heap.size w w2 ∧ Outcome (told32 n) 32 mag E (-149) r ok) :
    Tells 44 #[.bool neg, .int .i64 mag, .int .i64 exp, .int .i64 32] (joinV r ok) := by
  obtain ⟨e0, e1⟩ := clamp_range hE
  have hl := Flt.ldx_le (Flt.ofMag mag.toNat) E
  have hL := ldexp_mag mag E m0 m1 e0 e1
  have hm := beq_eq_false_iff_ne.2 (show ¬ mag = 0 by omega)
  have hV' : ∀ w : World, ∃ n w2, (convert 24 26 (.float .f64 Y)).run Try.prog w = .ok (.float .f32 n) w2 ∧ Below w.heap.size w w2 ∧ (∀ w, Calls Try.prog 20 #[.float .f32 n] w fun e w' => e = .returned (.int .i64 (told32 n)) ∧ w = w') ∧ Outcome (told32 n) 32 mag E (-149) r ok := by
    intro w
    obtain ⟨n, w2, h1, h2, h3, h4⟩ := hV w
    exact ⟨n, w2, h2, h3, fun w => of32_any n w h1, h4⟩
  cases neg
  · rw [if_neg (by decide)] at hY
    rw [← hY] at hL
    exact join32_pos_f mag exp E _ r ok Y (by omega) hm hE (Lib.hid hL) (Lib.hid (of_b Y (by omega))) (Lib.hid hV')
  · rw [if_pos rfl] at hY
    have hC := copysign_neg (Flt.ldx (Flt.ofMag mag.toNat) E) (by omega)
    rw [← hY] at hC
    exact join32_pos_t mag exp E _ r ok _ Y (by omega) hm hE (Lib.hid hL) (Lib.hid hC) (Lib.hid (of_b Y (by omega))) (Lib.hid hV')
theorem join32_none (hr : ∀ r, ¬ Flt.Rep Ieee.single mag.toNat E r) : Tells 44 #[.bool neg, .int .i64 mag, .int .i64 exp, .int .i64 32] (joinV 0 false) := by
  obtain ⟨e0, e1⟩ := clamp_range hE
  refine join32_got neg mag exp E m0 m1 hE 0 false _ rfl fun w => ?_
  obtain ⟨n, w2, h1, h2, h3⟩ := f64to32_any _ w
  exact ⟨n, w2, h1, h2, h3, outcome32_no _ mag E (told32_valid n h1) m0 m1 e0 e1 hr⟩
theorem join32_some (r : Nat) (hr : Flt.Rep Ieee.single mag.toNat E r) : Tells 44 #[.bool neg, .int .i64 mag, .int .i64 exp, .int .i64 32] (joinV (Flt.lay32 neg r) true) := by
  obtain ⟨e0, e1⟩ := clamp_range hE
  obtain ⟨b0, b1⟩ := Flt.ofMag_bounds mag.toNat (by omega) (by omega)
  obtain ⟨R, hR, hv⟩ := hr.wide
  have hx := Flt.ldx_exact _ _ _ R b0 b1 e0 e1 (Flt.ofMag_exact mag.toNat (by omega) (Nat.le_refl _) Flt.dK (by have := Flt.K_eq; omega) hR) hR
  obtain ⟨l1, l2, l3, l4⟩ := Flt.lay32_fin neg r hr.2.1
  have hY : Ieee.double.word neg R = if neg = true then Flt.ldx (Flt.ofMag mag.toNat) E + 9223372036854775808 else Flt.ldx (Flt.ofMag mag.toNat) E := by
    rw [hx]
    cases neg
    · rfl
    · show Ieee.double.signWeight + R = _
      rw [Flt.dfields.1, if_pos rfl, Nat.add_comm]
  refine join32_got neg mag exp E m0 m1 hE _ true _ hY fun w => ?_
  have hu1 : Try.prog.underlying 24 = some (.float .f64) := Try.underlying24
  have hu2 : Try.prog.underlying 26 = some (.float .f32) := Try.underlying26
  have hw := Flt.write_single neg R r hR.2.1 hr.2.1 hv
  have hrun := run_convert_float_float (P := Try.prog) w 24 26 .f64 .f32 _ _ (by rw [hu1]; rfl) hu2 hw
  refine ⟨Ieee.single.word neg r, w, ?_, hrun, Below.refl _ _, ?_⟩
  · exact Ieee.single.word_lt neg (Nat.lt_trans hr.2.1 Flt.ok_single.2.2)
  · rw [l4]
    exact outcome32_yes _ mag E l1 m0 m1 e0 e1 l2 (by rw [l3]; exact hr)
end
/-! ## no such width; below 0; 0 -/
set_option maxRecDepth 100000 in
set_option maxHeartbeats 1000000 in
theorem join_no (neg : Bool) (mag exp v : Int) (hf : Hid (F.bits_of.f v = some (0, 0, 0, 0, false))) : Tells 44 #[.bool neg, .int .i64 mag, .int .i64 exp, .int .i64 v] (joinV 0 false) := by
  intro w
  go_enter Try.func44, Try.ntmps44
  go_wp2_with fail
  refine (F.bits_of.calls v 0 0 0 0 false _ hf.out).mono ?_
  rintro e w1 ⟨rfl, hb1⟩
  go_wp2_with fail
  go_ret2
  exact ⟨rfl, hb1.alloc hb1.size _⟩
set_option maxRecDepth 100000 in
set_option maxHeartbeats 1000000 in
theorem join64_neg (neg : Bool) (mag exp : Int) (h : mag < 0) : Tells 44 #[.bool neg, .int .i64 mag, .int .i64 exp, .int .i64 64] (joinV 0 false) := by
  intro w
  go_enter Try.func44, Try.ntmps44
  go_wp2_with fail
  refine (F.bits_of.calls 64 52 2047 (-1074) (-9223372036854775808) true _ rfl).mono ?_
  rintro e w1 ⟨rfl, hb1⟩
  go_wp2_with fail
  go_ret2
  exact ⟨rfl, hb1.alloc hb1.size _⟩
set_option maxRecDepth 100000 in
set_option maxHeartbeats 1000000 in
theorem join32_neg (neg : Bool) (mag exp : Int) (h : mag < 0) : Tells 44 #[.bool neg, .int .i64 mag, .int .i64 exp, .int .i64 32] (joinV 0 false) := by
  intro w
  go_enter Try.func44, Try.ntmps44
  go_wp2_with fail
  refine (F.bits_of.calls 32 23 255 (-149) 2147483648 true _ rfl).mono ?_
  rintro e w1 ⟨rfl, hb1⟩
  go_wp2_with fail
  go_ret2
  exact ⟨rfl, hb1.alloc hb1.size _⟩
set_option maxRecDepth 100000 in
set_option maxHeartbeats 2000000 in
theorem join64_zero_false (exp : Int) : Tells 44 #[.bool false, .int .i64 0, .int .i64 exp, .int .i64 64] (joinV 0 true) := by
  intro w
  have h0 : floatOfInt .f64 0 = 0 := by kernel_rfl
  have hO := of_b 0 (by decide)
  have eO : told64 0 = 0 := by decide
  rw [eO] at hO
  have HO := Lib.hid hO
  clear hO eO
  have hP : Tells 43 #[.int .i64 0, .int .i64 64] (.tuple #[.bool false, .int .i64 0, .int .i64 (-1074), .bool true]) := parts_any 0 64 ⟨by decide, by decide⟩
  have HP := Lib.hid hP
  clear hP
  go_enter Try.func44, Try.ntmps44
  go_wp2_with fail
  refine (F.bits_of.calls 64 52 2047 (-1074) (-9223372036854775808) true _ rfl).mono ?_
  rintro e w1 ⟨rfl, hb1⟩
  go_wp2_with fail
  all_goals
    refine (Ldexp_zero _ _).mono ?_
    rintro e w2 ⟨rfl, rfl⟩
    go_wp2_with fail
    refine (HO.out _).mono ?_
    rintro e w2 ⟨rfl, rfl⟩
    go_wp2_with fail
    refine (HP.out _).mono ?_
    rintro e w2 ⟨rfl, hb2⟩
    go_wp2_with fail
    go_ret2
    exact ⟨rfl, below_two hb1 hb2⟩
set_option maxRecDepth 100000 in
set_option maxHeartbeats 2000000 in
theorem join64_zero_true (exp : Int) : Tells 44 #[.bool true, .int .i64 0, .int .i64 exp, .int .i64 64] (joinV (-9223372036854775808) true) := by
  intro w
  have h0 : floatOfInt .f64 0 = 0 := by kernel_rfl
  have hO := of_b 9223372036854775808 (by decide)
  have eO : told64 9223372036854775808 = (-9223372036854775808) := by decide
  rw [eO] at hO
  have HO := Lib.hid hO
  clear hO eO
  have hP : Tells 43 #[.int .i64 (-9223372036854775808), .int .i64 64] (.tuple #[.bool true, .int .i64 0, .int .i64 (-1074), .bool true]) := parts_any (-9223372036854775808) 64 ⟨by decide, by decide⟩
  have HP := Lib.hid hP
  clear hP
  go_enter Try.func44, Try.ntmps44
  go_wp2_with fail
  refine (F.bits_of.calls 64 52 2047 (-1074) (-9223372036854775808) true _ rfl).mono ?_
  rintro e w1 ⟨rfl, hb1⟩
  go_wp2_with fail
  all_goals
    refine (Ldexp_zero _ _).mono ?_
    rintro e w2 ⟨rfl, rfl⟩
    go_wp2_with fail
    refine (copysign_neg 0 (by decide) _).mono ?_
    rintro e w2 ⟨rfl, rfl⟩
    go_wp2_with fail
    refine (HO.out _).mono ?_
    rintro e w2 ⟨rfl, rfl⟩
    go_wp2_with fail
    refine (HP.out _).mono ?_
    rintro e w2 ⟨rfl, hb2⟩
    go_wp2_with fail
    go_ret2
    exact ⟨rfl, below_two hb1 hb2⟩
set_option maxRecDepth 100000 in
set_option maxHeartbeats 2000000 in
theorem join32_zero_false (exp : Int) : Tells 44 #[.bool false, .int .i64 0, .int .i64 exp, .int .i64 32] (joinV 0 true) := by
  intro w
  have h0 : floatOfInt .f64 0 = 0 := by kernel_rfl
  have hO := of_b 0 (by decide)
  have eO : told64 0 = 0 := by decide
  rw [eO] at hO
  have HO := Lib.hid hO
  clear hO eO
  have hP : Tells 43 #[.int .i64 0, .int .i64 32] (.tuple #[.bool false, .int .i64 0, .int .i64 (-149), .bool true]) := parts_any 0 32 ⟨by decide, by decide⟩
  have HP := Lib.hid hP
  clear hP
  have hV : ∀ w : World, (convert 24 26 (.float .f64 0)).run Try.prog w = .ok (.float .f32 0) w := fun w => by kernel_rfl
  have hO2 : ∀ w, Calls Try.prog 20 #[.float .f32 0] w fun e w' => e = .returned (.int .i64 (told32 0)) ∧ w = w' := fun w => of32_any 0 w (by decide)
  have eO2 : told32 0 = 0 := by decide
  rw [eO2] at hO2
  have HO2 := Lib.hid hO2
  clear hO2 eO2
  go_enter Try.func44, Try.ntmps44
  go_wp2_with fail
  refine (F.bits_of.calls 32 23 255 (-149) 2147483648 true _ rfl).mono ?_
  rintro e w1 ⟨rfl, hb1⟩
  go_wp2_with fail
  all_goals
    refine (Ldexp_zero _ _).mono ?_
    rintro e w2 ⟨rfl, rfl⟩
    go_wp2_with fail
    refine (HO.out _).mono ?_
    rintro e w2 ⟨rfl, rfl⟩
    go_wp2_with fail
    refine (HO2.out _).mono ?_
    rintro e w2 ⟨rfl, rfl⟩
    go_wp2_with fail
    refine (HP.out _).mono ?_
    rintro e w2 ⟨rfl, hb2⟩
    go_wp2_with fail
    go_ret2
    exact ⟨rfl, below_two hb1 hb2⟩
set_option maxRecDepth 100000 in
set_option maxHeartbeats 2000000 in
theorem join32_zero_true (exp : Int) : Tells 44 #[.bool true, .int .i64 0, .int .i64 exp, .int .i64 32] (joinV 2147483648 true) := by
  intro w
  have h0 : floatOfInt .f64 0 = 0 := by kernel_rfl
  have hO := of_b 9223372036854775808 (by decide)
  have eO : told64 9223372036854775808 = (-9223372036854775808) := by decide
  rw [eO] at hO
  have HO := Lib.hid hO
  clear hO eO
  have hP : Tells 43 #[.int .i64 2147483648, .int .i64 32] (.tuple #[.bool true, .int .i64 0, .int .i64 (-149), .bool true]) := parts_any 2147483648 32 ⟨by decide, by decide⟩
  have HP := Lib.hid hP
  clear hP
  have hV : ∀ w : World, (convert 24 26 (.float .f64 9223372036854775808)).run Try.prog w = .ok (.float .f32 2147483648) w := fun w => by kernel_rfl
  have hO2 : ∀ w, Calls Try.prog 20 #[.float .f32 2147483648] w fun e w' => e = .returned (.int .i64 (told32 2147483648)) ∧ w = w' := fun w => of32_any 2147483648 w (by decide)
  have eO2 : told32 2147483648 = 2147483648 := by decide
  rw [eO2] at hO2
  have HO2 := Lib.hid hO2
  clear hO2 eO2
  go_enter Try.func44, Try.ntmps44
  go_wp2_with fail
  refine (F.bits_of.calls 32 23 255 (-149) 2147483648 true _ rfl).mono ?_
  rintro e w1 ⟨rfl, hb1⟩
  go_wp2_with fail
  all_goals
    refine (Ldexp_zero _ _).mono ?_
    rintro e w2 ⟨rfl, rfl⟩
    go_wp2_with fail
    refine (copysign_neg 0 (by decide) _).mono ?_
    rintro e w2 ⟨rfl, rfl⟩
    go_wp2_with fail
    refine (HO.out _).mono ?_
    rintro e w2 ⟨rfl, rfl⟩
    go_wp2_with fail
    refine (HO2.out _).mono ?_
    rintro e w2 ⟨rfl, rfl⟩
    go_wp2_with fail
    refine (HP.out _).mono ?_
    rintro e w2 ⟨rfl, hb2⟩
    go_wp2_with fail
    go_ret2
    exact ⟨rfl, below_two hb1 hb2⟩
end Go.Proofs.Ytjogbiopbobifaa
