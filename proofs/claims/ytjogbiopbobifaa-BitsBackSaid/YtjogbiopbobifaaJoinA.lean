/- Walks: Ldexp of a number that is no less than 1. -/
import Derived.Test.YtjogbiopbobifaaWalkB
import Derived.Test.YtjogbiopbobifaaJoinQ
namespace Go.Proofs.Ytjogbiopbobifaa
open Go.RowKit

set_option maxRecDepth 100000 in
set_option maxHeartbeats 400000 in
theorem abs64 (n : Nat) (w : World) (h : bits .andNot .u64 (n : Int) 9223372036854775808 = (n : Int)) :
    Calls Try.prog 132 #[.float .f64 n] w fun e w' => e = .returned (.float .f64 n) ∧ w = w' := by
  go_enter Try.func132, Try.ntmps132
  go_wp2
  go_ret
  exact ⟨rfl, rfl⟩
set_option maxRecDepth 100000 in
set_option maxHeartbeats 400000 in
theorem isInf64 (n : Nat) (w : World) (h : Hid (bits .andNot .u64 (n : Int) 9223372036854775808 = (n : Int))) (h2 : (FloatKind.f64.format.order n 9218868437227405311 == some .gt) = false) :
    Calls Try.prog 127 #[.float .f64 n, .int .i64 0] w fun e w' => e = .returned (.bool false) ∧ w = w' := by
  go_enter Try.func127, Try.ntmps127
  go_wp2_with (go_at_call 132; (with_reducible refine (abs64 _ _ h.out).mono ?_); rintro e w1 ⟨rfl, rfl⟩)
  go_ret
  exact ⟨rfl, rfl⟩
set_option maxRecDepth 100000 in
set_option maxHeartbeats 400000 in
theorem normalize64 (n : Nat) (w : World) (h : Hid (bits .andNot .u64 (n : Int) 9223372036854775808 = (n : Int))) (h2 : (FloatKind.f64.format.order n 4503599627370496 == some .lt) = false) :
    Calls Try.prog 128 #[.float .f64 n] w fun e w' => e = .returned (.tuple #[.float .f64 n, .int .i64 0]) ∧ w = w' := by
  go_enter Try.func128, Try.ntmps128
  go_wp2_with (go_at_call 132; (with_reducible refine (abs64 _ _ h.out).mono ?_); rintro e w1 ⟨rfl, rfl⟩)
  go_ret2
  exact ⟨rfl, rfl⟩

set_option maxRecDepth 100000 in
set_option maxHeartbeats 400000 in
theorem copysign0 (n : Nat) (w : World) (h : bits .and .u64 (n : Int) 9223372036854775808 = 0) :
    Calls Try.prog 93 #[.float .f64 0, .float .f64 n] w fun e w' => e = .returned (.float .f64 0) ∧ w = w' := by
  go_enter Try.func93, Try.ntmps93
  go_wp2
  go_ret
  exact ⟨rfl, rfl⟩

set_option maxRecDepth 100000 in
set_option maxHeartbeats 1000000 in
theorem ldexp_low (n : Nat) (E fe : Int) (w : World) (h : Hid (bits .andNot .u64 (n : Int) 9223372036854775808 = (n : Int))) (h1 : Hid ((FloatKind.f64.format.order n 9218868437227405311 == some .gt) = false)) (h2 : Hid ((FloatKind.f64.format.order n 4503599627370496 == some .lt) = false))
    (h3 : (FloatKind.f64.format.order n 0 == some .eq) = false) (h4 : (FloatKind.f64.format.order n n != some .eq) = false) (h5 : bits .and .i64 (wrap64 ((n : Int) / 4503599627370496)) 2047 = fe) (e0 : -3000 ≤ E) (e1 : E ≤ 3000) (f0 : 0 ≤ fe) (f1 : fe ≤ 2047) (c : E + (fe - 1023) < -1075) (hs : Hid (bits .and .u64 (n : Int) 9223372036854775808 = 0)) :
    Calls Try.prog 114 #[.float .f64 n, .int .i64 E] w fun e w' => e = .returned (.float .f64 0) ∧ w = w' := by
  go_enter Try.func114, Try.ntmps114
  go_wp2_with (first | (go_at_call 127; (with_reducible refine (isInf64 _ _ h h1.out).mono ?_); rintro e w1 ⟨rfl, rfl⟩) | (go_at_call 99; go_in) | (go_at_call 128; (with_reducible refine (normalize64 _ _ h h2.out).mono ?_); rintro e w1 ⟨rfl, rfl⟩) | (go_at_call 93; (with_reducible refine (copysign0 _ _ hs.out).mono ?_); rintro e w1 ⟨rfl, rfl⟩))
  go_ret
  exact ⟨rfl, rfl⟩

set_option maxRecDepth 100000 in
set_option maxHeartbeats 1000000 in
theorem ldexp_high (n : Nat) (E fe : Int) (w : World) (h : Hid (bits .andNot .u64 (n : Int) 9223372036854775808 = (n : Int))) (h1 : Hid ((FloatKind.f64.format.order n 9218868437227405311 == some .gt) = false)) (h2 : Hid ((FloatKind.f64.format.order n 4503599627370496 == some .lt) = false))
    (h3 : (FloatKind.f64.format.order n 0 == some .eq) = false) (h4 : (FloatKind.f64.format.order n n != some .eq) = false) (h5 : bits .and .i64 (wrap64 ((n : Int) / 4503599627370496)) 2047 = fe) (e0 : -3000 ≤ E) (e1 : E ≤ 3000) (f0 : 0 ≤ fe) (f1 : fe ≤ 2047) (c : 1023 < E + (fe - 1023)) (hs : (FloatKind.f64.format.order n 0 == some .lt) = false) :
    Calls Try.prog 114 #[.float .f64 n, .int .i64 E] w fun e w' => e = .returned (.float .f64 9218868437227405312) ∧ w = w' := by
  go_enter Try.func114, Try.ntmps114
  go_wp2_with (first | (go_at_call 127; (with_reducible refine (isInf64 _ _ h h1.out).mono ?_); rintro e w1 ⟨rfl, rfl⟩) | (go_at_call 99; go_in) | (go_at_call 128; (with_reducible refine (normalize64 _ _ h h2.out).mono ?_); rintro e w1 ⟨rfl, rfl⟩) | (go_at_call 66; (with_reducible refine (inf_any _).mono ?_); rintro e w1 ⟨rfl, rfl⟩))
  go_ret
  exact ⟨rfl, rfl⟩

set_option maxRecDepth 100000 in
set_option maxHeartbeats 1000000 in
theorem ldexp_mid (n : Nat) (E fe : Int) (x r : Nat) (w : World) (h : Hid (bits .andNot .u64 (n : Int) 9223372036854775808 = (n : Int))) (h1 : Hid ((FloatKind.f64.format.order n 9218868437227405311 == some .gt) = false)) (h2 : Hid ((FloatKind.f64.format.order n 4503599627370496 == some .lt) = false))
    (h3 : (FloatKind.f64.format.order n 0 == some .eq) = false) (h4 : (FloatKind.f64.format.order n n != some .eq) = false) (h5 : bits .and .i64 (wrap64 ((n : Int) / 4503599627370496)) 2047 = fe) (e0 : -3000 ≤ E) (e1 : E ≤ 3000) (f0 : 0 ≤ fe) (f1 : fe ≤ 2047) (c : -1022 ≤ E + (fe - 1023)) (c2 : E + (fe - 1023) ≤ 1023)
    (hx : Hid ((bits .or .u64 (bits .andNot .u64 (n : Int) 9218868437227405312) ((E + (fe - 1023) + 1023) * 4503599627370496)).toNat = x)) (hf : Hid (floatBits .mul .f64 4607182418800017408 x = some r)) :
    Calls Try.prog 114 #[.float .f64 n, .int .i64 E] w fun e w' => e = .returned (.float .f64 r) ∧ w = w' := by
  have hm := fun w : World => run_float_arith (P := Try.prog) w .mul 24 .f64 4607182418800017408 (bits .or .u64 (bits .andNot .u64 (n : Int) 9218868437227405312) ((E + (fe - 1023) + 1023) * 4503599627370496)).toNat r (by rw [hx.out]; exact hf.out)
  go_enter Try.func114, Try.ntmps114
  go_wp2_with (first | (go_at_call 127; (with_reducible refine (isInf64 _ _ h h1.out).mono ?_); rintro e w1 ⟨rfl, rfl⟩) | (go_at_call 99; go_in) | (go_at_call 128; (with_reducible refine (normalize64 _ _ h h2.out).mono ?_); rintro e w1 ⟨rfl, rfl⟩))
  go_ret
  exact ⟨rfl, rfl⟩

set_option maxRecDepth 100000 in
set_option maxHeartbeats 1000000 in
theorem ldexp_sub (n : Nat) (E fe : Int) (x r : Nat) (w : World) (h : Hid (bits .andNot .u64 (n : Int) 9223372036854775808 = (n : Int))) (h1 : Hid ((FloatKind.f64.format.order n 9218868437227405311 == some .gt) = false)) (h2 : Hid ((FloatKind.f64.format.order n 4503599627370496 == some .lt) = false))
    (h3 : (FloatKind.f64.format.order n 0 == some .eq) = false) (h4 : (FloatKind.f64.format.order n n != some .eq) = false) (h5 : bits .and .i64 (wrap64 ((n : Int) / 4503599627370496)) 2047 = fe) (e0 : -3000 ≤ E) (e1 : E ≤ 3000) (f0 : 0 ≤ fe) (f1 : fe ≤ 2047) (c : -1075 ≤ E + (fe - 1023)) (c2 : E + (fe - 1023) < -1022)
    (hx : Hid ((bits .or .u64 (bits .andNot .u64 (n : Int) 9218868437227405312) ((E + (fe - 1023) + 53 + 1023) * 4503599627370496)).toNat = x)) (hf : Hid (floatBits .mul .f64 4368491638549381120 x = some r)) :
    Calls Try.prog 114 #[.float .f64 n, .int .i64 E] w fun e w' => e = .returned (.float .f64 r) ∧ w = w' := by
  have hm := fun w : World => run_float_arith (P := Try.prog) w .mul 24 .f64 4368491638549381120 (bits .or .u64 (bits .andNot .u64 (n : Int) 9218868437227405312) ((E + (fe - 1023) + 53 + 1023) * 4503599627370496)).toNat r (by rw [hx.out]; exact hf.out)
  go_enter Try.func114, Try.ntmps114
  go_wp2_with (first | (go_at_call 127; (with_reducible refine (isInf64 _ _ h h1.out).mono ?_); rintro e w1 ⟨rfl, rfl⟩) | (go_at_call 99; go_in) | (go_at_call 128; (with_reducible refine (normalize64 _ _ h h2.out).mono ?_); rintro e w1 ⟨rfl, rfl⟩))
  go_ret
  exact ⟨rfl, rfl⟩

theorem ldexp_any (F : Nat) (E : Int) (w : World) (h0 : 4607182418800017408 ≤ F) (h1 : F ≤ 4890909195324358656) (e0 : -3000 ≤ E) (e1 : E ≤ 3000) :
    Calls Try.prog 114 #[.float .f64 F, .int .i64 E] w fun e w' => e = .returned (.float .f64 (Flt.ldx F E)) ∧ w = w' := by
  have hF : F < 9223372036854775808 := by omega
  obtain ⟨o1, o2, o3, o4, o5⟩ := Flt.order_facts F h0 h1
  have hA := Lib.hid (Flt.u64_abs F hF)
  have hfe := Flt.fe_eq F hF
  have hb : 1023 ≤ F / 4503599627370496 ∧ F / 4503599627370496 ≤ 1086 := by omega
  have hM : F % 4503599627370496 < 4503599627370496 := Nat.mod_lt _ (by decide)
  unfold Flt.ldx
  by_cases c1 : E + (((F / 4503599627370496 : Nat) : Int) - 1023) < -1075
  · rw [if_pos c1]
    exact ldexp_low F E _ w hA (Lib.hid o1) (Lib.hid o2) o3 o4 hfe e0 e1 (by omega) (by omega) c1 (Lib.hid (Flt.u64_sign F hF))
  · rw [if_neg c1]
    by_cases c2 : 1023 < E + (((F / 4503599627370496 : Nat) : Int) - 1023)
    · rw [if_pos c2]
      exact ldexp_high F E _ w hA (Lib.hid o1) (Lib.hid o2) o3 o4 hfe e0 e1 (by omega) (by omega) c2 o5
    · rw [if_neg c2]
      by_cases c3 : -1022 ≤ E + (((F / 4503599627370496 : Nat) : Int) - 1023)
      · rw [if_pos c3]
        have hx := Flt.u64_field F (E + (((F / 4503599627370496 : Nat) : Int) - 1023) + 1023) hF (by omega) (by omega)
        refine ldexp_mid F E _ _ _ w hA (Lib.hid o1) (Lib.hid o2) o3 o4 hfe e0 e1 (by omega) (by omega) c3 (by omega) (Lib.hid hx) (Lib.hid (Flt.mul_one _ ?_))
        rw [Flt.dfields.2.1]; omega
      · rw [if_neg c3]
        have hx := Flt.u64_field F (E + (((F / 4503599627370496 : Nat) : Int) - 1023) + 53 + 1023) hF (by omega) (by omega)
        refine ldexp_sub F E _ _ _ w hA (Lib.hid o1) (Lib.hid o2) o3 o4 hfe e0 e1 (by omega) (by omega) (by omega) (by omega) (Lib.hid hx) (Lib.hid ?_)
        generalize hX : (E + (((F / 4503599627370496 : Nat) : Int) - 1023) + 53 + 1023).toNat * 4503599627370496 + F % 4503599627370496 = X
        have hi : X < Ieee.double.infRung := by rw [Flt.dfields.2.1]; omega
        rw [Flt.mul_least X hi]
        have hm := Flt.mg_ex X (by omega)
        rw [hm.1, hm.2, Flt.dplace]
        congr 2 <;> omega
set_option maxRecDepth 100000 in
set_option maxHeartbeats 400000 in
theorem Ldexp_any (F : Nat) (E : Int) (w : World) (h0 : Hid (4607182418800017408 ≤ F)) (h1 : Hid (F ≤ 4890909195324358656)) (e0 : Hid (-3000 ≤ E)) (e1 : Hid (E ≤ 3000)) :
    Calls Try.prog 92 #[.float .f64 F, .int .i64 E] w fun e w' => e = .returned (.float .f64 (Flt.ldx F E)) ∧ w = w' := by
  go_enter Try.func92, Try.ntmps92
  go_wp2_with (go_at_call 114; (with_reducible refine (ldexp_any F E _ h0.out h1.out e0.out e1.out).mono ?_); rintro e w1 ⟨rfl, rfl⟩)
  go_ret
  exact ⟨rfl, rfl⟩
set_option maxRecDepth 100000 in
set_option maxHeartbeats 400000 in
theorem Ldexp_zero (E : Int) (w : World) :
    Calls Try.prog 92 #[.float .f64 0, .int .i64 E] w fun e w' => e = .returned (.float .f64 0) ∧ w = w' := by
  have h : (FloatKind.f64.format.order 0 0 == some .eq) = true := by kernel_rfl
  go_enter Try.func92, Try.ntmps92
  go_wp2
  go_ret
  exact ⟨rfl, rfl⟩

set_option maxRecDepth 100000 in
set_option maxHeartbeats 400000 in
theorem copysign_one (n m : Nat) (w : World) (h : Hid ((bits .or .u64 (bits .andNot .u64 (n : Int) 9223372036854775808) (bits .and .u64 13830554455654793216 9223372036854775808)).toNat = m)) :
    Calls Try.prog 93 #[.float .f64 n, .float .f64 13830554455654793216] w fun e w' => e = .returned (.float .f64 m) ∧ w = w' := by
  go_enter Try.func93, Try.ntmps93
  go_wp2
  go_ret
  exact ⟨congrArg (fun z => Ending.returned (.float .f64 z)) h.out, rfl⟩
theorem copysign_neg (n : Nat) (hn : n < 9223372036854775808) (w : World) :
    Calls Try.prog 93 #[.float .f64 n, .float .f64 13830554455654793216] w fun e w' => e = .returned (.float .f64 (n + 9223372036854775808)) ∧ w = w' := by
  refine copysign_one n _ w (Lib.hid ?_)
  rw [Flt.u64_abs n hn]
  have e : bits .and .u64 13830554455654793216 9223372036854775808 = ((9223372036854775808 : Nat) : Int) := by
    have := u64_and_nat 13830554455654793216 9223372036854775808 (by omega) (by omega)
    exact this
  rw [e, u64_or_nat _ _ (by omega) (by omega), Int.toNat_natCast, Nat.or_comm, nat_join 63 _ _ (by decide) (by omega)]
  omega
end Go.Proofs.Ytjogbiopbobifaa
