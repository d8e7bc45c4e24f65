/- Next, at every width: what it tells, as a plain function. -/
import Derived.Test.YtjogbiopbobifaaA6
namespace Go.Proofs.Ytjogbiopbobifaa
open Go.RowKit

/-- a call answers just this value; what was in memory is as it was -/
abbrev Tells (f : FuncId) (args : Array Value) (v : Value) : Prop := ∀ w : World, Calls Try.prog f args w fun e w' => e = .returned v ∧ Below w.heap.size w w'
theorem tells_of {f : FuncId} {args : Array Value} {v : Value} (h : ∀ w : World, Calls Try.prog f args w fun e w' => e = .returned v ∧ w = w') : Tells f args v :=
  fun w => (h w).mono fun _ _ ⟨he, hw⟩ => ⟨he, hw ▸ Below.refl _ _⟩

theorem told64_w64 (c : Int) (h : Flt.I64 c) (hc : ¬ Flt.cls64 c = 4) : told64 (Flt.w64 c) = c := by
  have hn := Flt.w64_nan c h
  obtain ⟨h0, h1⟩ := h
  unfold told64
  rw [hn, decide_eq_false hc, if_neg (by decide)]
  unfold Flt.w64
  split <;> omega
theorem w64_lt (c : Int) : Flt.w64 c < 18446744073709551616 := by unfold Flt.w64; omega
theorem told32_w32 (c : Int) (hc : ¬ Flt.cls32 c = 4) : told32 (Flt.w32 c) = c := by
  have hv := Flt.valid_of_cls hc
  have hv' : 0 ≤ c ∧ c < 4294967296 := by unfold Flt.valid32 at hv; simpa using hv
  unfold told32
  rw [Flt.w32_nan, decide_eq_false hc, if_neg (by decide)]
  unfold Flt.w32
  rw [if_pos hv]
  omega
theorem w64_inf : (9218868437227405312 : Nat) = Flt.w64 Flt.inf64 := by decide
theorem w64_0 : (0 : Nat) = Flt.w64 0 := by decide
theorem w32_inf : (2139095040 : Nat) = Flt.w32 Flt.inf32 := by decide
theorem w32_0 : (0 : Nat) = Flt.w32 0 := by decide
theorem I64_inf : Flt.I64 Flt.inf64 := ⟨by decide, by decide⟩
theorem I64_0 : Flt.I64 0 := ⟨by decide, by decide⟩
theorem some_beq (o p : Ordering) : (some o == some p) = decide (o = p) := by cases o <;> cases p <;> rfl

theorem next64_any (b : Int) (hb : Flt.I64 b) : Tells 29 #[.int .i64 b, .int .i64 64] (.int .i64 (Flt.nxt64 b)) := by
  refine tells_of fun w => ?_
  have hn := Flt.order_self Ieee.double Flt.ok_double (Flt.w64 b)
  rw [Flt.w64_nan b hb] at hn
  by_cases c4 : Flt.cls64 b = 4
  · have e : Flt.nxt64 b = told64 9221120237041090561 := by unfold Flt.nxt64; rw [if_pos c4]; decide
    rw [e]
    exact next64_of b _ 9221120237041090561 (Lib.hid rfl) (Lib.hid (by decide)) w (Lib.hid fun w => nextafter_nan _ _ w (by rw [decide_eq_true c4] at hn; exact hn))
  rw [decide_eq_false c4] at hn
  have hr := Flt.sr64_le b hb c4
  have hz := Flt.cls64_zero b hb
  have o1 : FloatKind.f64.format.order (Flt.w64 b) 9218868437227405312 = some (compare (Flt.sr64 b) 9218868437227405312) := by
    rw [w64_inf, ord64 b Flt.inf64 hb I64_inf c4 (by decide)]; rfl
  have o2 : FloatKind.f64.format.order (Flt.w64 b) 0 = some (compare (Flt.sr64 b) 0) := by
    rw [w64_0, ord64 b 0 hb I64_0 c4 (by decide)]; rfl
  have o3 : FloatKind.f64.format.order 9218868437227405312 (Flt.w64 b) = some (compare 9218868437227405312 (Flt.sr64 b)) := by
    rw [w64_inf, ord64 Flt.inf64 b I64_inf hb (by decide) c4]; rfl
  have h0 : (FloatKind.f64.format.order 9218868437227405312 9218868437227405312 != some .eq) = false := by kernel_rfl
  rw [Flt.compare_int] at o1 o2 o3
  by_cases ci : b = Flt.inf64
  · have e : Flt.nxt64 b = told64 (Flt.w64 b) := by rw [told64_w64 b hb c4]; unfold Flt.nxt64; rw [if_neg c4, if_pos ci]
    rw [e]
    refine next64_of b _ _ (Lib.hid rfl) (Lib.hid (w64_lt b)) w (Lib.hid fun w => nextafter_same _ _ w hn h0 ?_)
    rw [o1, ci]; decide
  have hs : Flt.sr64 b ≠ 9218868437227405312 := by
    unfold Flt.sr64; unfold Flt.inf64 at ci
    obtain ⟨h0, h1⟩ := hb
    split <;> omega
  have n1 : (FloatKind.f64.format.order (Flt.w64 b) 9218868437227405312 == some .eq) = false := by
    rw [o1, if_pos (by omega)]; rfl
  by_cases c0 : Flt.cls64 b = 0
  · have e : Flt.nxt64 b = told64 1 := by unfold Flt.nxt64; rw [if_neg c4, if_neg ci, if_pos c0]; decide
    rw [e]
    refine next64_of b _ 1 (Lib.hid rfl) (Lib.hid (by decide)) w (Lib.hid fun w => nextafter_zero _ w hn n1 ?_)
    rw [o2, hz.1 c0]; decide
  have hs0 : Flt.sr64 b ≠ 0 := fun h => c0 (hz.2 h)
  have n2 : (FloatKind.f64.format.order (Flt.w64 b) 0 == some .eq) = false := by
    rw [o2, if_neg hs0]
    split <;> rfl
  have n3 : (FloatKind.f64.format.order 9218868437227405312 (Flt.w64 b) == some .gt) = true := by
    rw [o3, if_neg (by omega), if_neg (by omega)]; rfl
  have hb' := hb
  obtain ⟨b0, b1⟩ := hb'
  by_cases cn : b < 0
  · have hneg : Flt.sr64 b < 0 := by unfold Flt.sr64 at hs0 ⊢; rw [if_pos cn] at hs0 ⊢; omega
    have hsr : Flt.sr64 b = -(b + 9223372036854775808) := by unfold Flt.sr64; rw [if_pos cn]
    have hI : Flt.I64 (b - 1) := ⟨by omega, by omega⟩
    have hc1 : ¬ Flt.cls64 (b - 1) = 4 := by
      intro h
      unfold Flt.cls64 at h
      by_cases c : (b - 1) / 4503599627370496 % 2048 = 2047
      · rw [if_pos c] at h; split at h <;> omega
      · rw [if_neg c] at h; (repeat' split at h) <;> omega
    have e : Flt.nxt64 b = told64 (Flt.w64 (b - 1)) := by rw [told64_w64 _ hI hc1]; unfold Flt.nxt64; rw [if_neg c4, if_neg ci, if_neg c0, if_pos cn]
    rw [e]
    have ex : Flt.w64 (b - 1) = (IntKind.u64.wrap ((Flt.w64 b : Int) - 1)).toNat := by
      rw [IntKind.wrap_u64]; unfold Flt.w64; omega
    refine next64_of b _ _ (Lib.hid rfl) (Lib.hid (w64_lt _)) w (Lib.hid fun w => ?_)
    rw [ex]
    refine nextafter_down _ _ w hn h0 n1 n2 n3 ?_
    rw [o2, if_pos hneg]; rfl
  · have hpos : 0 < Flt.sr64 b := by unfold Flt.sr64 at hs0 ⊢; rw [if_neg cn] at hs0 ⊢; omega
    have hsr : Flt.sr64 b = b := by unfold Flt.sr64; rw [if_neg cn]
    have hI : Flt.I64 (b + 1) := ⟨by omega, by omega⟩
    have hc1 : ¬ Flt.cls64 (b + 1) = 4 := by
      intro h
      unfold Flt.cls64 at h
      by_cases c : (b + 1) / 4503599627370496 % 2048 = 2047
      · rw [if_pos c] at h; split at h <;> omega
      · rw [if_neg c] at h; (repeat' split at h) <;> omega
    have e : Flt.nxt64 b = told64 (Flt.w64 (b + 1)) := by rw [told64_w64 _ hI hc1]; unfold Flt.nxt64; rw [if_neg c4, if_neg ci, if_neg c0, if_neg cn]
    rw [e]
    have ex : Flt.w64 (b + 1) = (IntKind.u64.wrap ((Flt.w64 b : Int) + 1)).toNat := by
      rw [IntKind.wrap_u64]; unfold Flt.w64; omega
    refine next64_of b _ _ (Lib.hid rfl) (Lib.hid (w64_lt _)) w (Lib.hid fun w => ?_)
    rw [ex]
    refine nextafter_up _ _ w hn h0 n1 n2 n3 ?_
    rw [o2, if_neg (by omega), if_neg hs0]; rfl

theorem next32_any (b : Int) : Tells 29 #[.int .i64 b, .int .i64 32] (.int .i64 (Flt.nxt32 b)) := by
  intro w
  by_cases c4 : Flt.cls32 b = 4
  · have e : Flt.nxt32 b = Flt.nan32 := by unfold Flt.nxt32; rw [if_pos c4]
    have hna : Flt.isNaN Ieee.single (Flt.w32 b) = true := by rw [Flt.w32_nan]; exact decide_eq_true c4
    obtain ⟨r, hr, hrn, hrun⟩ := f32to64_nan (Flt.w32 b) hna w
    obtain ⟨s, hs, hsn, hrun2⟩ := f64to32_nan 9221120237041090561 (by decide) w.drew
    have es : told32 s = Flt.nan32 := told32_nan hsn
    rw [e, ← es]
    have ho : (FloatKind.f64.format.order r r != some .eq) = true := by
      have := Flt.order_self Ieee.double Flt.ok_double r
      rw [hrn] at this; exact this
    refine (next32_of b _ s w w.drew.drew (Lib.hid rfl) (Lib.hid hs) (Lib.hid (next32_nan _ r _ s w hrun ho hrun2))).mono ?_
    rintro e w' ⟨he, rfl⟩
    exact ⟨he, (Below.refl _ _).drew.drew⟩
  have hn1 : Flt.isNaN Ieee.single (Flt.w32 b) = false := Flt.w32_num c4
  have hcv := f32to64 (Flt.w32 b) hn1
  have hn : (FloatKind.f64.format.order (Flt.wide (Flt.w32 b)) (Flt.wide (Flt.w32 b)) != some .eq) = false := by
    have := Flt.order_self Ieee.double Flt.ok_double (Flt.wide (Flt.w32 b))
    rw [Flt.wide_num _ hn1] at this; exact this
  have hv := Flt.valid_of_cls c4
  have hv' : 0 ≤ b ∧ b < 4294967296 := by unfold Flt.valid32 at hv; simpa using hv
  have hr := Flt.sr32_le b c4
  have hz := Flt.cls32_zero b hv
  have o1 : FloatKind.f32.format.order (Flt.w32 b) 2139095040 = some (compare (Flt.sr32 b) 2139095040) := by
    rw [w32_inf, ord32 b Flt.inf32 c4 (by decide)]; rfl
  have o2 : FloatKind.f32.format.order (Flt.w32 b) 0 = some (compare (Flt.sr32 b) 0) := by
    rw [w32_0, ord32 b 0 c4 (by decide)]; rfl
  have o3 : FloatKind.f32.format.order 2139095040 (Flt.w32 b) = some (compare 2139095040 (Flt.sr32 b)) := by
    rw [w32_inf, ord32 Flt.inf32 b (by decide) c4]; rfl
  rw [Flt.compare_int] at o1 o2 o3
  have same : ∀ {e : Ending} {w' : World} {v : Value}, e = .returned v ∧ w = w' → e = .returned v ∧ Below w.heap.size w w' := fun ⟨he, hw⟩ => ⟨he, hw ▸ Below.refl _ _⟩
  by_cases ci : b = Flt.inf32
  · have e : Flt.nxt32 b = told32 (Flt.w32 b) := by rw [told32_w32 b c4]; unfold Flt.nxt32; rw [if_neg c4, if_pos ci]
    rw [e]
    refine (next32_of b _ _ w w (Lib.hid rfl) (Lib.hid (Flt.w32_lt b)) (Lib.hid (next32_same _ _ w hcv hn ?_))).mono fun _ _ h => same h
    rw [o1, ci]; decide
  have hs : Flt.sr32 b ≠ 2139095040 := by
    unfold Flt.sr32; unfold Flt.inf32 at ci
    split <;> omega
  have n1 : (FloatKind.f32.format.order (Flt.w32 b) 2139095040 == some .eq) = false := by
    rw [o1, if_pos (by omega)]; rfl
  by_cases c0 : Flt.cls32 b = 0
  · have e : Flt.nxt32 b = told32 1 := by unfold Flt.nxt32; rw [if_neg c4, if_neg ci, if_pos c0]; decide
    rw [e]
    refine (next32_of b _ 1 w w (Lib.hid rfl) (Lib.hid (by decide)) (Lib.hid (next32_zero _ _ w hcv hn n1 ?_))).mono fun _ _ h => same h
    rw [o2, hz.1 c0]; decide
  have hs0 : Flt.sr32 b ≠ 0 := fun h => c0 (hz.2 h)
  have n2 : (FloatKind.f32.format.order (Flt.w32 b) 0 == some .eq) = false := by
    rw [o2, if_neg hs0]
    split <;> rfl
  have n3 : (FloatKind.f32.format.order 2139095040 (Flt.w32 b) == some .gt) = true := by
    rw [o3, if_neg (by omega), if_neg (by omega)]; rfl
  by_cases cn : 2147483648 ≤ b
  · have hneg : Flt.sr32 b < 0 := by unfold Flt.sr32 at hs0 ⊢; rw [if_pos cn] at hs0 ⊢; omega
    have hsr : Flt.sr32 b = -(b - 2147483648) := by unfold Flt.sr32; rw [if_pos cn]
    have hvv : Flt.valid32 (b - 1) = true := by unfold Flt.valid32; rw [decide_eq_true (by omega), decide_eq_true (by omega)]; rfl
    have hc1 : ¬ Flt.cls32 (b - 1) = 4 := by
      intro h
      unfold Flt.cls32 at h
      rw [if_pos hvv] at h
      by_cases c : (b - 1) / 8388608 % 256 = 255
      · rw [if_pos c] at h; split at h <;> omega
      · rw [if_neg c] at h; (repeat' split at h) <;> omega
    have e : Flt.nxt32 b = told32 (Flt.w32 (b - 1)) := by rw [told32_w32 _ hc1]; unfold Flt.nxt32; rw [if_neg c4, if_neg ci, if_neg c0, if_pos cn]
    rw [e]
    have ex : Flt.w32 (b - 1) = (IntKind.u32.wrap ((Flt.w32 b : Int) - 1)).toNat := by
      rw [IntKind.wrap_u32]; unfold Flt.w32; rw [if_pos hv, if_pos hvv]; omega
    refine (next32_of b _ _ w w (Lib.hid rfl) (Lib.hid (Flt.w32_lt _)) (Lib.hid ?_)).mono fun _ _ h => same h
    rw [ex]
    refine next32_down _ _ w hcv hn n1 n2 n3 ?_
    rw [o2, if_pos hneg]; rfl
  · have hpos : 0 < Flt.sr32 b := by unfold Flt.sr32 at hs0 ⊢; rw [if_neg cn] at hs0 ⊢; omega
    have hsr : Flt.sr32 b = b := by unfold Flt.sr32; rw [if_neg cn]
    have hvv : Flt.valid32 (b + 1) = true := by unfold Flt.valid32; rw [decide_eq_true (by omega), decide_eq_true (by omega)]; rfl
    have hc1 : ¬ Flt.cls32 (b + 1) = 4 := by
      intro h
      unfold Flt.cls32 at h
      rw [if_pos hvv] at h
      by_cases c : (b + 1) / 8388608 % 256 = 255
      · rw [if_pos c] at h; split at h <;> omega
      · rw [if_neg c] at h; (repeat' split at h) <;> omega
    have e : Flt.nxt32 b = told32 (Flt.w32 (b + 1)) := by rw [told32_w32 _ hc1]; unfold Flt.nxt32; rw [if_neg c4, if_neg ci, if_neg c0, if_neg cn]
    rw [e]
    have ex : Flt.w32 (b + 1) = (IntKind.u32.wrap ((Flt.w32 b : Int) + 1)).toNat := by
      rw [IntKind.wrap_u32]; unfold Flt.w32; rw [if_pos hv, if_pos hvv]; omega
    refine (next32_of b _ _ w w (Lib.hid rfl) (Lib.hid (Flt.w32_lt _)) (Lib.hid ?_)).mono fun _ _ h => same h
    rw [ex]
    refine next32_up _ _ w hcv hn n1 n2 n3 ?_
    rw [o2, if_neg (by omega), if_neg hs0]; rfl

theorem next_any (b v : Int) (hb : Flt.I64 b) : Tells 29 #[.int .i64 b, .int .i64 v] (.int .i64 (Flt.nxt b v)) := by
  unfold Flt.nxt
  by_cases h : v = 64
  · subst h; rw [if_pos rfl]; exact next64_any b hb
  · rw [if_neg h]
    by_cases h2 : v = 32
    · subst h2; rw [if_pos rfl]; exact next32_any b
    · rw [if_neg h2]
      exact tells_of fun w => next_no b v w (beq_eq_false_iff_ne.2 h) (beq_eq_false_iff_ne.2 h2)
end Go.Proofs.Ytjogbiopbobifaa
