/- Package bits: the sign turned, left away, the one pattern of a value, the lesser neighbour: what they tell. -/
import Derived.Test.YtjogbiopbobifaaSpecB
import Derived.Test.YtjogbiopbobifaaFBitsNeg
import Derived.Test.YtjogbiopbobifaaFBitsAbs
import Derived.Test.YtjogbiopbobifaaFBitsCanon
namespace Go.Proofs.Ytjogbiopbobifaa
open Go.RowKit Go.Proofs.YtjogbiopbobifaaW.PrintWords

theorem neg_f (b v : Int) (hb : Flt.I64 b) : F.bits_Neg.f 1 b v = some (Flt.nneg b v) := by
  unfold F.bits_Neg.f F.bits_nan.f Flt.nneg
  by_cases h : v = 64
  · subst h
    unfold F.bits_of.f
    simp only [if_true, Option.bind_some, cls_f64, show ¬ (64 : Int) = 32 by decide, if_false]
    unfold Flt.nneg64
    by_cases c : Flt.cls64 b = 4
    · simp only [c, if_true]; rfl
    · simp only [c, if_false, Flt.i64_xor_sign b hb.1 hb.2]
  · by_cases h2 : v = 32
    · subst h2
      unfold F.bits_of.f
      simp only [if_true, Option.bind_some, cls_f32, show ¬ (32 : Int) = 64 by decide, if_false]
      unfold Flt.nneg32
      by_cases c : Flt.cls32 b = 4
      · simp only [c, if_true]; rfl
      · have hv := Flt.valid_bounds (Flt.valid_of_cls c)
        simp only [c, if_false, Flt.i64_xor_sign32 b hv.1 hv.2]
    · rw [of_no v h h2, if_neg h2, if_neg h, if_neg h2]; rfl
theorem abs_f (b v : Int) (hb : Flt.I64 b) : F.bits_Abs.f 1 b v = some (Flt.nabs b v) := by
  unfold F.bits_Abs.f F.bits_nan.f Flt.nabs
  by_cases h : v = 64
  · subst h
    unfold F.bits_of.f
    simp only [if_true, Option.bind_some, cls_f64, show ¬ (64 : Int) = 32 by decide, if_false]
    unfold Flt.nabs64
    by_cases c : Flt.cls64 b = 4
    · simp only [c, if_true]; rfl
    · simp only [c, if_false, Flt.i64_andNot_sign b hb.1 hb.2]
  · by_cases h2 : v = 32
    · subst h2
      unfold F.bits_of.f
      simp only [if_true, Option.bind_some, cls_f32, show ¬ (32 : Int) = 64 by decide, if_false]
      unfold Flt.nabs32
      by_cases c : Flt.cls32 b = 4
      · simp only [c, if_true]; rfl
      · have hv := Flt.valid_bounds (Flt.valid_of_cls c)
        simp only [c, if_false, Flt.i64_andNot_sign32 b hv.1 hv.2]
    · rw [of_no v h h2, if_neg h2, if_neg h, if_neg h2]; rfl
theorem canon_f (b v : Int) : F.bits_Canon.f 2 b v = some (Flt.ncan b v) := by
  unfold F.bits_Canon.f Flt.ncan
  by_cases h : v = 64
  · subst h
    simp only [if_true, F.bits_Canon.j0, Option.bind_some, cls_f64, show ¬ (64 : Int) = 32 by decide, if_false, Bool.false_eq_true]
    unfold Flt.ncan64
    by_cases c : Flt.cls64 b = 4
    · simp only [c, if_true, F.bits_nan.f]; rfl
    · simp only [c, if_false]
      split <;> rfl
  · by_cases h2 : v = 32
    · subst h2
      simp only [if_true, F.bits_Canon.j0, Option.bind_some, cls_f32, show ¬ (32 : Int) = 64 by decide, if_false, bne_self_eq_false, Bool.false_eq_true]
      unfold Flt.ncan32
      by_cases c : Flt.cls32 b = 4
      · simp only [c, if_true, F.bits_nan.f]; rfl
      · simp only [c, if_false]
        split <;> rfl
    · rw [if_neg h, if_neg h, if_neg h2]
      simp only [F.bits_Canon.j0, bne_iff_ne.2 h2, if_true]
theorem neg_any (b v : Int) (hb : Flt.I64 b) : Tells 45 #[.int .i64 b, .int .i64 v] (.int .i64 (Flt.nneg b v)) := fun w => F.bits_Neg.calls 1 b v _ w (neg_f b v hb)
theorem abs_any (b v : Int) (hb : Flt.I64 b) : Tells 57 #[.int .i64 b, .int .i64 v] (.int .i64 (Flt.nabs b v)) := fun w => F.bits_Abs.calls 1 b v _ w (abs_f b v hb)
theorem canon_any (b v : Int) : Tells 59 #[.int .i64 b, .int .i64 v] (.int .i64 (Flt.ncan b v)) := fun w => F.bits_Canon.calls 2 b v _ w (canon_f b v)

set_option maxRecDepth 100000 in
set_option maxHeartbeats 1000000 in
theorem prev_any (b v : Int) (hb : Flt.I64 b) : Tells 31 #[.int .i64 b, .int .i64 v] (.int .i64 (Flt.nprev b v)) := by
  intro w
  have P1 := Lib.hid (neg_any b v hb)
  have P2 := Lib.hid (next_any (Flt.nneg b v) v (Flt.I64_nneg b v hb))
  have P3 := Lib.hid (neg_any (Flt.nxt (Flt.nneg b v) v) v (Flt.I64_nxt _ v (Flt.I64_nneg b v hb)))
  have E : Flt.nprev b v = Flt.nneg (Flt.nxt (Flt.nneg b v) v) v := rfl
  rw [E]
  clear E hb
  generalize Flt.nneg (Flt.nxt (Flt.nneg b v) v) v = z at *
  generalize Flt.nxt (Flt.nneg b v) v = y at *
  generalize Flt.nneg b v = x at *
  have HB : Below w.heap.size w w := Below.refl _ _
  go_enter Try.func31, Try.ntmps31
  go_wp2_with fail
  refine (P1.out _).mono ?_
  rintro e w1 ⟨rfl, hb1⟩
  replace HB := below_on HB hb1
  clear hb1
  go_wp2_with fail
  refine (P2.out _).mono ?_
  rintro e w1 ⟨rfl, hb1⟩
  replace HB := below_on HB hb1
  clear hb1
  go_wp2_with fail
  refine (P3.out _).mono ?_
  rintro e w1 ⟨rfl, hb1⟩
  replace HB := below_on HB hb1
  clear hb1
  go_wp2_with fail
  go_ret
  exact ⟨rfl, HB⟩
end Go.Proofs.Ytjogbiopbobifaa
