/- The document's own answers of chapter 1: the order of all. -/
import Derived.Test.YtjogbiopbobifaaRefT
import Derived.Test.YtjogbiopbobifaaOrderB
import Derived.Test.YtjogbiopbobifaaFPupilref1KindPlace
import Derived.Deep.RegionHeld3
namespace Go.Proofs.Ytjogbiopbobifaa
open Go.RowKit Go.Proofs.YtjogbiopbobifaaW.PrintWords

/-- a width's kind lies in block g -/
abbrev KS (g : Nat) (k0 k1 k2 k3 k4 k5 k6 k7 k8 : Int) (w0 w' : World) : Prop :=
  w'.cell? ⟨g, 0, none⟩ = some (.int .i64 k0) ∧ w'.cell? ⟨g, 1, none⟩ = some (.int .i64 k1) ∧ w'.cell? ⟨g, 2, none⟩ = some (.int .i64 k2) ∧ w'.cell? ⟨g, 3, none⟩ = some (.int .i64 k3) ∧ w'.cell? ⟨g, 4, none⟩ = some (.int .i64 k4) ∧ w'.cell? ⟨g, 5, none⟩ = some (.int .i64 k5) ∧ w'.cell? ⟨g, 6, none⟩ = some (.int .i64 k6) ∧ w'.cell? ⟨g, 7, none⟩ = some (.int .i64 k7) ∧ w'.cell? ⟨g, 8, none⟩ = some (.int .i64 k8) ∧ g < w'.heap.size ∧ Below w0.heap.size w0 w'
section
variable {g : Nat} {k0 k1 k2 k3 k4 k5 k6 k7 k8 : Int} {w0 w1 w2 : World}
theorem KS.on (h : KS g k0 k1 k2 k3 k4 k5 k6 k7 k8 w0 w1) (hb : Below w1.heap.size w1 w2) : KS g k0 k1 k2 k3 k4 k5 k6 k7 k8 w0 w2 := by
  obtain ⟨h0, h1, h2, h3, h4, h5, h6, h7, h8, hg, hB⟩ := h
  have c := (bcell hb).1
  exact ⟨(c g 0 hg).trans h0, (c g 1 hg).trans h1, (c g 2 hg).trans h2, (c g 3 hg).trans h3, (c g 4 hg).trans h4, (c g 5 hg).trans h5, (c g 6 hg).trans h6, (c g 7 hg).trans h7, (c g 8 hg).trans h8, Nat.lt_of_lt_of_le hg hb.size, below_on hB hb⟩
theorem KS.drew (h : KS g k0 k1 k2 k3 k4 k5 k6 k7 k8 w0 w1) : KS g k0 k1 k2 k3 k4 k5 k6 k7 k8 w0 w1.drew := by
  obtain ⟨h0, h1, h2, h3, h4, h5, h6, h7, h8, hg, hB⟩ := h
  exact ⟨h0, h1, h2, h3, h4, h5, h6, h7, h8, hg, hB.drew⟩
theorem KS.first (h : Below w0.heap.size w0 w1) : KS w1.heap.size k0 k1 k2 k3 k4 k5 k6 k7 k8 w0 (w1.alloc (.cells #[.int .i64 k0, .int .i64 k1, .int .i64 k2, .int .i64 k3, .int .i64 k4, .int .i64 k5, .int .i64 k6, .int .i64 k7, .int .i64 k8] 65)) := by
  refine ⟨?_, ?_, ?_, ?_, ?_, ?_, ?_, ?_, ?_, by simp, h.alloc h.size _⟩ <;> simp [World.cell?_alloc_new]
theorem KS.below (h : KS g k0 k1 k2 k3 k4 k5 k6 k7 k8 w0 w1) : Below w0.heap.size w0 w1 := h.2.2.2.2.2.2.2.2.2.2
end

/-- where a pattern stands, as the document counts -/
def Flt.plc64 (b : Int) : Int := if b < 0 then -(b + 9223372036854775808) - 1 else b
def Flt.plc32 (b : Int) : Int := if 2147483648 ≤ b then -(b - 2147483648) - 1 else b
theorem place64_f (b : Int) (hb : Flt.I64 b) : F.pupilref1_Kind_place.f 1 64 53 4503599627370496 2047 (-1074) 1024 9218868437227405312 (-9223372036854775808) 9221120237041090561 b = some (Flt.plc64 b) := by
  unfold F.pupilref1_Kind_place.f
  rw [rnegative64 1 b hb]
  obtain ⟨h0, h1⟩ := hb
  unfold Flt.plc64
  by_cases n : b < 0
  · have e : wrap64 (wrap64 (-wrap64 (b - -9223372036854775808)) - 1) = -(b + 9223372036854775808) - 1 := by unfold wrap64; omega
    rw [if_pos n, ← e]; simp [n]
  · rw [if_neg n]; simp [n]
theorem place32_f (b : Int) (hv : Flt.valid32 b = true) : F.pupilref1_Kind_place.f 1 32 24 8388608 255 (-149) 128 2139095040 2147483648 2143289345 b = some (Flt.plc32 b) := by
  unfold F.pupilref1_Kind_place.f
  rw [rnegative32 0 b hv]
  have h := Flt.valid_bounds hv
  unfold Flt.plc32 Flt.neg32
  by_cases n : 2147483648 ≤ b
  · have e : wrap64 (wrap64 (-wrap64 (b - 2147483648)) - 1) = -(b - 2147483648) - 1 := by unfold wrap64; omega
    rw [if_pos n, ← e]; simp [n]
  · rw [if_neg n]; simp [n]
theorem place64_any (b : Int) (hb : Flt.I64 b) : Tells 101 #[.agg #[.int .i64 64, .int .i64 53, .int .i64 4503599627370496, .int .i64 2047, .int .i64 (-1074), .int .i64 1024, .int .i64 9218868437227405312, .int .i64 (-9223372036854775808), .int .i64 9221120237041090561], .int .i64 b] (.int .i64 (Flt.plc64 b)) :=
  fun w => F.pupilref1_Kind_place.calls 1 _ _ _ _ _ _ _ _ _ b _ w (place64_f b hb)
theorem place32_any (b : Int) (hb : Flt.valid32 b = true) : Tells 101 #[.agg #[.int .i64 32, .int .i64 24, .int .i64 8388608, .int .i64 255, .int .i64 (-149), .int .i64 128, .int .i64 2139095040, .int .i64 2147483648, .int .i64 2143289345], .int .i64 b] (.int .i64 (Flt.plc32 b)) :=
  fun w => F.pupilref1_Kind_place.calls 1 _ _ _ _ _ _ _ _ _ b _ w (place32_f b hb)

set_option maxRecDepth 100000 in
set_option maxHeartbeats 2000000 in
theorem rorder64_lt (a b ca cb : Int) (ha : Hid (Flt.I64 a)) (hb : Hid (Flt.I64 b)) (hA : Hid (Tells 47 #[.int .i64 a, .int .i64 64] (.int .i64 ca))) (hB : Hid (Tells 47 #[.int .i64 b, .int .i64 64] (.int .i64 cb)))
    (c1 : (ca == 4) = false) (c2 : (cb == 4) = false) (q : Flt.plc64 a < Flt.plc64 b) :
    Tells 70 #[.int .i64 a, .int .i64 b, .int .i64 64] (.int .i64 (-1)) := by
  intro w
  have HB : Below w.heap.size w w := Below.refl _ _
  go_enter Try.func70, Try.ntmps70
  go_wp2_with fail
  refine (F.pupilref1_Of.calls 64 64 53 4503599627370496 2047 (-1074) 1024 9218868437227405312 (-9223372036854775808) 9221120237041090561 true _ rfl).mono ?_
  rintro e w1 ⟨rfl, hb1⟩
  have hk := KS.first (k0 := 64) (k1 := 53) (k2 := 4503599627370496) (k3 := 2047) (k4 := (-1074)) (k5 := 1024) (k6 := 9218868437227405312) (k7 := (-9223372036854775808)) (k8 := 9221120237041090561) hb1
  clear hb1 HB
  have HK := Lib.hid hk
  clear hk
  go_wp2_with fail
  refine (hA.out _).mono ?_
  rintro e w2 ⟨rfl, hb1⟩
  have hk := HK.out.on hb1
  clear hb1 HK
  have HK := Lib.hid hk
  clear hk
  go_wp2_with fail
  refine (hB.out _).mono ?_
  rintro e w3 ⟨rfl, hb1⟩
  have hk := HK.out.on hb1
  clear hb1 HK
  go_wp2_with fail
  go_region_held3 (fun w' => KS w1.heap.size 64 53 4503599627370496 2047 (-1074) 1024 9218868437227405312 (-9223372036854775808) 9221120237041090561 w w') (first | exact KS.drew (by assumption) | exact KS.on (by assumption) (by assumption)) (first | (go_at_call 101; refine (place64_any _ (by first | exact ha.out | exact hb.out) _).mono ?_; rintro e wq ⟨rfl, hbq⟩))
  go_wp2_with fail
  go_ret
  exact ⟨rfl, KS.below (by assumption)⟩

set_option maxRecDepth 100000 in
set_option maxHeartbeats 2000000 in
theorem rorder64_gt (a b ca cb : Int) (ha : Hid (Flt.I64 a)) (hb : Hid (Flt.I64 b)) (hA : Hid (Tells 47 #[.int .i64 a, .int .i64 64] (.int .i64 ca))) (hB : Hid (Tells 47 #[.int .i64 b, .int .i64 64] (.int .i64 cb)))
    (c1 : (ca == 4) = false) (c2 : (cb == 4) = false) (q : Flt.plc64 b < Flt.plc64 a) :
    Tells 70 #[.int .i64 a, .int .i64 b, .int .i64 64] (.int .i64 1) := by
  intro w
  have HB : Below w.heap.size w w := Below.refl _ _
  go_enter Try.func70, Try.ntmps70
  go_wp2_with fail
  refine (F.pupilref1_Of.calls 64 64 53 4503599627370496 2047 (-1074) 1024 9218868437227405312 (-9223372036854775808) 9221120237041090561 true _ rfl).mono ?_
  rintro e w1 ⟨rfl, hb1⟩
  have hk := KS.first (k0 := 64) (k1 := 53) (k2 := 4503599627370496) (k3 := 2047) (k4 := (-1074)) (k5 := 1024) (k6 := 9218868437227405312) (k7 := (-9223372036854775808)) (k8 := 9221120237041090561) hb1
  clear hb1 HB
  have HK := Lib.hid hk
  clear hk
  go_wp2_with fail
  refine (hA.out _).mono ?_
  rintro e w2 ⟨rfl, hb1⟩
  have hk := HK.out.on hb1
  clear hb1 HK
  have HK := Lib.hid hk
  clear hk
  go_wp2_with fail
  refine (hB.out _).mono ?_
  rintro e w3 ⟨rfl, hb1⟩
  have hk := HK.out.on hb1
  clear hb1 HK
  go_wp2_with fail
  go_region_held3 (fun w' => KS w1.heap.size 64 53 4503599627370496 2047 (-1074) 1024 9218868437227405312 (-9223372036854775808) 9221120237041090561 w w') (first | exact KS.drew (by assumption) | exact KS.on (by assumption) (by assumption)) (first | (go_at_call 101; refine (place64_any _ (by first | exact ha.out | exact hb.out) _).mono ?_; rintro e wq ⟨rfl, hbq⟩))
  go_wp2_with fail
  go_region_held3 (fun w' => KS w1.heap.size 64 53 4503599627370496 2047 (-1074) 1024 9218868437227405312 (-9223372036854775808) 9221120237041090561 w w') (first | exact KS.drew (by assumption) | exact KS.on (by assumption) (by assumption)) (first | (go_at_call 101; refine (place64_any _ (by first | exact ha.out | exact hb.out) _).mono ?_; rintro e wq ⟨rfl, hbq⟩))
  go_wp2_with fail
  go_ret
  exact ⟨rfl, KS.below (by assumption)⟩

set_option maxRecDepth 100000 in
set_option maxHeartbeats 2000000 in
theorem rorder64_eq (a b ca cb : Int) (ha : Hid (Flt.I64 a)) (hb : Hid (Flt.I64 b)) (hA : Hid (Tells 47 #[.int .i64 a, .int .i64 64] (.int .i64 ca))) (hB : Hid (Tells 47 #[.int .i64 b, .int .i64 64] (.int .i64 cb)))
    (c1 : (ca == 4) = false) (c2 : (cb == 4) = false) (q : ¬ Flt.plc64 a < Flt.plc64 b) (q2 : ¬ Flt.plc64 b < Flt.plc64 a) :
    Tells 70 #[.int .i64 a, .int .i64 b, .int .i64 64] (.int .i64 0) := by
  intro w
  have HB : Below w.heap.size w w := Below.refl _ _
  go_enter Try.func70, Try.ntmps70
  go_wp2_with fail
  refine (F.pupilref1_Of.calls 64 64 53 4503599627370496 2047 (-1074) 1024 9218868437227405312 (-9223372036854775808) 9221120237041090561 true _ rfl).mono ?_
  rintro e w1 ⟨rfl, hb1⟩
  have hk := KS.first (k0 := 64) (k1 := 53) (k2 := 4503599627370496) (k3 := 2047) (k4 := (-1074)) (k5 := 1024) (k6 := 9218868437227405312) (k7 := (-9223372036854775808)) (k8 := 9221120237041090561) hb1
  clear hb1 HB
  have HK := Lib.hid hk
  clear hk
  go_wp2_with fail
  refine (hA.out _).mono ?_
  rintro e w2 ⟨rfl, hb1⟩
  have hk := HK.out.on hb1
  clear hb1 HK
  have HK := Lib.hid hk
  clear hk
  go_wp2_with fail
  refine (hB.out _).mono ?_
  rintro e w3 ⟨rfl, hb1⟩
  have hk := HK.out.on hb1
  clear hb1 HK
  go_wp2_with fail
  go_region_held3 (fun w' => KS w1.heap.size 64 53 4503599627370496 2047 (-1074) 1024 9218868437227405312 (-9223372036854775808) 9221120237041090561 w w') (first | exact KS.drew (by assumption) | exact KS.on (by assumption) (by assumption)) (first | (go_at_call 101; refine (place64_any _ (by first | exact ha.out | exact hb.out) _).mono ?_; rintro e wq ⟨rfl, hbq⟩))
  go_wp2_with fail
  go_region_held3 (fun w' => KS w1.heap.size 64 53 4503599627370496 2047 (-1074) 1024 9218868437227405312 (-9223372036854775808) 9221120237041090561 w w') (first | exact KS.drew (by assumption) | exact KS.on (by assumption) (by assumption)) (first | (go_at_call 101; refine (place64_any _ (by first | exact ha.out | exact hb.out) _).mono ?_; rintro e wq ⟨rfl, hbq⟩))
  go_wp2_with fail
  go_ret
  exact ⟨rfl, KS.below (by assumption)⟩

set_option maxRecDepth 100000 in
set_option maxHeartbeats 2000000 in
theorem rorder64_nn (a b ca cb : Int) (hA : Hid (Tells 47 #[.int .i64 a, .int .i64 64] (.int .i64 ca))) (hB : Hid (Tells 47 #[.int .i64 b, .int .i64 64] (.int .i64 cb)))
    (c1 : (ca == 4) = true) (c2 : (cb == 4) = true) :
    Tells 70 #[.int .i64 a, .int .i64 b, .int .i64 64] (.int .i64 0) := by
  intro w
  have HB : Below w.heap.size w w := Below.refl _ _
  go_enter Try.func70, Try.ntmps70
  go_wp2_with fail
  refine (F.pupilref1_Of.calls 64 64 53 4503599627370496 2047 (-1074) 1024 9218868437227405312 (-9223372036854775808) 9221120237041090561 true _ rfl).mono ?_
  rintro e w1 ⟨rfl, hb1⟩
  have hk := KS.first (k0 := 64) (k1 := 53) (k2 := 4503599627370496) (k3 := 2047) (k4 := (-1074)) (k5 := 1024) (k6 := 9218868437227405312) (k7 := (-9223372036854775808)) (k8 := 9221120237041090561) hb1
  clear hb1 HB
  have HK := Lib.hid hk
  clear hk
  go_wp2_with fail
  refine (hA.out _).mono ?_
  rintro e w2 ⟨rfl, hb1⟩
  have hk := HK.out.on hb1
  clear hb1 HK
  have HK := Lib.hid hk
  clear hk
  go_wp2_with fail
  refine (hB.out _).mono ?_
  rintro e w3 ⟨rfl, hb1⟩
  have hk := HK.out.on hb1
  clear hb1 HK
  go_wp2_with fail
  go_ret
  exact ⟨rfl, KS.below (by assumption)⟩

set_option maxRecDepth 100000 in
set_option maxHeartbeats 2000000 in
theorem rorder64_nx (a b ca cb : Int) (hA : Hid (Tells 47 #[.int .i64 a, .int .i64 64] (.int .i64 ca))) (hB : Hid (Tells 47 #[.int .i64 b, .int .i64 64] (.int .i64 cb)))
    (c1 : (ca == 4) = true) (c2 : (cb == 4) = false) :
    Tells 70 #[.int .i64 a, .int .i64 b, .int .i64 64] (.int .i64 1) := by
  intro w
  have HB : Below w.heap.size w w := Below.refl _ _
  go_enter Try.func70, Try.ntmps70
  go_wp2_with fail
  refine (F.pupilref1_Of.calls 64 64 53 4503599627370496 2047 (-1074) 1024 9218868437227405312 (-9223372036854775808) 9221120237041090561 true _ rfl).mono ?_
  rintro e w1 ⟨rfl, hb1⟩
  have hk := KS.first (k0 := 64) (k1 := 53) (k2 := 4503599627370496) (k3 := 2047) (k4 := (-1074)) (k5 := 1024) (k6 := 9218868437227405312) (k7 := (-9223372036854775808)) (k8 := 9221120237041090561) hb1
  clear hb1 HB
  have HK := Lib.hid hk
  clear hk
  go_wp2_with fail
  refine (hA.out _).mono ?_
  rintro e w2 ⟨rfl, hb1⟩
  have hk := HK.out.on hb1
  clear hb1 HK
  have HK := Lib.hid hk
  clear hk
  go_wp2_with fail
  refine (hB.out _).mono ?_
  rintro e w3 ⟨rfl, hb1⟩
  have hk := HK.out.on hb1
  clear hb1 HK
  go_wp2_with fail
  go_ret
  exact ⟨rfl, KS.below (by assumption)⟩

set_option maxRecDepth 100000 in
set_option maxHeartbeats 2000000 in
theorem rorder64_xn (a b ca cb : Int) (hA : Hid (Tells 47 #[.int .i64 a, .int .i64 64] (.int .i64 ca))) (hB : Hid (Tells 47 #[.int .i64 b, .int .i64 64] (.int .i64 cb)))
    (c1 : (ca == 4) = false) (c2 : (cb == 4) = true) :
    Tells 70 #[.int .i64 a, .int .i64 b, .int .i64 64] (.int .i64 (-1)) := by
  intro w
  have HB : Below w.heap.size w w := Below.refl _ _
  go_enter Try.func70, Try.ntmps70
  go_wp2_with fail
  refine (F.pupilref1_Of.calls 64 64 53 4503599627370496 2047 (-1074) 1024 9218868437227405312 (-9223372036854775808) 9221120237041090561 true _ rfl).mono ?_
  rintro e w1 ⟨rfl, hb1⟩
  have hk := KS.first (k0 := 64) (k1 := 53) (k2 := 4503599627370496) (k3 := 2047) (k4 := (-1074)) (k5 := 1024) (k6 := 9218868437227405312) (k7 := (-9223372036854775808)) (k8 := 9221120237041090561) hb1
  clear hb1 HB
  have HK := Lib.hid hk
  clear hk
  go_wp2_with fail
  refine (hA.out _).mono ?_
  rintro e w2 ⟨rfl, hb1⟩
  have hk := HK.out.on hb1
  clear hb1 HK
  have HK := Lib.hid hk
  clear hk
  go_wp2_with fail
  refine (hB.out _).mono ?_
  rintro e w3 ⟨rfl, hb1⟩
  have hk := HK.out.on hb1
  clear hb1 HK
  go_wp2_with fail
  go_ret
  exact ⟨rfl, KS.below (by assumption)⟩

set_option maxRecDepth 100000 in
set_option maxHeartbeats 2000000 in
theorem rorder32_lt (a b ca cb : Int) (ha : Hid (Flt.valid32 a = true)) (hb : Hid (Flt.valid32 b = true)) (hA : Hid (Tells 47 #[.int .i64 a, .int .i64 32] (.int .i64 ca))) (hB : Hid (Tells 47 #[.int .i64 b, .int .i64 32] (.int .i64 cb)))
    (c1 : (ca == 4) = false) (c2 : (cb == 4) = false) (q : Flt.plc32 a < Flt.plc32 b) :
    Tells 70 #[.int .i64 a, .int .i64 b, .int .i64 32] (.int .i64 (-1)) := by
  intro w
  have HB : Below w.heap.size w w := Below.refl _ _
  go_enter Try.func70, Try.ntmps70
  go_wp2_with fail
  refine (F.pupilref1_Of.calls 32 32 24 8388608 255 (-149) 128 2139095040 2147483648 2143289345 true _ rfl).mono ?_
  rintro e w1 ⟨rfl, hb1⟩
  have hk := KS.first (k0 := 32) (k1 := 24) (k2 := 8388608) (k3 := 255) (k4 := (-149)) (k5 := 128) (k6 := 2139095040) (k7 := 2147483648) (k8 := 2143289345) hb1
  clear hb1 HB
  have HK := Lib.hid hk
  clear hk
  go_wp2_with fail
  refine (hA.out _).mono ?_
  rintro e w2 ⟨rfl, hb1⟩
  have hk := HK.out.on hb1
  clear hb1 HK
  have HK := Lib.hid hk
  clear hk
  go_wp2_with fail
  refine (hB.out _).mono ?_
  rintro e w3 ⟨rfl, hb1⟩
  have hk := HK.out.on hb1
  clear hb1 HK
  go_wp2_with fail
  go_region_held3 (fun w' => KS w1.heap.size 32 24 8388608 255 (-149) 128 2139095040 2147483648 2143289345 w w') (first | exact KS.drew (by assumption) | exact KS.on (by assumption) (by assumption)) (first | (go_at_call 101; refine (place32_any _ (by first | exact ha.out | exact hb.out) _).mono ?_; rintro e wq ⟨rfl, hbq⟩))
  go_wp2_with fail
  go_ret
  exact ⟨rfl, KS.below (by assumption)⟩

set_option maxRecDepth 100000 in
set_option maxHeartbeats 2000000 in
theorem rorder32_gt (a b ca cb : Int) (ha : Hid (Flt.valid32 a = true)) (hb : Hid (Flt.valid32 b = true)) (hA : Hid (Tells 47 #[.int .i64 a, .int .i64 32] (.int .i64 ca))) (hB : Hid (Tells 47 #[.int .i64 b, .int .i64 32] (.int .i64 cb)))
    (c1 : (ca == 4) = false) (c2 : (cb == 4) = false) (q : Flt.plc32 b < Flt.plc32 a) :
    Tells 70 #[.int .i64 a, .int .i64 b, .int .i64 32] (.int .i64 1) := by
  intro w
  have HB : Below w.heap.size w w := Below.refl _ _
  go_enter Try.func70, Try.ntmps70
  go_wp2_with fail
  refine (F.pupilref1_Of.calls 32 32 24 8388608 255 (-149) 128 2139095040 2147483648 2143289345 true _ rfl).mono ?_
  rintro e w1 ⟨rfl, hb1⟩
  have hk := KS.first (k0 := 32) (k1 := 24) (k2 := 8388608) (k3 := 255) (k4 := (-149)) (k5 := 128) (k6 := 2139095040) (k7 := 2147483648) (k8 := 2143289345) hb1
  clear hb1 HB
  have HK := Lib.hid hk
  clear hk
  go_wp2_with fail
  refine (hA.out _).mono ?_
  rintro e w2 ⟨rfl, hb1⟩
  have hk := HK.out.on hb1
  clear hb1 HK
  have HK := Lib.hid hk
  clear hk
  go_wp2_with fail
  refine (hB.out _).mono ?_
  rintro e w3 ⟨rfl, hb1⟩
  have hk := HK.out.on hb1
  clear hb1 HK
  go_wp2_with fail
  go_region_held3 (fun w' => KS w1.heap.size 32 24 8388608 255 (-149) 128 2139095040 2147483648 2143289345 w w') (first | exact KS.drew (by assumption) | exact KS.on (by assumption) (by assumption)) (first | (go_at_call 101; refine (place32_any _ (by first | exact ha.out | exact hb.out) _).mono ?_; rintro e wq ⟨rfl, hbq⟩))
  go_wp2_with fail
  go_region_held3 (fun w' => KS w1.heap.size 32 24 8388608 255 (-149) 128 2139095040 2147483648 2143289345 w w') (first | exact KS.drew (by assumption) | exact KS.on (by assumption) (by assumption)) (first | (go_at_call 101; refine (place32_any _ (by first | exact ha.out | exact hb.out) _).mono ?_; rintro e wq ⟨rfl, hbq⟩))
  go_wp2_with fail
  go_ret
  exact ⟨rfl, KS.below (by assumption)⟩

set_option maxRecDepth 100000 in
set_option maxHeartbeats 2000000 in
theorem rorder32_eq (a b ca cb : Int) (ha : Hid (Flt.valid32 a = true)) (hb : Hid (Flt.valid32 b = true)) (hA : Hid (Tells 47 #[.int .i64 a, .int .i64 32] (.int .i64 ca))) (hB : Hid (Tells 47 #[.int .i64 b, .int .i64 32] (.int .i64 cb)))
    (c1 : (ca == 4) = false) (c2 : (cb == 4) = false) (q : ¬ Flt.plc32 a < Flt.plc32 b) (q2 : ¬ Flt.plc32 b < Flt.plc32 a) :
    Tells 70 #[.int .i64 a, .int .i64 b, .int .i64 32] (.int .i64 0) := by
  intro w
  have HB : Below w.heap.size w w := Below.refl _ _
  go_enter Try.func70, Try.ntmps70
  go_wp2_with fail
  refine (F.pupilref1_Of.calls 32 32 24 8388608 255 (-149) 128 2139095040 2147483648 2143289345 true _ rfl).mono ?_
  rintro e w1 ⟨rfl, hb1⟩
  have hk := KS.first (k0 := 32) (k1 := 24) (k2 := 8388608) (k3 := 255) (k4 := (-149)) (k5 := 128) (k6 := 2139095040) (k7 := 2147483648) (k8 := 2143289345) hb1
  clear hb1 HB
  have HK := Lib.hid hk
  clear hk
  go_wp2_with fail
  refine (hA.out _).mono ?_
  rintro e w2 ⟨rfl, hb1⟩
  have hk := HK.out.on hb1
  clear hb1 HK
  have HK := Lib.hid hk
  clear hk
  go_wp2_with fail
  refine (hB.out _).mono ?_
  rintro e w3 ⟨rfl, hb1⟩
  have hk := HK.out.on hb1
  clear hb1 HK
  go_wp2_with fail
  go_region_held3 (fun w' => KS w1.heap.size 32 24 8388608 255 (-149) 128 2139095040 2147483648 2143289345 w w') (first | exact KS.drew (by assumption) | exact KS.on (by assumption) (by assumption)) (first | (go_at_call 101; refine (place32_any _ (by first | exact ha.out | exact hb.out) _).mono ?_; rintro e wq ⟨rfl, hbq⟩))
  go_wp2_with fail
  go_region_held3 (fun w' => KS w1.heap.size 32 24 8388608 255 (-149) 128 2139095040 2147483648 2143289345 w w') (first | exact KS.drew (by assumption) | exact KS.on (by assumption) (by assumption)) (first | (go_at_call 101; refine (place32_any _ (by first | exact ha.out | exact hb.out) _).mono ?_; rintro e wq ⟨rfl, hbq⟩))
  go_wp2_with fail
  go_ret
  exact ⟨rfl, KS.below (by assumption)⟩

set_option maxRecDepth 100000 in
set_option maxHeartbeats 2000000 in
theorem rorder32_nn (a b ca cb : Int) (hA : Hid (Tells 47 #[.int .i64 a, .int .i64 32] (.int .i64 ca))) (hB : Hid (Tells 47 #[.int .i64 b, .int .i64 32] (.int .i64 cb)))
    (c1 : (ca == 4) = true) (c2 : (cb == 4) = true) :
    Tells 70 #[.int .i64 a, .int .i64 b, .int .i64 32] (.int .i64 0) := by
  intro w
  have HB : Below w.heap.size w w := Below.refl _ _
  go_enter Try.func70, Try.ntmps70
  go_wp2_with fail
  refine (F.pupilref1_Of.calls 32 32 24 8388608 255 (-149) 128 2139095040 2147483648 2143289345 true _ rfl).mono ?_
  rintro e w1 ⟨rfl, hb1⟩
  have hk := KS.first (k0 := 32) (k1 := 24) (k2 := 8388608) (k3 := 255) (k4 := (-149)) (k5 := 128) (k6 := 2139095040) (k7 := 2147483648) (k8 := 2143289345) hb1
  clear hb1 HB
  have HK := Lib.hid hk
  clear hk
  go_wp2_with fail
  refine (hA.out _).mono ?_
  rintro e w2 ⟨rfl, hb1⟩
  have hk := HK.out.on hb1
  clear hb1 HK
  have HK := Lib.hid hk
  clear hk
  go_wp2_with fail
  refine (hB.out _).mono ?_
  rintro e w3 ⟨rfl, hb1⟩
  have hk := HK.out.on hb1
  clear hb1 HK
  go_wp2_with fail
  go_ret
  exact ⟨rfl, KS.below (by assumption)⟩

set_option maxRecDepth 100000 in
set_option maxHeartbeats 2000000 in
theorem rorder32_nx (a b ca cb : Int) (hA : Hid (Tells 47 #[.int .i64 a, .int .i64 32] (.int .i64 ca))) (hB : Hid (Tells 47 #[.int .i64 b, .int .i64 32] (.int .i64 cb)))
    (c1 : (ca == 4) = true) (c2 : (cb == 4) = false) :
    Tells 70 #[.int .i64 a, .int .i64 b, .int .i64 32] (.int .i64 1) := by
  intro w
  have HB : Below w.heap.size w w := Below.refl _ _
  go_enter Try.func70, Try.ntmps70
  go_wp2_with fail
  refine (F.pupilref1_Of.calls 32 32 24 8388608 255 (-149) 128 2139095040 2147483648 2143289345 true _ rfl).mono ?_
  rintro e w1 ⟨rfl, hb1⟩
  have hk := KS.first (k0 := 32) (k1 := 24) (k2 := 8388608) (k3 := 255) (k4 := (-149)) (k5 := 128) (k6 := 2139095040) (k7 := 2147483648) (k8 := 2143289345) hb1
  clear hb1 HB
  have HK := Lib.hid hk
  clear hk
  go_wp2_with fail
  refine (hA.out _).mono ?_
  rintro e w2 ⟨rfl, hb1⟩
  have hk := HK.out.on hb1
  clear hb1 HK
  have HK := Lib.hid hk
  clear hk
  go_wp2_with fail
  refine (hB.out _).mono ?_
  rintro e w3 ⟨rfl, hb1⟩
  have hk := HK.out.on hb1
  clear hb1 HK
  go_wp2_with fail
  go_ret
  exact ⟨rfl, KS.below (by assumption)⟩

set_option maxRecDepth 100000 in
set_option maxHeartbeats 2000000 in
theorem rorder32_xn (a b ca cb : Int) (hA : Hid (Tells 47 #[.int .i64 a, .int .i64 32] (.int .i64 ca))) (hB : Hid (Tells 47 #[.int .i64 b, .int .i64 32] (.int .i64 cb)))
    (c1 : (ca == 4) = false) (c2 : (cb == 4) = true) :
    Tells 70 #[.int .i64 a, .int .i64 b, .int .i64 32] (.int .i64 (-1)) := by
  intro w
  have HB : Below w.heap.size w w := Below.refl _ _
  go_enter Try.func70, Try.ntmps70
  go_wp2_with fail
  refine (F.pupilref1_Of.calls 32 32 24 8388608 255 (-149) 128 2139095040 2147483648 2143289345 true _ rfl).mono ?_
  rintro e w1 ⟨rfl, hb1⟩
  have hk := KS.first (k0 := 32) (k1 := 24) (k2 := 8388608) (k3 := 255) (k4 := (-149)) (k5 := 128) (k6 := 2139095040) (k7 := 2147483648) (k8 := 2143289345) hb1
  clear hb1 HB
  have HK := Lib.hid hk
  clear hk
  go_wp2_with fail
  refine (hA.out _).mono ?_
  rintro e w2 ⟨rfl, hb1⟩
  have hk := HK.out.on hb1
  clear hb1 HK
  have HK := Lib.hid hk
  clear hk
  go_wp2_with fail
  refine (hB.out _).mono ?_
  rintro e w3 ⟨rfl, hb1⟩
  have hk := HK.out.on hb1
  clear hb1 HK
  go_wp2_with fail
  go_ret
  exact ⟨rfl, KS.below (by assumption)⟩

set_option maxRecDepth 100000 in
set_option maxHeartbeats 2000000 in
theorem rorder_no (a b v ca cb : Int) (hf : Hid (F.pupilref1_Of.f v = some (0, 0, 0, 0, 0, 0, 0, 0, 0, false))) (hA : Hid (Tells 47 #[.int .i64 a, .int .i64 v] (.int .i64 ca))) (hB : Hid (Tells 47 #[.int .i64 b, .int .i64 v] (.int .i64 cb))) :
    Tells 70 #[.int .i64 a, .int .i64 b, .int .i64 v] (.int .i64 0) := by
  intro w
  have HB : Below w.heap.size w w := Below.refl _ _
  go_enter Try.func70, Try.ntmps70
  go_wp2_with fail
  refine (F.pupilref1_Of.calls v 0 0 0 0 0 0 0 0 0 false _ hf.out).mono ?_
  rintro e w1 ⟨rfl, hb1⟩
  have hk := KS.first (k0 := 0) (k1 := 0) (k2 := 0) (k3 := 0) (k4 := 0) (k5 := 0) (k6 := 0) (k7 := 0) (k8 := 0) hb1
  clear hb1 HB
  have HK := Lib.hid hk
  clear hk
  go_wp2_with fail
  refine (hA.out _).mono ?_
  rintro e w2 ⟨rfl, hb1⟩
  have hk := HK.out.on hb1
  clear hb1 HK
  have HK := Lib.hid hk
  clear hk
  go_wp2_with fail
  refine (hB.out _).mono ?_
  rintro e w3 ⟨rfl, hb1⟩
  have hk := HK.out.on hb1
  clear hb1 HK
  go_wp2_with fail
  go_ret
  exact ⟨rfl, KS.below (by assumption)⟩
end Go.Proofs.Ytjogbiopbobifaa
