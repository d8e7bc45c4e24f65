/- What Join does with the pattern that it has made: the plain law. -/
import Derived.Test.YtjogbiopbobifaaJoinD
import Derived.Test.YtjogbiopbobifaaSpecB
namespace Go.Proofs.Ytjogbiopbobifaa
open Go.RowKit

namespace Flt
open Ieee
theorem Rep.range {mag : Nat} {E : Int} {r : Nat} (h : Rep double mag E r) (hm : mag < 9223372036854775808) (e0 : -3000 ≤ E) : -1200 < E ∧ E < 1100 := by
  have h0 := h.mag_pos
  obtain ⟨p, q, k⟩ := h
  have hK := K_eq
  have hr1 : 1 ≤ val double.binade r := by
    have := val_lt_of_lt (binade_pos double) p
    omega
  constructor
  · rcases Int.lt_or_le (-1200) E with h | h
    · exact h
    · exfalso
      have b1 : sc mag E < sc 9223372036854775808 E := sc_lt hm
      have b2 : sc 9223372036854775808 E = sc 1 (E + 63) := by
        have := sc_shift 1 63 E (by omega)
        rw [show 1 * 2 ^ 63 = 9223372036854775808 from rfl] at this
        rw [this]; congr 1
      have b3 : sc 1 (E + 63) ≤ sc (val double.binade r) double.leastPlace := sc_le hr1 (by rw [dplace]; omega)
      omega
  · rcases Int.lt_or_le E 1100 with h | h
    · exact h
    · exfalso
      have b1 : sc (val double.binade r) double.leastPlace < sc (val double.binade double.infRung) double.leastPlace := sc_lt (val_lt_of_lt (binade_pos double) q)
      have b2 : sc (val double.binade double.infRung) double.leastPlace = sc 4503599627370496 972 := by
        rw [val_sc double dK, dplace]
        have : mg double double.infRung = 4503599627370496 ∧ ex double double.infRung = 2046 := by decide
        rw [this.1, this.2]; rfl
      have b4 : sc 4503599627370496 972 = sc 1 1024 := by
        have := sc_shift 1 52 972 (by omega)
        rw [show 1 * 2 ^ 52 = 4503599627370496 from rfl] at this
        rw [this]; rfl
      have b3 : sc 1 1024 ≤ sc mag E := sc_le h0 (by omega)
      omega
/-- a number of binary32 is one of binary64 -/
theorem Rep.wide {mag : Nat} {E : Int} {r : Nat} (h : Rep single mag E r) : ∃ R, Rep double mag E R ∧ val double.binade R = val single.binade r * 2 ^ gapW := by
  obtain ⟨p, q, k⟩ := h
  have hs : r % single.signWeight = r := Nat.mod_eq_of_lt (Nat.lt_trans q ok_single.2.2)
  obtain ⟨R, h1, h2, h3⟩ := wide_fin r (by rw [hs]; exact q)
  rw [hs] at h2
  refine ⟨R, ⟨?_, h1, ?_⟩, h2⟩
  · rcases Nat.eq_zero_or_pos R with h0 | h0
    · exfalso
      rw [h0] at h2
      have z : val double.binade 0 = 0 := by unfold val; rw [if_pos (binade_pos double)]
      have hv : 1 ≤ val single.binade r := by
        have := val_lt_of_lt (binade_pos single) p
        omega
      have := Nat.mul_le_mul_right (2 ^ gapW) hv
      have := Nat.two_pow_pos gapW
      omega
    · exact h0
  · rw [k, h2, sc_shift _ _ _ dK, dplace, splace]
    have := gapW_eq
    congr 1
end Flt

namespace Flt
open Ieee
/-- a finite pattern's rung -/
def rung64 (b : Int) : Nat := (b % 9223372036854775808).toNat
theorem parts64_rung (b : Int) (hb : I64 b) (h : fin b 64 = true) : rung64 b < double.infRung ∧ mag64 b = (mg double (rung64 b) : Int) ∧ exp64 b = double.leastPlace + (ex double (rung64 b) : Int) := by
  have hc : cls64 b ≤ 2 := by
    unfold fin cls at h
    simpa using h
  obtain ⟨l0, l1⟩ := hb
  unfold rung64 mag64 exp64 mg ex
  rw [dfields.2.1, dfields.2.2, dplace]
  unfold cls64 at hc
  by_cases c : b / 4503599627370496 % 2048 = 2047
  · rw [if_pos c] at hc; split at hc <;> omega
  · by_cases z : b / 4503599627370496 % 2048 = 0
    · rw [if_pos z, if_pos z, if_pos (by omega)]
      refine ⟨by omega, by omega, by omega⟩
    · rw [if_neg z, if_neg z, if_neg (by omega)]
      refine ⟨by omega, by omega, by omega⟩
end Flt
theorem outcome64_no (b mag E : Int) (hb : Flt.I64 b) (m0 : 0 < mag) (m1 : mag < 9223372036854775808) (e0 : -3000 ≤ E) (e1 : E ≤ 3000) (hr : ∀ r, ¬ Flt.Rep Ieee.double mag.toNat E r) : Outcome b 64 mag E (-1074) 0 false := by
  have hP := parts_any b 64 hb
  unfold partsV at hP
  by_cases hf : Flt.fin b 64 = true
  · obtain ⟨h1, h2, h3⟩ := Flt.parts64_rung b hb hf
    unfold Flt.pmag Flt.pexp at hP
    rw [hf, if_pos rfl, if_pos rfl] at hP
    have q1 : Flt.mag b 64 = Flt.mag64 b := rfl
    have q2 : Flt.exp b 64 = Flt.exp64 b := rfl
    rw [q1, q2] at hP
    by_cases z : Flt.mag64 b = 0
    · rw [z] at hP
      exact .nought _ _ (Lib.hid hP)
    · have zp : 0 < Flt.mg Ieee.double (Flt.rung64 b) := by omega
      have rp : 0 < Flt.rung64 b := by
        rcases Nat.eq_zero_or_pos (Flt.rung64 b) with h | h
        · rw [h] at zp; exact absurd zp (by decide)
        · exact h
      obtain ⟨o, t, a1, a2⟩ := Flt.odd_part (Flt.mg Ieee.double (Flt.rung64 b)) zp
      obtain ⟨o2, t2, a3, a4⟩ := Flt.odd_part mag.toNat (by omega)
      have ml : Flt.mg Ieee.double (Flt.rung64 b) < 2 * 4503599627370496 := by have := Flt.mg_lt Ieee.double (Flt.rung64 b); rw [Flt.dfields.2.2] at this; exact this
      have tb : ∀ o t m : Nat, m = o * 2 ^ t → o % 2 = 1 → m < 2 ^ 63 → t ≤ 63 := by
        intro o t m e ho hm
        rcases Nat.lt_or_ge 63 t with h | h
        · exfalso
          have : 2 ^ 63 ≤ 2 ^ t := Nat.pow_le_pow_right (by omega) (by omega)
          have : 1 * 2 ^ t ≤ o * 2 ^ t := Nat.mul_le_mul_right _ (by omega)
          omega
        · exact h
      have ex0 : (0 : Int) ≤ (Flt.ex Ieee.double (Flt.rung64 b) : Int) := by omega
      have ex1 : Flt.ex Ieee.double (Flt.rung64 b) ≤ 2046 := by
        unfold Flt.ex
        rw [Flt.dfields.2.2]
        rw [Flt.dfields.2.1] at h1
        omega
      have lp : Ieee.double.leastPlace = -1074 := Flt.dplace
      rw [lp] at h3
      have R1 := reduced_any (Flt.mag64 b) o t (Flt.exp64 b) (by rw [h2, a1]) a2 (by omega) (by omega) (tb _ _ _ a1 a2 (by omega))
      have R2 := reduced_any mag o2 t2 E (by rw [← a3]; omega) a4 (by omega) (by omega) (tb _ _ _ a3 a4 (by omega))
      refine .other _ _ _ _ _ _ _ (Lib.hid hP) (beq_eq_false_iff_ne.2 z) (Lib.hid R1) (Lib.hid R2) (Lib.hid ?_)
      rintro ⟨d1, d2⟩
      have d1' : o = o2 := by omega
      refine hr (Flt.rung64 b) ⟨rp, h1, ?_⟩
      have hK := Flt.K_eq
      rw [Flt.val_sc _ (by rw [lp]; omega), a1, a3, Flt.sc_shift _ _ _ (by omega), Flt.sc_shift _ _ _ (by rw [lp]; omega), d1', lp]
      congr 1
      omega
  · unfold Flt.pmag Flt.pexp at hP
    rw [if_neg hf, if_neg hf, Bool.eq_false_iff.2 hf] at hP
    exact .notFinite _ (Lib.hid hP)
theorem outcome64_yes (b mag E : Int) (hb : Flt.I64 b) (m0 : 0 < mag) (m1 : mag < 9223372036854775808) (e0 : -3000 ≤ E) (e1 : E ≤ 3000) (hf : Flt.fin b 64 = true) (hr : Flt.Rep Ieee.double mag.toNat E (Flt.rung64 b)) : Outcome b 64 mag E (-1074) b true := by
  have hP := parts_any b 64 hb
  unfold partsV at hP
  obtain ⟨h1, h2, h3⟩ := Flt.parts64_rung b hb hf
  unfold Flt.pmag Flt.pexp at hP
  rw [hf, if_pos rfl, if_pos rfl] at hP
  have q1 : Flt.mag b 64 = Flt.mag64 b := rfl
  have q2 : Flt.exp b 64 = Flt.exp64 b := rfl
  rw [q1, q2] at hP
  have zp := Flt.mg_pos Ieee.double hr.1
  obtain ⟨o, t, a1, a2⟩ := Flt.odd_part (Flt.mg Ieee.double (Flt.rung64 b)) zp
  obtain ⟨o2, t2, a3, a4⟩ := Flt.odd_part mag.toNat (by omega)
  have ml : Flt.mg Ieee.double (Flt.rung64 b) < 2 * 4503599627370496 := by have := Flt.mg_lt Ieee.double (Flt.rung64 b); rw [Flt.dfields.2.2] at this; exact this
  have tb : ∀ o t m : Nat, m = o * 2 ^ t → o % 2 = 1 → m < 2 ^ 63 → t ≤ 63 := by
    intro o t m e ho hm
    rcases Nat.lt_or_ge 63 t with h | h
    · exfalso
      have : 2 ^ 63 ≤ 2 ^ t := Nat.pow_le_pow_right (by omega) (by omega)
      have : 1 * 2 ^ t ≤ o * 2 ^ t := Nat.mul_le_mul_right _ (by omega)
      omega
    · exact h
  have ex1 : Flt.ex Ieee.double (Flt.rung64 b) ≤ 2046 := by
    unfold Flt.ex
    rw [Flt.dfields.2.2]
    rw [Flt.dfields.2.1] at h1
    omega
  have lp : Ieee.double.leastPlace = -1074 := Flt.dplace
  rw [lp] at h3
  have hK := Flt.K_eq
  have R1 := reduced_any (Flt.mag64 b) o t (Flt.exp64 b) (by rw [h2, a1]) a2 (by omega) (by omega) (tb _ _ _ a1 a2 (by omega))
  have R2 := reduced_any mag o2 t2 E (by rw [← a3]; omega) a4 (by omega) (by omega) (tb _ _ _ a3 a4 (by omega))
  have key := hr.2.2
  rw [Flt.val_sc _ (by rw [lp]; omega), a1, a3, Flt.sc_shift _ _ _ (by omega), Flt.sc_shift _ _ _ (by rw [lp]; omega), lp] at key
  obtain ⟨k1, k2⟩ := Flt.sc_odd a4 a2 (by omega) (by omega) key
  have e1 : (o2 : Int) = (o : Int) := by omega
  have e2 : E + (t2 : Int) = Flt.exp64 b + (t : Int) := by omega
  rw [e1, e2] at R2
  exact .same _ _ _ _ _ (Lib.hid hP) (beq_eq_false_iff_ne.2 (by omega)) (Lib.hid R1) (Lib.hid R2) (by omega)

namespace Flt
open Ieee
/-- a finite pattern's rung -/
def rung32 (b : Int) : Nat := (b % 2147483648).toNat
theorem parts32_rung (b : Int) (hb : valid32 b = true) (h : fin b 32 = true) : rung32 b < single.infRung ∧ mag32 b = (mg single (rung32 b) : Int) ∧ exp32 b = single.leastPlace + (ex single (rung32 b) : Int) := by
  have hc : cls32 b ≤ 2 := by
    unfold fin cls at h
    simpa using h
  obtain ⟨l0, l1⟩ := valid_bounds hb
  unfold rung32 mag32 exp32 mg ex
  rw [sfields.2.1, sfields.2.2, splace]
  unfold cls32 at hc
  rw [if_pos hb] at hc
  by_cases c : b / 8388608 % 256 = 255
  · rw [if_pos c] at hc; split at hc <;> omega
  · by_cases z : b / 8388608 % 256 = 0
    · rw [if_pos z, if_pos z, if_pos (by omega)]
      refine ⟨by omega, by omega, by omega⟩
    · rw [if_neg z, if_neg z, if_neg (by omega)]
      refine ⟨by omega, by omega, by omega⟩
end Flt
theorem outcome32_no (b mag E : Int) (hb : Flt.valid32 b = true) (m0 : 0 < mag) (m1 : mag < 9223372036854775808) (e0 : -3000 ≤ E) (e1 : E ≤ 3000) (hr : ∀ r, ¬ Flt.Rep Ieee.single mag.toNat E r) : Outcome b 32 mag E (-149) 0 false := by
  have hP := parts_any b 32 (Flt.I64_32 (Flt.valid_bounds hb))
  unfold partsV at hP
  by_cases hf : Flt.fin b 32 = true
  · obtain ⟨h1, h2, h3⟩ := Flt.parts32_rung b hb hf
    unfold Flt.pmag Flt.pexp at hP
    rw [hf, if_pos rfl, if_pos rfl] at hP
    have q1 : Flt.mag b 32 = Flt.mag32 b := rfl
    have q2 : Flt.exp b 32 = Flt.exp32 b := rfl
    rw [q1, q2] at hP
    by_cases z : Flt.mag32 b = 0
    · rw [z] at hP
      exact .nought _ _ (Lib.hid hP)
    · have zp : 0 < Flt.mg Ieee.single (Flt.rung32 b) := by omega
      have rp : 0 < Flt.rung32 b := by
        rcases Nat.eq_zero_or_pos (Flt.rung32 b) with h | h
        · rw [h] at zp; exact absurd zp (by decide)
        · exact h
      obtain ⟨o, t, a1, a2⟩ := Flt.odd_part (Flt.mg Ieee.single (Flt.rung32 b)) zp
      obtain ⟨o2, t2, a3, a4⟩ := Flt.odd_part mag.toNat (by omega)
      have ml : Flt.mg Ieee.single (Flt.rung32 b) < 2 * 8388608 := by have := Flt.mg_lt Ieee.single (Flt.rung32 b); rw [Flt.sfields.2.2] at this; exact this
      have tb : ∀ o t m : Nat, m = o * 2 ^ t → o % 2 = 1 → m < 2 ^ 63 → t ≤ 63 := by
        intro o t m e ho hm
        rcases Nat.lt_or_ge 63 t with h | h
        · exfalso
          have : 2 ^ 63 ≤ 2 ^ t := Nat.pow_le_pow_right (by omega) (by omega)
          have : 1 * 2 ^ t ≤ o * 2 ^ t := Nat.mul_le_mul_right _ (by omega)
          omega
        · exact h
      have ex0 : (0 : Int) ≤ (Flt.ex Ieee.single (Flt.rung32 b) : Int) := by omega
      have ex1 : Flt.ex Ieee.single (Flt.rung32 b) ≤ 2046 := by
        unfold Flt.ex
        rw [Flt.sfields.2.2]
        rw [Flt.sfields.2.1] at h1
        omega
      have lp : Ieee.single.leastPlace = -149 := Flt.splace
      rw [lp] at h3
      have R1 := reduced_any (Flt.mag32 b) o t (Flt.exp32 b) (by rw [h2, a1]) a2 (by omega) (by omega) (tb _ _ _ a1 a2 (by omega))
      have R2 := reduced_any mag o2 t2 E (by rw [← a3]; omega) a4 (by omega) (by omega) (tb _ _ _ a3 a4 (by omega))
      refine .other _ _ _ _ _ _ _ (Lib.hid hP) (beq_eq_false_iff_ne.2 z) (Lib.hid R1) (Lib.hid R2) (Lib.hid ?_)
      rintro ⟨d1, d2⟩
      have d1' : o = o2 := by omega
      refine hr (Flt.rung32 b) ⟨rp, h1, ?_⟩
      have hK := Flt.K_eq
      rw [Flt.val_sc _ (by rw [lp]; omega), a1, a3, Flt.sc_shift _ _ _ (by omega), Flt.sc_shift _ _ _ (by rw [lp]; omega), d1', lp]
      congr 1
      omega
  · unfold Flt.pmag Flt.pexp at hP
    rw [if_neg hf, if_neg hf, Bool.eq_false_iff.2 hf] at hP
    exact .notFinite _ (Lib.hid hP)
theorem outcome32_yes (b mag E : Int) (hb : Flt.valid32 b = true) (m0 : 0 < mag) (m1 : mag < 9223372036854775808) (e0 : -3000 ≤ E) (e1 : E ≤ 3000) (hf : Flt.fin b 32 = true) (hr : Flt.Rep Ieee.single mag.toNat E (Flt.rung32 b)) : Outcome b 32 mag E (-149) b true := by
  have hP := parts_any b 32 (Flt.I64_32 (Flt.valid_bounds hb))
  unfold partsV at hP
  obtain ⟨h1, h2, h3⟩ := Flt.parts32_rung b hb hf
  unfold Flt.pmag Flt.pexp at hP
  rw [hf, if_pos rfl, if_pos rfl] at hP
  have q1 : Flt.mag b 32 = Flt.mag32 b := rfl
  have q2 : Flt.exp b 32 = Flt.exp32 b := rfl
  rw [q1, q2] at hP
  have zp := Flt.mg_pos Ieee.single hr.1
  obtain ⟨o, t, a1, a2⟩ := Flt.odd_part (Flt.mg Ieee.single (Flt.rung32 b)) zp
  obtain ⟨o2, t2, a3, a4⟩ := Flt.odd_part mag.toNat (by omega)
  have ml : Flt.mg Ieee.single (Flt.rung32 b) < 2 * 8388608 := by have := Flt.mg_lt Ieee.single (Flt.rung32 b); rw [Flt.sfields.2.2] at this; exact this
  have tb : ∀ o t m : Nat, m = o * 2 ^ t → o % 2 = 1 → m < 2 ^ 63 → t ≤ 63 := by
    intro o t m e ho hm
    rcases Nat.lt_or_ge 63 t with h | h
    · exfalso
      have : 2 ^ 63 ≤ 2 ^ t := Nat.pow_le_pow_right (by omega) (by omega)
      have : 1 * 2 ^ t ≤ o * 2 ^ t := Nat.mul_le_mul_right _ (by omega)
      omega
    · exact h
  have ex1 : Flt.ex Ieee.single (Flt.rung32 b) ≤ 2046 := by
    unfold Flt.ex
    rw [Flt.sfields.2.2]
    rw [Flt.sfields.2.1] at h1
    omega
  have lp : Ieee.single.leastPlace = -149 := Flt.splace
  rw [lp] at h3
  have hK := Flt.K_eq
  have R1 := reduced_any (Flt.mag32 b) o t (Flt.exp32 b) (by rw [h2, a1]) a2 (by omega) (by omega) (tb _ _ _ a1 a2 (by omega))
  have R2 := reduced_any mag o2 t2 E (by rw [← a3]; omega) a4 (by omega) (by omega) (tb _ _ _ a3 a4 (by omega))
  have key := hr.2.2
  rw [Flt.val_sc _ (by rw [lp]; omega), a1, a3, Flt.sc_shift _ _ _ (by omega), Flt.sc_shift _ _ _ (by rw [lp]; omega), lp] at key
  obtain ⟨k1, k2⟩ := Flt.sc_odd a4 a2 (by omega) (by omega) key
  have e1 : (o2 : Int) = (o : Int) := by omega
  have e2 : E + (t2 : Int) = Flt.exp32 b + (t : Int) := by omega
  rw [e1, e2] at R2
  exact .same _ _ _ _ _ (Lib.hid hP) (beq_eq_false_iff_ne.2 (by omega)) (Lib.hid R1) (Lib.hid R2) (by omega)
end Go.Proofs.Ytjogbiopbobifaa
