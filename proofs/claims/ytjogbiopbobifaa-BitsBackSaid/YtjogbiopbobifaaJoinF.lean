/- Join of a whole number above 0: what it tells. -/
import Derived.Test.YtjogbiopbobifaaJoinE
namespace Go.Proofs.Ytjogbiopbobifaa
open Go.RowKit

theorem floatOfInt_mag (mag : Int) (h : 0 ≤ mag) : floatOfInt .f64 mag = Flt.ofMag mag.toNat := by
  obtain ⟨n, rfl⟩ := Int.eq_ofNat_of_zero_le h
  show Ieee.double.nearest (decide ((n : Int) < 0)) (n : Int).natAbs 0 = _
  rw [decide_eq_false (by omega)]; rfl
theorem ldexp_mag (mag E : Int) (m0 : 0 < mag) (m1 : mag < 9223372036854775808) (e0 : -3000 ≤ E) (e1 : E ≤ 3000) (w : World) :
    Calls Try.prog 92 #[.float .f64 (floatOfInt .f64 mag), .int .i64 E] w fun e w' => e = .returned (.float .f64 (Flt.ldx (Flt.ofMag mag.toNat) E)) ∧ w = w' := by
  rw [floatOfInt_mag mag (by omega)]
  obtain ⟨b0, b1⟩ := Flt.ofMag_bounds mag.toNat (by omega) (by omega)
  exact Ldexp_any _ E w (Lib.hid b0) (Lib.hid b1) (Lib.hid e0) (Lib.hid e1)

theorem told64_range (n : Nat) (h : n < 18446744073709551616) : Flt.I64 (told64 n) := by
  unfold told64 Flt.I64
  split
  · decide
  · split <;> omega
theorem told32_valid (n : Nat) (h : n < 4294967296) : Flt.valid32 (told32 n) = true := by
  unfold told32 Flt.valid32
  split
  · decide
  · rw [decide_eq_true (by omega), decide_eq_true (by omega)]; rfl

/-- a word of binary64 as one of binary32: some word is told, whatever it is -/
theorem f64to32_any (n : Nat) (w : World) : ∃ r w2, r < 4294967296 ∧ (convert 24 26 (.float .f64 n)).run Try.prog w = .ok (.float .f32 r) w2 ∧ Below w.heap.size w w2 := by
  have hu1 : Try.prog.underlying 24 = some (.float .f64) := Try.underlying24
  have hu2 : Try.prog.underlying 26 = some (.float .f32) := Try.underlying26
  have hd : FloatKind.f64.decode n = Ieee.double.read n := rfl
  by_cases hf : (floatToFloatBits .f64 n .f32).isSome = true
  · obtain ⟨r, hr⟩ := Option.isSome_iff_exists.1 hf
    have hrun := run_convert_float_float w 24 26 .f64 .f32 n r (by rw [hu1]; rfl) hu2 hr
    refine ⟨r, w, ?_, hrun, Below.refl _ _⟩
    unfold floatToFloatBits at hr
    rw [if_neg (by decide)] at hr
    rw [hd] at hr
    split at hr
    · cases hr
    · cases hr; exact Ieee.single.write_lt _
    · split at hr
      · cases hr
      · cases hr; exact Ieee.single.write_lt _
  · by_cases hn : Flt.isNaN Ieee.double n = true
    · obtain ⟨r, hr, _, hrun⟩ := f64to32_nan n hn w
      exact ⟨r, w.drew, hr, hrun, (Below.refl _ _).drew⟩
    · have hrd := Flt.read_eq Ieee.double Flt.ok_double n
      unfold Flt.isNaN at hn
      have hn' : ¬ Ieee.double.infRung < n % Ieee.double.signWeight := by simpa using hn
      by_cases hi : n % Ieee.double.signWeight < Ieee.double.infRung
      · rw [if_pos hi] at hrd
        have ho : (FloatKind.f32.decode (FloatKind.f32.encode (Ieee.double.read n))).isInfinity = true := by
          rcases Bool.eq_false_or_eq_true (FloatKind.f32.decode (FloatKind.f32.encode (Ieee.double.read n))).isInfinity with h | h
          · exact h
          · exfalso; apply hf
            unfold floatToFloatBits
            rw [if_neg (by decide), hd]
            rw [hrd] at h ⊢
            dsimp only
            rw [h]; rfl
        refine ⟨Question.cut (.floatToFloat n) (w.tape w.drawn (.floatToFloat n)), w.drew, ?_, ?_, (Below.refl _ _).drew⟩
        · show w.tape w.drawn (.floatToFloat n) % 2 ^ 32 < _
          omega
        · simp only [convert, run_underlying hu1, run_underlying hu2, Sem.run_bind, Result.andThen]
          rw [hrd] at ho
          simp only [Conv.floatToFloat, hd, hrd]
          rw [if_neg (by decide)]
          rw [ho, if_pos rfl]
          rfl
      · exfalso; apply hf
        rw [if_neg hi, if_pos (by omega)] at hrd
        unfold floatToFloatBits
        rw [if_neg (by decide), hd, hrd]; rfl

namespace Flt
open Ieee
/-- a number that binary32 has, written -/
theorem write_single (neg : Bool) (R r : Nat) (hR : R < double.infRung) (hr : r < single.infRung) (h : val double.binade R = val single.binade r * 2 ^ gapW) :
    floatToFloatBits .f64 (double.word neg R) .f32 = some (single.word neg r) := by
  have hs : R < double.signWeight := Nat.lt_trans hR ok_double.2.2
  have hrd := read_eq double ok_double (double.word neg R)
  rw [(word_mod double neg R hs).1, (word_mod double neg R hs).2, if_pos hR] at hrd
  have hg := gapW_eq
  have hn : single.nearest neg (mg double R) (double.leastPlace + (ex double R : Nat)) = single.word neg r := by
    have h1 : single.nearest neg (val double.binade R) double.leastPlace = single.nearest neg (mg double R) (double.leastPlace + (ex double R : Nat)) := by rw [val_eq, nearest_shift]
    rw [← h1, h, nearest_shift, dplace, show (-1074 : Int) + (gapW : Int) = single.leastPlace by rw [splace]; omega, val_eq, nearest_shift, nearest_rung single neg r hr]
  unfold floatToFloatBits
  rw [if_neg (by decide)]
  have hd : FloatKind.f64.decode (double.word neg R) = double.read (double.word neg R) := rfl
  rw [hd, hrd]
  dsimp only
  have he : FloatKind.f32.encode (Datum.number neg (mg double R) (double.leastPlace + (ex double R : Nat))) = single.word neg r := hn
  rw [he]
  have hi : (FloatKind.f32.decode (single.word neg r)).isInfinity = false := by
    show (single.read (single.word neg r)).isInfinity = false
    have hs2 : r < single.signWeight := Nat.lt_trans hr ok_single.2.2
    rw [read_eq single ok_single, (word_mod single neg r hs2).1, if_pos hr]; rfl
  rw [hi]; rfl
/-- the pattern of a sign and a rung -/
def lay64 (neg : Bool) (r : Nat) : Int := if neg = true then (r : Int) - 9223372036854775808 else r
def lay32 (neg : Bool) (r : Nat) : Int := if neg = true then (r : Int) + 2147483648 else r
theorem lay64_fin (neg : Bool) (r : Nat) (h : r < double.infRung) : I64 (lay64 neg r) ∧ fin (lay64 neg r) 64 = true ∧ rung64 (lay64 neg r) = r ∧ told64 (double.word neg r) = lay64 neg r := by
  rw [dfields.2.1] at h
  have hs : r < double.signWeight := by rw [dfields.1]; omega
  have hn : isNaN double (double.word neg r) = false := by
    unfold isNaN
    rw [(word_mod double neg r hs).1, dfields.2.1]
    exact decide_eq_false (by omega)
  have hc : ∀ b : Int, b % 9223372036854775808 = r → cls64 b ≤ 2 := by
    intro b hb
    unfold cls64
    split
    · exfalso; omega
    · split
      · split <;> omega
      · omega
  cases neg
  · refine ⟨⟨by unfold lay64; split <;> omega, by unfold lay64; split <;> omega⟩, ?_, ?_, ?_⟩
    · have := hc (lay64 false r) (by unfold lay64; split <;> omega)
      unfold fin cls
      simpa using this
    · unfold rung64 lay64; split <;> omega
    · unfold told64
      rw [hn, if_neg (by decide)]
      have e : double.word false r = r := rfl
      rw [e, if_pos (by omega)]; rfl
  · refine ⟨⟨by unfold lay64; split <;> omega, by unfold lay64; split <;> omega⟩, ?_, ?_, ?_⟩
    · have := hc (lay64 true r) (by unfold lay64; split <;> omega)
      unfold fin cls
      simpa using this
    · unfold rung64 lay64; split <;> omega
    · unfold told64
      rw [hn, if_neg (by decide)]
      have e : double.word true r = 9223372036854775808 + r := by
        show double.signWeight + r = _
        rw [dfields.1]
      rw [e, if_neg (by omega)]
      unfold lay64; rw [if_pos rfl]; omega
theorem lay32_fin (neg : Bool) (r : Nat) (h : r < single.infRung) : valid32 (lay32 neg r) = true ∧ fin (lay32 neg r) 32 = true ∧ rung32 (lay32 neg r) = r ∧ told32 (single.word neg r) = lay32 neg r := by
  rw [sfields.2.1] at h
  have hs : r < single.signWeight := by rw [sfields.1]; omega
  have hn : isNaN single (single.word neg r) = false := by
    unfold isNaN
    rw [(word_mod single neg r hs).1, sfields.2.1]
    exact decide_eq_false (by omega)
  have hc : ∀ b : Int, valid32 b = true → b % 2147483648 = r → cls32 b ≤ 2 := by
    intro b hv hb
    unfold cls32
    rw [if_pos hv]
    split
    · exfalso; omega
    · split
      · split <;> omega
      · omega
  cases neg
  · have v : valid32 (lay32 false r) = true := by unfold lay32 valid32; rw [decide_eq_true (by split <;> omega), decide_eq_true (by split <;> omega)]; rfl
    refine ⟨v, ?_, ?_, ?_⟩
    · have := hc (lay32 false r) v (by unfold lay32; split <;> omega)
      unfold fin cls
      simpa using this
    · unfold rung32 lay32; split <;> omega
    · unfold told32
      rw [hn, if_neg (by decide)]; rfl
  · have v : valid32 (lay32 true r) = true := by unfold lay32 valid32; rw [decide_eq_true (by split <;> omega), decide_eq_true (by split <;> omega)]; rfl
    refine ⟨v, ?_, ?_, ?_⟩
    · have := hc (lay32 true r) v (by unfold lay32; split <;> omega)
      unfold fin cls
      simpa using this
    · unfold rung32 lay32; split <;> omega
    · unfold told32
      rw [hn, if_neg (by decide)]
      show ((single.signWeight + r : Nat) : Int) = _
      rw [sfields.1]
      unfold lay32; rw [if_pos rfl]; omega
end Flt
end Go.Proofs.Ytjogbiopbobifaa
