/- Walks: a binary32's neighbour; a pattern seen as a binary64. -/
import Derived.Test.YtjogbiopbobifaaA3
import Derived.Test.YtjogbiopbobifaaWide
namespace Go.Proofs.Ytjogbiopbobifaa
open Go.RowKit

theorem f32to64 (n : Nat) (h : Flt.isNaN Ieee.single n = false) (w : World) : (convert 26 24 (.float .f32 n)).run Try.prog w = .ok (.float .f64 (Flt.wide n)) w := by
  refine run_convert_float_float w _ _ _ _ _ _ (by rw [Try.underlying26]; rfl) Try.underlying24 ?_
  have hw := Flt.wide_num n h
  unfold floatToFloatBits
  rw [if_neg (by decide)]
  obtain ⟨R, hR, hwd, hc⟩ := Flt.wide_rung n h
  have hrd := Flt.read_eq Ieee.single Flt.ok_single n
  show (match Ieee.single.read n with | .nan _ _ => none | .infinity s => some (Ieee.double.write (.infinity s)) | .number s m e => if (Ieee.double.read (Ieee.double.write (.number s m e))).isInfinity then none else some (Ieee.double.write (.number s m e))) = _
  rcases hc with ⟨h1, h2, _⟩ | ⟨h1, h2⟩
  · have e : Flt.wide n = Ieee.double.write (Ieee.single.read n) := rfl
    rw [hrd, if_pos h1] at e ⊢
    dsimp only
    rw [← e, hwd]
    have hlt : R < Ieee.double.signWeight := Nat.lt_trans h2 Flt.ok_double.2.2
    have hnf : (Ieee.double.read (Ieee.double.word (n / Ieee.single.signWeight % 2 == 1) R)).isInfinity = false := by
      rw [Flt.read_eq Ieee.double Flt.ok_double, (Flt.word_mod Ieee.double _ R hlt).1, if_pos h2]; rfl
    rw [hnf]; rfl
  · have e : Flt.wide n = Ieee.double.write (Ieee.single.read n) := rfl
    rw [hrd, if_neg (by omega), if_pos h1] at e ⊢
    rw [e]
theorem nan64_word (t : Nat) : (t % 2) * 2 ^ 63 + 0x7ff0000000000000 + 1 + (t / 2) % (2 ^ 52 - 1) < 18446744073709551616 ∧ Flt.isNaN Ieee.double ((t % 2) * 2 ^ 63 + 0x7ff0000000000000 + 1 + (t / 2) % (2 ^ 52 - 1)) = true := by
  unfold Flt.isNaN
  rw [Flt.dfields.1, Flt.dfields.2.1, decide_eq_true_iff]
  have h1 : t / 2 % (2 ^ 52 - 1) < 2 ^ 52 - 1 := Nat.mod_lt _ (by decide)
  generalize t / 2 % (2 ^ 52 - 1) = q at *
  rcases (show t % 2 = 0 ∨ t % 2 = 1 by omega) with h | h <;> rw [h] <;> omega
theorem nan32_word (t : Nat) : (t % 2) * 2 ^ 31 + 0x7f800000 + 1 + (t / 2) % (2 ^ 23 - 1) < 4294967296 ∧ Flt.isNaN Ieee.single ((t % 2) * 2 ^ 31 + 0x7f800000 + 1 + (t / 2) % (2 ^ 23 - 1)) = true := by
  unfold Flt.isNaN
  rw [Flt.sfields.1, Flt.sfields.2.1, decide_eq_true_iff]
  have h1 : t / 2 % (2 ^ 23 - 1) < 2 ^ 23 - 1 := Nat.mod_lt _ (by decide)
  generalize t / 2 % (2 ^ 23 - 1) = q at *
  rcases (show t % 2 = 0 ∨ t % 2 = 1 by omega) with h | h <;> rw [h] <;> omega
/-- of a NaN: some NaN -/
theorem f32to64_nan (n : Nat) (h : Flt.isNaN Ieee.single n = true) (w : World) : ∃ r, r < 18446744073709551616 ∧ Flt.isNaN Ieee.double r = true ∧ (convert 26 24 (.float .f32 n)).run Try.prog w = .ok (.float .f64 r) w.drew := by
  have hrd := Flt.read_eq Ieee.single Flt.ok_single n
  unfold Flt.isNaN at h
  have h' : Ieee.single.infRung < n % Ieee.single.signWeight := by simpa using h
  rw [if_neg (by omega), if_neg (by omega)] at hrd
  have hu1 : Try.prog.underlying 26 = some (.float .f32) := Try.underlying26
  have hu2 : Try.prog.underlying 24 = some (.float .f64) := Try.underlying24
  refine ⟨Question.cut (.nanConv .f64 n) (w.tape w.drawn (.nanConv .f64 n)), ?_, ?_, ?_⟩
  · exact (nan64_word _).1
  · exact (nan64_word _).2
  · simp only [convert, run_underlying hu1, run_underlying hu2, Sem.run_bind, Result.andThen]
    have hd : FloatKind.f32.decode n = Ieee.single.read n := rfl
    simp only [Conv.floatToFloat, hd, hrd]
    rfl
end Go.Proofs.Ytjogbiopbobifaa
