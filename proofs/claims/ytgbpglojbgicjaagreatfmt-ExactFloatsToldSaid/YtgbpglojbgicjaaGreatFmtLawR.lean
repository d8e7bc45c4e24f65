/- A finite float's parts, and the float that they are. No Go in sight. -/
import Derived.Test.YtgbpglojbgicjaaGreatFmtPart15
import Derived.Test.YtgbpglojbgicjaaGreatFmtBitA
namespace Go.Proofs.YtgbpglojbgicjaaGreatFmt
open Go.RowKit

theorem BLen.shift {x : Int} {k s : Nat} (h : BLen x k) (hk : 0 < k) : BLen (x * 2 ^ s) (k + s) := by
  have hp : (0 : Int) < 2 ^ s := Int.pow_pos (by omega)
  refine ⟨?_, fun _ => ?_⟩
  · rw [Int.pow_add]
    exact Int.mul_lt_mul_of_pos_right h.1 hp
  · rw [show k + s - 1 = k - 1 + s by omega, Int.pow_add]
    exact Int.mul_le_mul_of_nonneg_right (h.2 hk) (Int.le_of_lt hp)
theorem BLen.pos {x : Int} {k : Nat} (h : BLen x k) (hx : 0 < x) : 0 < k := by
  rcases Nat.eq_zero_or_pos k with e | e
  · rw [e] at h
    have := h.1
    simp at this
    omega
  · exact e
/-- the numbers behind a finite binary64, with an odd part -/
theorem fl64_of (b q : Int) (z e : Int) (t : Nat) (hb : Flt.I64 b) (hm : Flt.mag64 b = q * 2 ^ t) (hq : 0 < q) (he : e = Flt.exp64 b + t) (hf : b / 4503599627370496 % 2048 < 2047) (hz : (Int.natAbs z : Int) = q) (hs : decide (2 * z < 0) = decide (b < 0)) : Fl64 z e (Flt.w64 b) := by
  intro k hk
  have hbb := hb
  unfold Flt.I64 at hbb
  have e2 : ((Int.natAbs (2 * z) : Nat) : Int) = q * 2 ^ 1 := by rw [show (2 : Int) ^ 1 = 2 from rfl]; omega
  rw [e2] at hk ⊢
  have hk0 := hk.pos (by rw [show (2 : Int) ^ 1 = 2 from rfl]; omega)
  have hk2 : 1 < k := pow_lt (Int.lt_of_le_of_lt (show (2 : Int) ^ 1 ≤ q * 2 ^ 1 by rw [show (2 : Int) ^ 1 = 2 from rfl]; omega) hk.1)
  have hL : BLen (Flt.mag64 b * 2 ^ 1) (k + t) := by
    rw [hm, Int.mul_right_comm]
    exact hk.shift hk0
  have hw : (Flt.w64 b : Int) = sg (decide (2 * z < 0)) + b / 4503599627370496 % 2048 * 4503599627370496 + b % 4503599627370496 := by
    rw [hs]
    unfold Flt.w64 sg
    by_cases h : b < 0
    · rw [if_pos (by simpa using h)]; omega
    · rw [if_neg (by simpa using h)]; omega
  unfold Flt.mag64 at hm hL
  unfold Flt.exp64 at he
  have hsum : ∀ s : Nat, k ≤ 64 → 65 = k + t + s → q * 2 ^ 1 * 2 ^ (64 - k) = q * 2 ^ t * 2 ^ s := fun s h64 h => by
    rw [Int.mul_assoc, Int.mul_assoc, ← Int.pow_add, ← Int.pow_add, show 1 + (64 - k) = t + s by omega]
  by_cases h0 : b / 4503599627370496 % 2048 = 0
  · rw [if_pos h0] at hm hL he
    have hkt : k + t - 1 < 53 := pow_lt (Int.lt_of_le_of_lt (hL.2 (by omega)) (by rw [show (2 : Int) ^ 53 = 9007199254740992 by decide, show (2 : Int) ^ 1 = 2 from rfl]; omega))
    obtain ⟨s, hs2⟩ : ∃ s : Nat, 65 = k + t + s := ⟨65 - (k + t), by omega⟩
    have hkk : kk64 (k + (e - 1)) = s := by unfold kk64; rw [if_pos (by omega)]; omega
    rw [hsum s (by omega) hs2, ← hm, hkk]
    refine ⟨by omega, by omega, by omega, Int.mul_emod_left _ _, ?_⟩
    rw [Int.mul_ediv_cancel _ (Int.ne_of_gt (Int.pow_pos (by omega))), hw]
    omega
  · rw [if_neg h0] at hm hL he
    have h54 : BLen ((b % 4503599627370496 + 4503599627370496) * 2 ^ 1) 54 := by
      refine ⟨?_, fun _ => ?_⟩
      · rw [show (2 : Int) ^ 54 = 18014398509481984 by decide, show (2 : Int) ^ 1 = 2 from rfl]; omega
      · rw [show (2 : Int) ^ (54 - 1) = 9007199254740992 by decide, show (2 : Int) ^ 1 = 2 from rfl]; omega
    have hkt := hL.unique h54
    have hkk : kk64 (k + (e - 1)) = 11 := by unfold kk64; rw [if_neg (by omega)]
    rw [hsum 11 (by omega) (by omega), ← hm, hkk]
    refine ⟨by omega, by omega, by omega, Int.mul_emod_left _ _, ?_⟩
    rw [Int.mul_ediv_cancel _ (Int.ne_of_gt (Int.pow_pos (by omega))), hw]
    omega
theorem fl32_of (b q : Int) (z e : Int) (t : Nat) (hb : Flt.valid32 b = true) (hm : Flt.mag32 b = q * 2 ^ t) (hq : 0 < q) (he : e = Flt.exp32 b + t) (hf : b / 8388608 % 256 < 255) (hz : (Int.natAbs z : Int) = q) (hs : decide (2 * z < 0) = decide (2147483648 ≤ b)) : Fl32 z e (Flt.w32 b) := by
  intro k hk
  have hbb := Flt.valid_bounds hb
  have e2 : ((Int.natAbs (2 * z) : Nat) : Int) = q * 2 ^ 1 := by rw [show (2 : Int) ^ 1 = 2 from rfl]; omega
  rw [e2] at hk ⊢
  have hk0 := hk.pos (by rw [show (2 : Int) ^ 1 = 2 from rfl]; omega)
  have hk2 : 1 < k := pow_lt (Int.lt_of_le_of_lt (show (2 : Int) ^ 1 ≤ q * 2 ^ 1 by rw [show (2 : Int) ^ 1 = 2 from rfl]; omega) hk.1)
  have hL : BLen (Flt.mag32 b * 2 ^ 1) (k + t) := by
    rw [hm, Int.mul_right_comm]
    exact hk.shift hk0
  have hw : (Flt.w32 b : Int) = sg2 (decide (2 * z < 0)) + b / 8388608 % 256 * 8388608 + b % 8388608 := by
    rw [hs]
    unfold Flt.w32 sg2
    rw [if_pos hb]
    by_cases h : 2147483648 ≤ b
    · rw [if_pos (by simpa using h)]; omega
    · rw [if_neg (by simpa using h)]; omega
  unfold Flt.mag32 at hm hL
  unfold Flt.exp32 at he
  have hsum : ∀ s : Nat, k ≤ 64 → 65 = k + t + s → q * 2 ^ 1 * 2 ^ (64 - k) = q * 2 ^ t * 2 ^ s := fun s h64 h => by
    rw [Int.mul_assoc, Int.mul_assoc, ← Int.pow_add, ← Int.pow_add, show 1 + (64 - k) = t + s by omega]
  by_cases h0 : b / 8388608 % 256 = 0
  · rw [if_pos h0] at hm hL he
    have hkt : k + t - 1 < 24 := pow_lt (Int.lt_of_le_of_lt (hL.2 (by omega)) (by rw [show (2 : Int) ^ 24 = 16777216 by decide, show (2 : Int) ^ 1 = 2 from rfl]; omega))
    obtain ⟨s, hs2⟩ : ∃ s : Nat, 65 = k + t + s := ⟨65 - (k + t), by omega⟩
    have hkk : kk32 (k + (e - 1)) = s := by unfold kk32; rw [if_pos (by omega)]; omega
    rw [hsum s (by omega) hs2, ← hm, hkk]
    refine ⟨by omega, by omega, by omega, Int.mul_emod_left _ _, ?_⟩
    rw [Int.mul_ediv_cancel _ (Int.ne_of_gt (Int.pow_pos (by omega))), hw]
    omega
  · rw [if_neg h0] at hm hL he
    have h25 : BLen ((b % 8388608 + 8388608) * 2 ^ 1) 25 := by
      refine ⟨?_, fun _ => ?_⟩
      · rw [show (2 : Int) ^ 25 = 33554432 by decide, show (2 : Int) ^ 1 = 2 from rfl]; omega
      · rw [show (2 : Int) ^ (25 - 1) = 16777216 by decide, show (2 : Int) ^ 1 = 2 from rfl]; omega
    have hkt := hL.unique h25
    have hkk : kk32 (k + (e - 1)) = 40 := by unfold kk32; rw [if_neg (by omega)]
    rw [hsum 40 (by omega) (by omega), ← hm, hkk]
    refine ⟨by omega, by omega, by omega, Int.mul_emod_left _ _, ?_⟩
    rw [Int.mul_ediv_cancel _ (Int.ne_of_gt (Int.pow_pos (by omega))), hw]
    omega
end Go.Proofs.YtgbpglojbgicjaaGreatFmt
