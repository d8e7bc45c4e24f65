/- A binary32 as a binary64: the same number. No Go in sight. -/
import Derived.Test.YtgbpglojbgicjaaGreatFmtLawR
namespace Go.Proofs.YtgbpglojbgicjaaGreatFmt
open Go.RowKit

theorem odd_unique {q r : Int} {a b : Nat} (hq : q % 2 = 1) (hr : r % 2 = 1) (h : q * 2 ^ a = r * 2 ^ b) : q = r ∧ a = b := by
  have key : ∀ (q r : Int) (a b : Nat), r % 2 = 1 → q * 2 ^ a = r * 2 ^ b → a ≤ b := by
    intro q r a b hr h
    rcases Nat.lt_or_ge b a with hab | hab
    · exfalso
      obtain ⟨d, rfl⟩ : ∃ d, a = b + (d + 1) := ⟨a - b - 1, by omega⟩
      have hp : (2 : Int) ^ b ≠ 0 := Int.ne_of_gt (Int.pow_pos (by omega))
      rw [Int.pow_add, Int.mul_comm (2 ^ b), ← Int.mul_assoc] at h
      have := Int.eq_of_mul_eq_mul_right hp h
      rw [Int.pow_succ, ← Int.mul_assoc] at this
      omega
    · exact hab
  have e : a = b := Nat.le_antisymm (key q r a b hr h) (key r q b a hq h.symm)
  subst e
  exact ⟨Int.eq_of_mul_eq_mul_right (Int.ne_of_gt (Int.pow_pos (by omega))) h, rfl⟩
/-- a finite binary32's pattern as a binary64 -/
def up64 (b : Int) : Int := told64 (Flt.wide (Flt.w32 b))
theorem up64_parts (b q : Int) (t : Nat) (hb : Flt.valid32 b = true) (hf : b / 8388608 % 256 < 255) (hm : Flt.mag32 b = q * 2 ^ t) (hq : q % 2 = 1) (hq0 : 0 < q) :
    Flt.I64 (up64 b) ∧ up64 b / 4503599627370496 % 2048 < 2047 ∧ (up64 b < 0 ↔ 2147483648 ≤ b) ∧ ∃ t2 : Nat, Flt.mag64 (up64 b) = q * 2 ^ t2 ∧ Flt.exp64 (up64 b) + t2 = Flt.exp32 b + t := by
  have hbb := Flt.valid_bounds hb
  have hn : Flt.w32 b = b.toNat := by unfold Flt.w32; rw [if_pos hb]
  have hfin : Flt.fin b 32 = true := by
    unfold Flt.fin Flt.cls Flt.cls32
    rw [if_pos hb]
    by_cases h0 : b / 8388608 % 256 = 0 <;> by_cases h1 : b % 8388608 = 0 <;> simp [h0, h1, show ¬ b / 8388608 % 256 = 255 by omega]
  obtain ⟨r1, r2, r3⟩ := Flt.parts32_rung b hb hfin
  have hr : Flt.w32 b % Ieee.single.signWeight = Flt.rung32 b := by
    rw [hn, Flt.sfields.1]; unfold Flt.rung32; omega
  obtain ⟨R, hR, hv, hw⟩ := Flt.wide_fin (Flt.w32 b) (by rw [hr]; exact r1)
  obtain ⟨l1, l2, l3, l4⟩ := Flt.lay64_fin (Flt.w32 b / Ieee.single.signWeight % 2 == 1) R hR
  have hup : up64 b = Flt.lay64 (Flt.w32 b / Ieee.single.signWeight % 2 == 1) R := by unfold up64; rw [hw]; exact l4
  obtain ⟨p1, p2, p3⟩ := Flt.parts64_rung _ l1 l2
  rw [← hup] at l1 l2 l3 p1 p2 p3
  rw [l3] at p1 p2 p3
  rw [hr, Flt.val_eq, Flt.val_eq] at hv
  rw [Flt.dplace] at p3
  rw [Flt.splace] at r3
  have hR2 := hR
  rw [Flt.dfields.2.1] at hR2
  have hneg : (Flt.w32 b / Ieee.single.signWeight % 2 == 1) = decide (2147483648 ≤ b) := by
    rw [hn, Flt.sfields.1, Bool.eq_iff_iff, beq_iff_eq, decide_eq_true_eq]
    omega
  rw [hneg] at hup
  have hpos : 0 < Flt.mg Ieee.double R := by
    rcases Nat.eq_zero_or_pos (Flt.mg Ieee.double R) with h | h
    · rw [h, Nat.zero_mul] at hv
      have h1 : 0 < Flt.mg Ieee.single (Flt.rung32 b) * 2 ^ Flt.ex Ieee.single (Flt.rung32 b) * 2 ^ Flt.gapW := by
        have : 0 < Flt.mg Ieee.single (Flt.rung32 b) := by
          have : (0 : Int) < q * 2 ^ t := Int.mul_pos hq0 (Int.pow_pos (by omega))
          omega
        exact Nat.mul_pos (Nat.mul_pos this (Nat.two_pow_pos _)) (Nat.two_pow_pos _)
      omega
    · exact h
  obtain ⟨o, t2, ho, ho2⟩ := Flt.odd_part (Flt.mg Ieee.double R) hpos
  have hI : (o : Int) * 2 ^ (t2 + Flt.ex Ieee.double R) = q * 2 ^ (t + Flt.ex Ieee.single (Flt.rung32 b) + 925) := by
    rw [Int.pow_add, Int.pow_add, Int.pow_add, ← Int.mul_assoc, ← Int.mul_assoc, ← Int.mul_assoc, ← hm, r2]
    have h1 : ((Flt.mg Ieee.double R * 2 ^ Flt.ex Ieee.double R : Nat) : Int) = ((Flt.mg Ieee.single (Flt.rung32 b) * 2 ^ Flt.ex Ieee.single (Flt.rung32 b) * 2 ^ Flt.gapW : Nat) : Int) := by rw [hv]
    rw [ho] at h1
    simp only [Int.natCast_mul, Int.natCast_pow] at h1
    exact h1
  obtain ⟨h1, h2⟩ := odd_unique (by omega) hq hI
  refine ⟨l1, ?_, ?_, t2, ?_, ?_⟩
  · rw [hup]; unfold Flt.lay64
    split <;> omega
  · rw [hup]; unfold Flt.lay64
    by_cases h : 2147483648 ≤ b
    · rw [decide_eq_true h, if_pos rfl]; omega
    · rw [decide_eq_false h, if_neg (by decide)]; omega
  · rw [p2, ho, ← h1]
    simp
  · omega
end Go.Proofs.YtgbpglojbgicjaaGreatFmt
