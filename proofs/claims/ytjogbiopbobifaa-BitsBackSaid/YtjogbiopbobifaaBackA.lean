/- BitsBack: what Parts tells is joined again. -/
import Derived.Test.YtjogbiopbobifaaJoinG
import Derived.Test.YtjogbiopbobifaaOutA
import Derived.Test.YtjogbiopbobifaaTurnsA
namespace Go.Proofs.Ytjogbiopbobifaa
open Go.RowKit

namespace Flt
theorem rep_back (f : Ieee.Format) (hl : -(K : Int) ≤ f.leastPlace) (r : Nat) (h0 : 0 < r) (h1 : r < f.infRung) : Rep f (mg f r) (f.leastPlace + (ex f r : Nat)) r := ⟨h0, h1, (val_sc f hl r).symm⟩
theorem nneg_nneg {b v : Int} (h : Pat b v) (c : ¬ cls b v = 4) : nneg (nneg b v) v = b := by
  have h2 : ¬ cls (nneg b v) v = 4 ∧ (v = 64 → nneg b v = if b < 0 then b + 9223372036854775808 else b - 9223372036854775808) ∧ (v = 32 → nneg b v = if 2147483648 ≤ b then b - 2147483648 else b + 2147483648) := by
    rcases h with ⟨rfl, h⟩ | ⟨rfl, h⟩
    · have q : cls b 64 = cls64 b := rfl
      rw [q] at c
      have e : nneg b 64 = if b < 0 then b + 9223372036854775808 else b - 9223372036854775808 := by
        unfold nneg nneg64
        rw [if_pos rfl, if_neg c]
      refine ⟨?_, fun _ => e, fun h => by cases h⟩
      have q2 : cls (nneg b 64) 64 = cls64 (nneg b 64) := rfl
      rw [q2, e]
      unfold cls64 at c ⊢
      split <;> (intro h3; apply c; rw [← h3]) <;> (repeat' split) <;> omega
    · have q : cls b 32 = cls32 b := rfl
      rw [q] at c
      have e : nneg b 32 = if 2147483648 ≤ b then b - 2147483648 else b + 2147483648 := by
        unfold nneg nneg32
        rw [if_neg (by decide), if_pos rfl, if_neg c]
      refine ⟨?_, (fun h => by cases h), fun _ => e⟩
      have q2 : cls (nneg b 32) 32 = cls32 (nneg b 32) := rfl
      rw [q2, e]
      obtain ⟨l0, l1⟩ := valid_bounds h
      unfold cls32 at c ⊢
      rw [if_pos h] at c
      split
      · rw [if_pos (by unfold valid32; rw [decide_eq_true (by omega), decide_eq_true (by omega)]; rfl)]
        intro h3; apply c; rw [← h3]; (repeat' split) <;> omega
      · rw [if_pos (by unfold valid32; rw [decide_eq_true (by omega), decide_eq_true (by omega)]; rfl)]
        intro h3; apply c; rw [← h3]; (repeat' split) <;> omega
  obtain ⟨c2, e1, e2⟩ := h2
  rcases h with ⟨rfl, h⟩ | ⟨rfl, h⟩
  · have q2 : cls (nneg b 64) 64 = cls64 (nneg b 64) := rfl
    rw [q2] at c2
    have e3 := e1 rfl
    have : nneg (nneg b 64) 64 = if nneg b 64 < 0 then nneg b 64 + 9223372036854775808 else nneg b 64 - 9223372036854775808 := by
      show (if cls64 (nneg b 64) = 4 then _ else _) = _
      rw [if_neg c2]
    rw [this, e3]
    obtain ⟨l0, l1⟩ := h
    split <;> split <;> omega
  · have q2 : cls (nneg b 32) 32 = cls32 (nneg b 32) := rfl
    rw [q2] at c2
    have e3 := e2 rfl
    have : nneg (nneg b 32) 32 = if 2147483648 ≤ nneg b 32 then nneg b 32 - 2147483648 else nneg b 32 + 2147483648 := by
      show (if cls32 (nneg b 32) = 4 then _ else _) = _
      rw [if_neg c2]
    rw [this, e3]
    obtain ⟨l0, l1⟩ := valid_bounds h
    split <;> split <;> omega
end Flt

theorem join_back64 (b : Int) (hb : Flt.I64 b) (hf : Flt.fin b 64 = true) : Tells 44 #[.bool (Flt.neg64 b), .int .i64 (Flt.mag64 b), .int .i64 (Flt.exp64 b), .int .i64 64] (joinV b true) := by
  obtain ⟨h1, h2, h3⟩ := Flt.parts64_rung b hb hf
  have ml : Flt.mg Ieee.double (Flt.rung64 b) < 2 * 4503599627370496 := by have := Flt.mg_lt Ieee.double (Flt.rung64 b); rw [Flt.dfields.2.2] at this; exact this
  have hx : Flt.ex Ieee.double (Flt.rung64 b) ≤ 2046 := by
    unfold Flt.ex
    rw [Flt.dfields.2.2]
    rw [Flt.dfields.2.1] at h1
    omega
  obtain ⟨b0, b1⟩ := hb
  have hr : Flt.rung64 b = (b % 9223372036854775808).toNat := rfl
  by_cases z : Flt.rung64 b = 0
  · have m0 : Flt.mag64 b = 0 := by rw [h2, z]; decide
    rw [m0]
    by_cases n : b < 0
    · have : Flt.neg64 b = true := decide_eq_true n
      rw [this]
      have : b = -9223372036854775808 := by omega
      rw [this]
      exact join64_zero_true _
    · have : Flt.neg64 b = false := decide_eq_false n
      rw [this]
      have : b = 0 := by omega
      rw [this]
      exact join64_zero_false _
  · have hR := Flt.rep_back Ieee.double (by rw [Flt.dplace]; decide) (Flt.rung64 b) (by omega) h1
    have hp := Flt.mg_pos Ieee.double (r := Flt.rung64 b) (by omega)
    rw [h2, h3]
    rw [Flt.dplace] at hR ⊢
    have := join64_some (Flt.neg64 b) (Flt.mg Ieee.double (Flt.rung64 b) : Int) (-1074 + (Flt.ex Ieee.double (Flt.rung64 b) : Nat)) (-1074 + (Flt.ex Ieee.double (Flt.rung64 b) : Nat)) (by omega) (by omega) (.inr (.inr ⟨by omega, by omega, rfl⟩)) (Flt.rung64 b) (by rw [Int.toNat_natCast]; exact hR)
    have e : Flt.lay64 (Flt.neg64 b) (Flt.rung64 b) = b := by
      unfold Flt.lay64 Flt.neg64
      by_cases n : b < 0
      · rw [decide_eq_true n, if_pos rfl]; omega
      · rw [decide_eq_false n, if_neg (by decide)]; omega
    rw [e] at this
    exact this
theorem join_back32 (b : Int) (hb : Flt.valid32 b = true) (hf : Flt.fin b 32 = true) : Tells 44 #[.bool (Flt.neg32 b), .int .i64 (Flt.mag32 b), .int .i64 (Flt.exp32 b), .int .i64 32] (joinV b true) := by
  obtain ⟨h1, h2, h3⟩ := Flt.parts32_rung b hb hf
  have ml : Flt.mg Ieee.single (Flt.rung32 b) < 2 * 8388608 := by have := Flt.mg_lt Ieee.single (Flt.rung32 b); rw [Flt.sfields.2.2] at this; exact this
  have hx : Flt.ex Ieee.single (Flt.rung32 b) ≤ 2046 := by
    unfold Flt.ex
    rw [Flt.sfields.2.2]
    rw [Flt.sfields.2.1] at h1
    omega
  obtain ⟨b0, b1⟩ := Flt.valid_bounds hb
  have hr : Flt.rung32 b = (b % 2147483648).toNat := rfl
  by_cases z : Flt.rung32 b = 0
  · have m0 : Flt.mag32 b = 0 := by rw [h2, z]; decide
    rw [m0]
    by_cases n : 2147483648 ≤ b
    · have : Flt.neg32 b = true := decide_eq_true n
      rw [this]
      have : b = 2147483648 := by omega
      rw [this]
      exact join32_zero_true _
    · have : Flt.neg32 b = false := decide_eq_false n
      rw [this]
      have : b = 0 := by omega
      rw [this]
      exact join32_zero_false _
  · have hR := Flt.rep_back Ieee.single (by rw [Flt.splace]; decide) (Flt.rung32 b) (by omega) h1
    have hp := Flt.mg_pos Ieee.single (r := Flt.rung32 b) (by omega)
    rw [h2, h3]
    rw [Flt.splace] at hR ⊢
    have := join32_some (Flt.neg32 b) (Flt.mg Ieee.single (Flt.rung32 b) : Int) (-149 + (Flt.ex Ieee.single (Flt.rung32 b) : Nat)) (-149 + (Flt.ex Ieee.single (Flt.rung32 b) : Nat)) (by omega) (by omega) (.inr (.inr ⟨by omega, by omega, rfl⟩)) (Flt.rung32 b) (by rw [Int.toNat_natCast]; exact hR)
    have e : Flt.lay32 (Flt.neg32 b) (Flt.rung32 b) = b := by
      unfold Flt.lay32 Flt.neg32
      by_cases n : 2147483648 ≤ b
      · rw [decide_eq_true n, if_pos rfl]; omega
      · rw [decide_eq_false n, if_neg (by decide)]; omega
    rw [e] at this
    exact this
end Go.Proofs.Ytjogbiopbobifaa
