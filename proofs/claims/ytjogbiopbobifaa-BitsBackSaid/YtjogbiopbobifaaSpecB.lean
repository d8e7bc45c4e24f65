/- What chapter 1 says of a pattern's sign, neighbours, the one pattern of each value. No Go in sight. -/
import Derived.Test.YtjogbiopbobifaaWalkB
namespace Go.Proofs.Ytjogbiopbobifaa.Flt
open Go.RowKit

def nneg64 (b : Int) : Int := if cls64 b = 4 then nan64 else if b < 0 then b + 9223372036854775808 else b - 9223372036854775808
def nneg32 (b : Int) : Int := if cls32 b = 4 then nan32 else if 2147483648 ≤ b then b - 2147483648 else b + 2147483648
def nneg (b w : Int) : Int := if w = 64 then nneg64 b else if w = 32 then nneg32 b else 0
def nabs64 (b : Int) : Int := if cls64 b = 4 then nan64 else if b < 0 then b + 9223372036854775808 else b
def nabs32 (b : Int) : Int := if cls32 b = 4 then nan32 else if 2147483648 ≤ b then b - 2147483648 else b
def nabs (b w : Int) : Int := if w = 64 then nabs64 b else if w = 32 then nabs32 b else 0
def ncan64 (b : Int) : Int := if cls64 b = 4 then nan64 else if cls64 b = 0 then 0 else b
def ncan32 (b : Int) : Int := if cls32 b = 4 then nan32 else if cls32 b = 0 then 0 else b
def ncan (b w : Int) : Int := if w = 64 then ncan64 b else if w = 32 then ncan32 b else 0
def nprev (b w : Int) : Int := nneg (nxt (nneg b w) w) w

theorem I64_nan64 : I64 nan64 := ⟨by decide, by decide⟩
theorem valid_bounds {b : Int} (h : valid32 b = true) : 0 ≤ b ∧ b < 4294967296 := by unfold valid32 at h; simpa using h
theorem I64_32 {b : Int} (h : 0 ≤ b ∧ b < 4294967296) : I64 b := ⟨by omega, by omega⟩
theorem I64_nneg (b w : Int) (h : I64 b) : I64 (nneg b w) := by
  obtain ⟨h0, h1⟩ := h
  unfold nneg nneg64 nneg32
  split
  · split
    · exact I64_nan64
    · split <;> exact ⟨by omega, by omega⟩
  · split
    · split
      · exact ⟨by decide, by decide⟩
      · have := valid_bounds (valid_of_cls (b := b) (by assumption))
        split <;> exact ⟨by omega, by omega⟩
    · exact ⟨by decide, by decide⟩
theorem nxt64_range {b : Int} (h : I64 b) (h4 : ¬ cls64 b = 4) (hi : ¬ b = inf64) (h0 : ¬ cls64 b = 0) : I64 (b - 1) ∧ I64 (b + 1) := by
  have hr := sr64_le b h h4
  have hz := cls64_zero b h
  obtain ⟨l0, l1⟩ := h
  have hi' : ¬ b = 9218868437227405312 := hi
  have hs0 : sr64 b ≠ 0 := fun h => h0 (hz.2 h)
  unfold sr64 at hr hs0
  split at hr
  · rw [if_pos (by assumption)] at hs0; exact ⟨⟨by omega, by omega⟩, by omega, by omega⟩
  · rw [if_neg (by assumption)] at hs0; exact ⟨⟨by omega, by omega⟩, by omega, by omega⟩
theorem I64_nxt (b w : Int) (h : I64 b) : I64 (nxt b w) := by
  unfold nxt nxt64 nxt32
  split
  · split
    · exact I64_nan64
    · split
      · exact h
      · split
        · exact ⟨by decide, by decide⟩
        · have := nxt64_range h (by assumption) (by assumption) (by assumption)
          split
          · exact this.1
          · exact this.2
  · obtain ⟨h0, h1⟩ := h
    split
    · split
      · exact ⟨by decide, by decide⟩
      · have := valid_bounds (valid_of_cls (b := b) (by assumption))
        split
        · exact ⟨by omega, by omega⟩
        · split
          · exact ⟨by decide, by decide⟩
          · split <;> exact ⟨by omega, by omega⟩
    · exact ⟨by decide, by decide⟩
end Go.Proofs.Ytjogbiopbobifaa.Flt
