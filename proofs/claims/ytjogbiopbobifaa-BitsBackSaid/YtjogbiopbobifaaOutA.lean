/- The outright statements' widths and patterns; the order of all as a law of its own. -/
import Derived.Test.YtjogbiopbobifaaOrderB
import Derived.Test.YtjogbiopbobifaaFPupillaw1Either
import Derived.Test.YtjogbiopbobifaaFPupillaw1Pattern
namespace Go.Proofs.Ytjogbiopbobifaa
open Go.RowKit Go.Proofs.YtjogbiopbobifaaW.PrintWords

namespace Flt
def eit (w : Int) : Int := if w % 2 = 0 then 32 else 64
def pat (b v : Int) : Int := if v = 32 then b % 4294967296 else b
theorem eit_or (w : Int) : eit w = 64 ∨ eit w = 32 := by unfold eit; split <;> simp
theorem I64_pat (b v : Int) (hb : I64 b) : I64 (pat b v) := by
  obtain ⟨h0, h1⟩ := hb
  unfold pat
  split
  · exact ⟨by omega, by omega⟩
  · exact ⟨h0, h1⟩
/-- a pattern of a width -/
def Pat (b v : Int) : Prop := (v = 64 ∧ I64 b) ∨ (v = 32 ∧ valid32 b = true)
theorem pat_pat (b w : Int) (hb : I64 b) : Pat (pat b (eit w)) (eit w) := by
  unfold Pat pat
  rcases eit_or w with h | h <;> rw [h]
  · rw [if_neg (by decide)]; exact .inl ⟨rfl, hb⟩
  · rw [if_pos rfl]
    refine .inr ⟨rfl, ?_⟩
    unfold valid32
    rw [decide_eq_true (by omega), decide_eq_true (by omega)]; rfl
theorem Pat.i64 {b v : Int} (h : Pat b v) : I64 b := by
  rcases h with ⟨_, h⟩ | ⟨_, h⟩
  · exact h
  · exact I64_32 (valid_bounds h)
theorem Pat.wide {b v : Int} (h : Pat b v) : v = 64 ∨ v = 32 := by
  rcases h with ⟨h, _⟩ | ⟨h, _⟩
  · exact .inl h
  · exact .inr h
theorem place_inj {a b v : Int} (h : Pat a v) (k : Pat b v) (e : place a v = place b v) : a = b := by
  rcases h with ⟨rfl, h⟩ | ⟨rfl, h⟩
  · rcases k with ⟨_, k⟩ | ⟨k, _⟩
    · have e1 : (if neg64 a = true then sr64 a - 1 else sr64 a) = (if neg64 b = true then sr64 b - 1 else sr64 b) := e
      obtain ⟨a0, a1⟩ := h
      obtain ⟨b0, b1⟩ := k
      unfold neg64 sr64 at e1
      by_cases n1 : a < 0 <;> by_cases n2 : b < 0 <;> simp only [n1, n2, decide_true, decide_false, if_true, if_false, Bool.false_eq_true] at e1 <;> omega
    · cases k
  · rcases k with ⟨k, _⟩ | ⟨_, k⟩
    · cases k
    · have e1 : (if neg32 a = true then sr32 a - 1 else sr32 a) = (if neg32 b = true then sr32 b - 1 else sr32 b) := e
      obtain ⟨a0, a1⟩ := valid_bounds h
      obtain ⟨b0, b1⟩ := valid_bounds k
      unfold neg32 sr32 at e1
      by_cases n1 : 2147483648 ≤ a <;> by_cases n2 : 2147483648 ≤ b <;> simp only [n1, n2, decide_true, decide_false, if_true, if_false, Bool.false_eq_true] at e1 <;> omega
theorem nord_range (a b v : Int) : nord a b v = -1 ∨ nord a b v = 0 ∨ nord a b v = 1 := by
  unfold nord; (repeat' split) <;> simp
theorem nord_turn (a b v : Int) : nord a b v = -nord b a v := by
  unfold nord
  by_cases c1 : cls a v = 4
  · by_cases c2 : cls b v = 4 <;> simp [c1, c2]
  · by_cases c2 : cls b v = 4
    · simp [c1, c2]
    · simp only [c1, c2, if_false]
      by_cases l : place a v < place b v <;> by_cases g : place b v < place a v <;> simp only [l, g, if_true, if_false] <;> first | rfl | (exfalso; omega)
theorem nord_trans (a b c v : Int) (h : nord a b v ≤ 0) (k : nord b c v ≤ 0) : nord a c v ≤ 0 := by
  unfold nord at *
  by_cases c1 : cls a v = 4 <;> by_cases c2 : cls b v = 4 <;> by_cases c3 : cls c v = 4 <;> simp only [c1, c2, c3, if_true, if_false] at h k ⊢ <;> omega
theorem nless_nord {a b v : Int} (h : Pat a v) (k : Pat b v) (l : nless a b v = true) : nord a b v = -1 := by
  unfold nless at l
  simp only [Bool.and_eq_true, Bool.not_eq_true', decide_eq_false_iff_not, decide_eq_true_iff] at l
  obtain ⟨⟨c1, c2⟩, l⟩ := l
  have s1 := neg_sr h.wide h.i64 c1
  have s2 := neg_sr k.wide k.i64 c2
  unfold nord
  rw [if_neg c1, if_neg c2]
  have : place a v < place b v := by
    unfold place
    cases n1 : neg a v <;> cases n2 : neg b v <;> simp only [n1, n2, if_true, if_false, Bool.false_eq_true] at s1 s2 ⊢ <;> omega
  rw [if_pos this]
end Flt

theorem either_any (w : Int) : Tells 22 #[.int .i64 w] (.int .i64 (Flt.eit w)) := by
  intro W
  have hf : F.pupillaw1_either.f w = some (Flt.eit w) := by
    unfold F.pupillaw1_either.f Flt.eit
    rw [Flt.i64_and_mask w 1 (by omega) 1 (by decide)]
    have : w % 2 ^ 1 = w % 2 := rfl
    rw [this]
    rcases (show w % 2 = 0 ∨ w % 2 = 1 by omega) with h | h <;> rw [h]
    · rw [if_pos rfl, show wrap64 (32 + wrap64 (32 * 0)) = 32 by unfold wrap64; omega]
    · rw [if_neg (by decide), show wrap64 (32 + wrap64 (32 * 1)) = 64 by unfold wrap64; omega]
  refine (F.pupillaw1_either.calls w _ W hf).mono ?_
  rintro e w' ⟨he, n, rfl⟩
  exact ⟨he, below_drewN' (Below.refl _ _) n⟩
theorem pattern_any (b v : Int) : Tells 23 #[.int .i64 b, .int .i64 v] (.int .i64 (Flt.pat b v)) := by
  intro W
  have hf : F.pupillaw1_pattern.f b v = some (Flt.pat b v) := by
    unfold F.pupillaw1_pattern.f Flt.pat
    split
    · rw [Flt.i64_and_mask b 32 (by omega) 4294967295 (by decide)]; rfl
    · rfl
  refine (F.pupillaw1_pattern.calls b v _ W hf).mono ?_
  rintro e w' ⟨he, n, rfl⟩
  exact ⟨he, below_drewN' (Below.refl _ _) n⟩
end Go.Proofs.Ytjogbiopbobifaa
