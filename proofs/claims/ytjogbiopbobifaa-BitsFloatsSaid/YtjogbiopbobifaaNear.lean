/- Rounding to the nearest word hangs on the number alone, not on how it is written; a number that the format has is written as itself. No Go in sight. -/
import Derived.Test.YtjogbiopbobifaaFlt
namespace Go.Proofs.Ytjogbiopbobifaa.Flt
open Ieee

theorem log2_mul_pow (m k : Nat) (hm : m ≠ 0) : (m * 2 ^ k).log2 = m.log2 + k := by
  induction k with
  | zero => simp
  | succ k ih =>
    have h0 : m * 2 ^ k ≠ 0 := Nat.mul_ne_zero hm (Nat.ne_of_gt (Nat.two_pow_pos _))
    rw [Nat.pow_succ, ← Nat.mul_assoc, Nat.mul_comm _ 2, Nat.log2_two_mul h0, ih, Nat.add_assoc]

theorem cut_eq (neg : Bool) (n d : Nat) : Toward.even.cut neg n d =
    n / 2 ^ min d (n.log2 + 2) + (decide (2 ^ min d (n.log2 + 2) < 2 * (n % 2 ^ min d (n.log2 + 2))) || (2 ^ min d (n.log2 + 2) == 2 * (n % 2 ^ min d (n.log2 + 2)) && n / 2 ^ min d (n.log2 + 2) % 2 == 1)).toNat := by
  unfold Toward.cut
  simp only [Nat.shiftLeft_eq, Nat.one_mul]

theorem cut_zero (neg : Bool) (n : Nat) : Toward.even.cut neg n 0 = n := by
  rw [cut_eq]
  simp [Nat.mod_one]

theorem cut_shift (neg : Bool) (n d j : Nat) (hn : n ≠ 0) : Toward.even.cut neg (n * 2 ^ j) (d + j) = Toward.even.cut neg n d := by
  rw [cut_eq, cut_eq, log2_mul_pow n j hn]
  have e : min (d + j) (n.log2 + j + 2) = min d (n.log2 + 2) + j := by omega
  rw [e]
  generalize min d (n.log2 + 2) = g
  have hj := Nat.two_pow_pos j
  rw [Nat.pow_add, Nat.mul_div_mul_right _ _ hj, Nat.mul_mod_mul_right, ← Nat.mul_assoc 2]
  have e1 : decide (2 ^ g * 2 ^ j < 2 * (n % 2 ^ g) * 2 ^ j) = decide (2 ^ g < 2 * (n % 2 ^ g)) := by
    rw [decide_eq_decide]; exact Nat.mul_lt_mul_right hj
  have e2 : (2 ^ g * 2 ^ j == 2 * (n % 2 ^ g) * 2 ^ j) = (2 ^ g == 2 * (n % 2 ^ g)) := by
    rw [Bool.eq_iff_iff, beq_iff_eq, beq_iff_eq]
    exact ⟨fun h => Nat.eq_of_mul_eq_mul_right hj h, fun h => congrArg (· * 2 ^ j) h⟩
  rw [e1, e2]

/-- the same number, written with 'k' digits more -/
theorem nearest_shift (f : Format) (neg : Bool) (m k : Nat) (place : Int) : f.nearest neg (m * 2 ^ k) place = f.nearest neg m (place + k) := by
  unfold Format.nearest
  by_cases hm : m = 0
  · subst hm; simp
  have h0 : m * 2 ^ k ≠ 0 := Nat.mul_ne_zero hm (Nat.ne_of_gt (Nat.two_pow_pos _))
  rw [if_neg h0, if_neg hm, log2_mul_pow m k hm]
  have e : place + ((m.log2 + k : Nat) : Int) - f.fractionBits = place + k + (m.log2 : Int) - f.fractionBits := by omega
  rw [e]
  generalize max (place + k + (m.log2 : Int) - f.fractionBits) f.leastPlace = last
  have key : Toward.even.cut neg ((m * 2 ^ k) <<< (place - last).toNat) (last - place).toNat = Toward.even.cut neg (m <<< (place + k - last).toNat) (last - (place + k)).toNat := by
    rw [Nat.shiftLeft_eq, Nat.shiftLeft_eq]
    by_cases h1 : last ≤ place
    · rw [show (last - place).toNat = 0 by omega, show (last - (place + k)).toNat = 0 by omega, cut_zero, cut_zero, Nat.mul_assoc, ← Nat.pow_add]
      congr 2; omega
    · by_cases h2 : last ≤ place + k
      · rw [show (last - (place + k)).toNat = 0 by omega, show (place - last).toNat = 0 by omega, cut_zero, Nat.pow_zero, Nat.mul_one]
        have e3 : m * 2 ^ k = m * 2 ^ (place + k - last).toNat * 2 ^ (last - place).toNat := by
          rw [Nat.mul_assoc, ← Nat.pow_add]; congr 2; omega
        have h3 : m * 2 ^ (place + k - last).toNat ≠ 0 := Nat.mul_ne_zero hm (Nat.ne_of_gt (Nat.two_pow_pos _))
        rw [e3]
        have := cut_shift neg (m * 2 ^ (place + k - last).toNat) 0 (last - place).toNat h3
        rw [Nat.zero_add] at this
        rw [this, cut_zero]
      · rw [show (place - last).toNat = 0 by omega, show (place + k - last).toNat = 0 by omega, Nat.pow_zero, Nat.mul_one, Nat.mul_one]
        have e4 : (last - place).toNat = (last - (place + k)).toNat + k := by omega
        rw [e4, cut_shift neg m _ k hm]
  dsimp only
  rw [key]

/-- a word's own number is written as that word -/
theorem nearest_rung (f : Format) (neg : Bool) (r : Nat) (hr : r < f.infRung) : f.nearest neg (mg f r) (f.leastPlace + (ex f r : Nat)) = f.word neg r := by
  have hB := binade_pos f
  unfold Format.nearest
  by_cases hm : mg f r = 0
  · rw [if_pos hm]
    have : r = 0 := by
      unfold mg at hm
      split at hm <;> omega
    rw [this]
  rw [if_neg hm]
  have hBdef : f.binade = 2 ^ f.fractionBits := rfl
  by_cases h1 : r < f.binade
  · have hmr : mg f r = r := by unfold mg; rw [if_pos h1]
    have hex : ex f r = 0 := by unfold ex; rw [Nat.div_eq_of_lt h1]
    rw [hmr] at hm
    rw [hmr, hex]
    have hlog : r.log2 < f.fractionBits := by rw [Nat.log2_lt hm, ← hBdef]; exact h1
    have e : max (f.leastPlace + ((0 : Nat) : Int) + (r.log2 : Int) - f.fractionBits) f.leastPlace = f.leastPlace := by omega
    rw [e]
    simp only [Int.natCast_zero, Int.add_zero, Int.sub_self, Int.toNat_zero, Nat.shiftLeft_zero, cut_zero, Nat.zero_mul, Nat.zero_add]
    rw [Nat.min_eq_left (Nat.le_of_lt hr)]
  · have hmr : mg f r = f.binade + r % f.binade := by unfold mg; rw [if_neg h1]
    have hmod := Nat.mod_lt r hB
    have hlog : (mg f r).log2 = f.fractionBits := by
      rw [hmr, Nat.log2_eq_iff (by omega), Nat.pow_succ, ← hBdef]
      omega
    have hq : 1 ≤ r / f.binade := by rw [Nat.le_div_iff_mul_le hB]; omega
    rw [hlog]
    have e : max (f.leastPlace + (ex f r : Int) + (f.fractionBits : Int) - f.fractionBits) f.leastPlace = f.leastPlace + (ex f r : Int) := by omega
    rw [e]
    simp only [Int.sub_self, Int.toNat_zero, Nat.shiftLeft_zero, cut_zero]
    have e2 : (f.leastPlace + (ex f r : Int) - f.leastPlace).toNat = ex f r := by omega
    rw [e2, hmr]
    have e3 : ex f r * f.binade + (f.binade + r % f.binade) = r := by
      unfold ex
      have hdm := Nat.div_add_mod r f.binade
      have : (r / f.binade - 1) * f.binade + f.binade = f.binade * (r / f.binade) := by
        rw [← Nat.succ_mul, Nat.succ_eq_add_one, Nat.sub_add_cancel hq, Nat.mul_comm]
      omega
    rw [e3, Nat.min_eq_left (Nat.le_of_lt hr)]

/-- a number that the format has is written as itself -/
theorem nearest_exact (f : Format) (neg : Bool) (m : Nat) (place : Int) (r : Nat) (hr : r < f.infRung) (hp : f.leastPlace ≤ place) (h : m * 2 ^ (place - f.leastPlace).toNat = val f.binade r) :
    f.nearest neg m place = f.word neg r := by
  have h1 := nearest_shift f neg m (place - f.leastPlace).toNat f.leastPlace
  have h2 := nearest_shift f neg (mg f r) (ex f r) f.leastPlace
  rw [← val_eq] at h2
  rw [h, h2, nearest_rung f neg r hr] at h1
  rw [h1]
  congr 1; omega

/-- every number of at most so many digits stands on a rung -/
theorem rung_of (f : Format) (e : Nat) : ∀ m : Nat, m < 2 * f.binade → ∃ r, val f.binade r = m * 2 ^ e := by
  have hB := binade_pos f
  have top : ∀ e m : Nat, f.binade ≤ m → m < 2 * f.binade → val f.binade ((e + 1) * f.binade + (m - f.binade)) = m * 2 ^ e := by
    intro e m h1 h2
    unfold val
    have hd : ((e + 1) * f.binade + (m - f.binade)) / f.binade = e + 1 := by
      rw [Nat.mul_comm, Nat.mul_add_div hB, Nat.div_eq_of_lt (by omega), Nat.add_zero]
    have hmod : ((e + 1) * f.binade + (m - f.binade)) % f.binade = m - f.binade := by
      rw [Nat.mul_comm, Nat.mul_add_mod, Nat.mod_eq_of_lt (by omega)]
    have hge : ¬ ((e + 1) * f.binade + (m - f.binade)) < f.binade := by
      have : f.binade ≤ (e + 1) * f.binade := Nat.le_mul_of_pos_left _ (by omega)
      omega
    rw [if_neg hge, hd, hmod]
    congr 1; omega
  induction e with
  | zero =>
    intro m hm
    by_cases h : m < f.binade
    · exact ⟨m, by unfold val; rw [if_pos h]; simp⟩
    · exact ⟨_, top 0 m (by omega) hm⟩
  | succ e ih =>
    intro m hm
    by_cases h : m < f.binade
    · obtain ⟨r, hr⟩ := ih (2 * m) (by omega)
      exact ⟨r, by rw [hr, Nat.pow_succ, Nat.mul_comm 2 m, Nat.mul_assoc, Nat.mul_comm 2]⟩
    · exact ⟨_, top (e + 1) m (by omega) hm⟩
end Go.Proofs.Ytjogbiopbobifaa.Flt
