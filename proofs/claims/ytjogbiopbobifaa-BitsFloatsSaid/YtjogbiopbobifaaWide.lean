/- A binary32 seen as a binary64: the same number; the order of two stays. No Go in sight. -/
import Derived.Test.YtjogbiopbobifaaNear
import Derived.Test.YtjogbiopbobifaaSpec
namespace Go.Proofs.Ytjogbiopbobifaa.Flt
open Ieee

theorem dplace : double.leastPlace = -1074 := by decide
theorem splace : single.leastPlace = -149 := by decide

/-- the word of binary64 that a word of binary32 is seen as (no NaN) -/
def wide (n : Nat) : Nat := double.write (single.read n)

theorem word_mod (f : Format) (neg : Bool) (r : Nat) (hr : r < f.signWeight) : f.word neg r % f.signWeight = r ∧ (f.word neg r / f.signWeight % 2 == 1) = neg := by
  unfold Format.word
  cases neg
  · rw [if_neg (by decide), Nat.mod_eq_of_lt hr, Nat.div_eq_of_lt hr]; exact ⟨rfl, rfl⟩
  · rw [if_pos rfl, Nat.add_mod_left, Nat.mod_eq_of_lt hr, Nat.add_div_left _ (by omega), Nat.div_eq_of_lt hr]; exact ⟨rfl, rfl⟩

/-- how far the least place of binary64 lies below that of binary32 -/
def gapW : Nat := 925
def topD : Nat := 2046
def topS : Nat := 254
theorem gapW_eq : (gapW : Int) = 925 := rfl
theorem val_inf (f : Format) (hf : Ok f) (e : Nat) (he : f.infRung / f.binade - 1 = e) : val f.binade f.infRung = 2 ^ f.fractionBits * 2 ^ e := by
  unfold val
  rw [if_neg (by have := hf.1; omega), hf.2.1, he, Nat.add_zero]; rfl
theorem val_single_lt (r : Nat) (hr : r < single.infRung) : val single.binade r * 2 ^ gapW < val double.binade double.infRung := by
  have h := val_lt_of_lt (B := single.binade) (binade_pos _) hr
  rw [val_inf single ok_single topS (by decide), ← Nat.pow_add] at h
  rw [val_inf double ok_double topD (by decide), ← Nat.pow_add]
  calc val single.binade r * 2 ^ gapW < 2 ^ (single.fractionBits + topS) * 2 ^ gapW := Nat.mul_lt_mul_of_pos_right h (Nat.two_pow_pos _)
    _ = 2 ^ (single.fractionBits + topS + gapW) := by rw [← Nat.pow_add]
    _ ≤ 2 ^ (double.fractionBits + topD) := Nat.pow_le_pow_right (by omega) (by decide)

/-- a finite one's rung -/
theorem wide_fin (n : Nat) (h : n % single.signWeight < single.infRung) : ∃ R, R < double.infRung ∧ val double.binade R = val single.binade (n % single.signWeight) * 2 ^ gapW ∧ wide n = double.word (n / single.signWeight % 2 == 1) R := by
  have hm : mg single (n % single.signWeight) < 2 * double.binade := by
    have hB : single.binade ≤ double.binade := by decide
    unfold mg
    split
    · omega
    · have := Nat.mod_lt (n % single.signWeight) (binade_pos single)
      omega
  obtain ⟨R, hR⟩ := rung_of double (ex single (n % single.signWeight) + gapW) (mg single (n % single.signWeight)) hm
  have hv : val double.binade R = val single.binade (n % single.signWeight) * 2 ^ gapW := by rw [hR, val_eq, Nat.mul_assoc, ← Nat.pow_add]
  have hlt : R < double.infRung := by
    have h1 := val_single_lt _ h
    rw [← hv] at h1
    have h2 := val_le_iff (r := double.infRung) (s := R) (binade_pos double)
    omega
  refine ⟨R, hlt, hv, ?_⟩
  unfold wide
  rw [read_eq single ok_single n, if_pos h]
  show double.nearest _ _ _ = _
  refine nearest_exact double _ _ _ R hlt (by rw [dplace, splace]; omega) ?_
  rw [hR, dplace, splace]
  have := gapW_eq
  congr 2
  omega
theorem wide_inf (n : Nat) (h : n % single.signWeight = single.infRung) : wide n = double.word (n / single.signWeight % 2 == 1) double.infRung := by
  unfold wide
  rw [read_eq single ok_single n, if_neg (by omega), if_pos h]
  rfl

/-- what a word that is no NaN is seen as: its sign stays, its rung keeps the order -/
theorem wide_rung (n : Nat) (h : isNaN single n = false) : ∃ R, R ≤ double.infRung ∧ wide n = double.word (n / single.signWeight % 2 == 1) R ∧
    ((n % single.signWeight < single.infRung ∧ R < double.infRung ∧ val double.binade R = val single.binade (n % single.signWeight) * 2 ^ gapW) ∨ (n % single.signWeight = single.infRung ∧ R = double.infRung)) := by
  unfold isNaN at h
  have h' : ¬ single.infRung < n % single.signWeight := by simpa using h
  by_cases c : n % single.signWeight < single.infRung
  · obtain ⟨R, h1, h2, h3⟩ := wide_fin n c
    exact ⟨R, by omega, h3, .inl ⟨c, h1, h2⟩⟩
  · have c' : n % single.signWeight = single.infRung := by omega
    exact ⟨_, Nat.le_refl _, wide_inf n c', .inr ⟨c', rfl⟩⟩

theorem wide_lt (n : Nat) : wide n < 18446744073709551616 := double.write_lt _
theorem wide_num (n : Nat) (h : isNaN single n = false) : isNaN double (wide n) = false := by
  obtain ⟨R, hR, hw, _⟩ := wide_rung n h
  have hlt : R < double.signWeight := Nat.lt_of_le_of_lt hR ok_double.2.2
  unfold isNaN
  rw [hw, (word_mod double _ R hlt).1]
  simp; omega
theorem wide_sign (n : Nat) (h : isNaN single n = false) : (wide n / double.signWeight % 2 == 1) = (n / single.signWeight % 2 == 1) := by
  obtain ⟨R, hR, hw, _⟩ := wide_rung n h
  have hlt : R < double.signWeight := Nat.lt_of_le_of_lt hR ok_double.2.2
  rw [hw, (word_mod double _ R hlt).2]

theorem wide_compare (a b : Nat) (ha : isNaN single a = false) (hb : isNaN single b = false) : compare (srung double (wide a)) (srung double (wide b)) = compare (srung single a) (srung single b) := by
  obtain ⟨R, hR, hw, hc⟩ := wide_rung a ha
  obtain ⟨S, hS, hv, hd⟩ := wide_rung b hb
  have hRl : R < double.signWeight := Nat.lt_of_le_of_lt hR ok_double.2.2
  have hSl : S < double.signWeight := Nat.lt_of_le_of_lt hS ok_double.2.2
  unfold srung
  rw [hw, hv, (word_mod double _ R hRl).1, (word_mod double _ R hRl).2, (word_mod double _ S hSl).1, (word_mod double _ S hSl).2]
  have hp := Nat.two_pow_pos gapW
  have hDB := binade_pos double
  have hSB := binade_pos single
  generalize a % single.signWeight = r at *
  generalize b % single.signWeight = s at *
  generalize (a / single.signWeight % 2 == 1) = p
  generalize (b / single.signWeight % 2 == 1) = q
  have key : ∀ {R S r s : Nat}, (r < single.infRung ∧ R < double.infRung ∧ val double.binade R = val single.binade r * 2 ^ gapW) ∨ (r = single.infRung ∧ R = double.infRung) → (s < single.infRung ∧ S < double.infRung ∧ val double.binade S = val single.binade s * 2 ^ gapW) ∨ (s = single.infRung ∧ S = double.infRung) → (R ≤ S ↔ r ≤ s) := by
    intro R S r s h1 h2
    rcases h1 with ⟨h1, h3, h5⟩ | ⟨h1, h3⟩ <;> rcases h2 with ⟨h2, h4, h6⟩ | ⟨h2, h4⟩
    · rw [← val_le_iff hDB, ← val_le_iff (r := r) (s := s) hSB, h5, h6]
      exact Nat.mul_le_mul_right_iff hp
    · omega
    · omega
    · omega
  have hz : ∀ {R r : Nat}, (r < single.infRung ∧ R < double.infRung ∧ val double.binade R = val single.binade r * 2 ^ gapW) ∨ (r = single.infRung ∧ R = double.infRung) → (R ≤ 0 ↔ r ≤ 0) := by
    intro R r h
    have h0 : (0 < single.infRung ∧ 0 < double.infRung ∧ val double.binade 0 = val single.binade 0 * 2 ^ gapW) := ⟨by decide, by decide, by unfold val; rw [if_pos hDB, if_pos hSB, Nat.zero_mul]⟩
    exact key h (.inl h0)
  have k1 := key hc hd
  have k2 := key hd hc
  have k3 := hz hc
  have k4 := hz hd
  rw [compare_int, compare_int]
  cases p <;> cases q <;> simp only [Bool.false_eq_true, if_false, if_true] <;> (repeat' split) <;> first | rfl | (exfalso; omega)

/-! ## a float that stands for a pattern -/
def neg64 (b : Int) : Bool := decide (b < 0)
def neg32 (b : Int) : Bool := decide (2147483648 ≤ b)

structure Stands (b w : Int) (r : Nat) : Prop where
  lt : r < 18446744073709551616
  wide64 : w = 64 → r = w64 b
  nan : w = 32 → cls32 b = 4 → isNaN double r = true
  num : w = 32 → ¬ cls32 b = 4 → r = wide (w32 b)

def sr (b w : Int) : Int := if w = 64 then sr64 b else sr32 b

theorem valid_of_cls {b : Int} (h : ¬ cls32 b = 4) : valid32 b = true := by
  cases hv : valid32 b
  · exfalso; apply h; unfold cls32; rw [hv]; rfl
  · rfl
theorem w32_num {b : Int} (h : ¬ cls32 b = 4) : isNaN single (w32 b) = false := by rw [w32_nan]; simpa using h

theorem stands_nan {b w : Int} {r : Nat} (hw : w = 64 ∨ w = 32) (hb : I64 b) (h : Stands b w r) : isNaN double r = decide (cls b w = 4) := by
  rcases hw with rfl | rfl
  · rw [h.wide64 rfl, w64_nan b hb]; rfl
  · by_cases c : cls32 b = 4
    · rw [h.nan rfl c]; symm; exact decide_eq_true c
    · rw [h.num rfl c, wide_num _ (w32_num c)]; symm; exact decide_eq_false c

theorem stands_order {b c w : Int} {r s : Nat} (hw : w = 64 ∨ w = 32) (hb : I64 b) (hc : I64 c) (h : Stands b w r) (k : Stands c w s) :
    double.order r s = if cls b w = 4 ∨ cls c w = 4 then none else some (compare (sr b w) (sr c w)) := by
  rw [order_eq double ok_double, stands_nan hw hb h, stands_nan hw hc k]
  by_cases c1 : cls b w = 4
  · simp [c1]
  · by_cases c2 : cls c w = 4
    · simp [c2]
    · simp only [c1, c2, decide_false, Bool.or_self, Bool.false_eq_true, if_false, or_self]
      rcases hw with rfl | rfl
      · rw [h.wide64 rfl, k.wide64 rfl, w64_srung b hb, w64_srung c hc]; rfl
      · have c1' : ¬ cls32 b = 4 := c1
        have c2' : ¬ cls32 c = 4 := c2
        rw [h.num rfl c1', k.num rfl c2', wide_compare _ _ (w32_num c1') (w32_num c2'), w32_srung b (valid_of_cls c1'), w32_srung c (valid_of_cls c2')]; rfl
end Go.Proofs.Ytjogbiopbobifaa.Flt
