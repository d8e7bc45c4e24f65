/- Plain facts on Ieee's formats: a word that is no NaN stands for its signed rung's place; the order of words is the order of signed rungs; a number that the format has is written as itself. No Go in sight. -/
import Ieee.Arith
import Derived.Laws.FloatBits
namespace Go.Proofs.Ytjogbiopbobifaa.Flt
open Ieee

/-- the value of a rung, in units of the least place -/
def val (B r : Nat) : Nat := if r < B then r else (B + r % B) * 2 ^ (r / B - 1)

theorem val_lt_of_lt {B r s : Nat} (hB : 0 < B) (h : r < s) : val B r < val B s := by
  unfold val
  by_cases hr : r < B
  · rw [if_pos hr]
    by_cases hs : s < B
    · rw [if_pos hs]; exact h
    · rw [if_neg hs]
      have : 0 < 2 ^ (s / B - 1) := Nat.two_pow_pos _
      have h1 : B ≤ (B + s % B) * 2 ^ (s / B - 1) := by
        calc B ≤ B + s % B := Nat.le_add_right _ _
          _ = (B + s % B) * 1 := (Nat.mul_one _).symm
          _ ≤ _ := Nat.mul_le_mul_left _ this
      omega
  · have hs : ¬ s < B := by omega
    rw [if_neg hr, if_neg hs]
    have hrq : 1 ≤ r / B := by
      rw [Nat.le_div_iff_mul_le hB]; omega
    have hle : r / B ≤ s / B := Nat.div_le_div_right (Nat.le_of_lt h)
    have hmr := Nat.mod_lt r hB
    have hmod := Nat.div_add_mod r B
    have hmods := Nat.div_add_mod s B
    rcases Nat.lt_or_ge (r / B) (s / B) with hq | hq
    · have e : s / B - 1 = (r / B - 1) + 1 + (s / B - r / B - 1) := by omega
      have h2 : 2 ^ (s / B - 1) = 2 ^ (r / B - 1) * 2 * 2 ^ (s / B - r / B - 1) := by rw [e, Nat.pow_add, Nat.pow_succ]
      have h3 : 0 < 2 ^ (s / B - r / B - 1) := Nat.two_pow_pos _
      have h4 : 0 < 2 ^ (r / B - 1) := Nat.two_pow_pos _
      calc (B + r % B) * 2 ^ (r / B - 1) < (B + B) * 2 ^ (r / B - 1) := Nat.mul_lt_mul_of_pos_right (by omega) h4
        _ = B * (2 ^ (r / B - 1) * 2) := by rw [← Nat.two_mul, Nat.mul_comm 2 B, Nat.mul_assoc, Nat.mul_comm 2]
        _ ≤ (B + s % B) * (2 ^ (r / B - 1) * 2) := Nat.mul_le_mul_right _ (Nat.le_add_right _ _)
        _ = (B + s % B) * (2 ^ (r / B - 1) * 2) * 1 := (Nat.mul_one _).symm
        _ ≤ (B + s % B) * (2 ^ (r / B - 1) * 2) * 2 ^ (s / B - r / B - 1) := Nat.mul_le_mul_left _ h3
        _ = _ := by rw [h2, Nat.mul_assoc]
    · have heq : r / B = s / B := by omega
      have : r % B < s % B := by
        rw [← heq] at hmods
        omega
      rw [heq]
      exact Nat.mul_lt_mul_of_pos_right (by omega) (Nat.two_pow_pos _)

theorem val_le_iff {B r s : Nat} (hB : 0 < B) : val B r ≤ val B s ↔ r ≤ s := by
  constructor
  · intro h
    rcases Nat.lt_or_ge s r with h1 | h1
    · have := val_lt_of_lt hB h1; omega
    · exact h1
  · intro h
    rcases Nat.lt_or_ge r s with h1 | h1
    · exact Nat.le_of_lt (val_lt_of_lt hB h1)
    · have : r = s := by omega
      rw [this]; exact Nat.le_refl _

theorem val_inj {B r s : Nat} (hB : 0 < B) (h : val B r = val B s) : r = s := by
  have h1 := (val_le_iff (r := r) (s := s) hB).1 (by omega)
  have h2 := (val_le_iff (r := s) (s := r) hB).1 (by omega)
  omega

/-- the signed rung -/
def srung (f : Format) (n : Nat) : Int := if n / f.signWeight % 2 == 1 then -((n % f.signWeight : Nat) : Int) else ((n % f.signWeight : Nat) : Int)
/-- is it no number? -/
def isNaN (f : Format) (n : Nat) : Bool := decide (f.infRung < n % f.signWeight)
def sv (f : Format) (n : Nat) : Int := if n / f.signWeight % 2 == 1 then -((val f.binade (n % f.signWeight) : Nat) : Int) else ((val f.binade (n % f.signWeight) : Nat) : Int)

theorem binade_pos (f : Format) : 0 < f.binade := Nat.two_pow_pos _

theorem compare_int (a b : Int) : compare a b = if a < b then .lt else if a = b then .eq else .gt := rfl

theorem compare_sv (f : Format) (x y : Nat) : compare (sv f x) (sv f y) = compare (srung f x) (srung f y) := by
  have hB := binade_pos f
  have hl := fun r s => val_le_iff (B := f.binade) (r := r) (s := s) hB
  have h0 : val f.binade 0 = 0 := by unfold val; rw [if_pos hB]
  unfold sv srung
  generalize x % f.signWeight = r
  generalize y % f.signWeight = s
  have h1 := hl r s
  have h2 := hl s r
  have h3 := hl r 0
  have h4 := hl s 0
  rw [h0] at h3 h4
  rw [compare_int, compare_int]
  split <;> split
  all_goals
    repeat' split
    all_goals first | rfl | (exfalso; omega)

theorem compare_mul (a b c : Int) (hc : 0 < c) : compare (a * c) (b * c) = compare a b := by
  rw [compare_int, compare_int]
  by_cases h : a < b
  · rw [if_pos h, if_pos (Int.mul_lt_mul_of_pos_right h hc)]
  · by_cases e : a = b
    · subst e; rw [if_neg (by omega), if_pos rfl, if_neg h, if_pos rfl]
    · have hgt : b < a := by omega
      have hh := Int.mul_lt_mul_of_pos_right hgt hc
      rw [if_neg (by omega), if_neg (by omega), if_neg h, if_neg e]

theorem signed_eq (neg : Bool) (m k : Nat) : signed neg m k = if neg then -((m * 2 ^ k : Nat) : Int) else ((m * 2 ^ k : Nat) : Int) := by
  unfold signed; rw [Nat.shiftLeft_eq]

theorem compare_signed (s t : Bool) (m n a b : Nat) (L : Int) :
    compare (signed s m (L + a - min (L + a) (L + b)).toNat) (signed t n (L + b - min (L + a) (L + b)).toNat) = compare (signed s m a) (signed t n b) := by
  have ha : (L + a - min (L + a) (L + b)).toNat = a - min a b := by omega
  have hb : (L + b - min (L + a) (L + b)).toNat = b - min a b := by omega
  rw [ha, hb]
  have hc : (0 : Int) < ((2 ^ min a b : Nat) : Int) := by
    have := Nat.two_pow_pos (min a b); omega
  rw [← compare_mul _ _ _ hc]
  have key : ∀ (s : Bool) (m a k : Nat), k ≤ a → signed s m (a - k) * ((2 ^ k : Nat) : Int) = signed s m a := by
    intro s m a k hk
    rw [signed_eq, signed_eq]
    have e : m * 2 ^ (a - k) * 2 ^ k = m * 2 ^ a := by rw [Nat.mul_assoc, ← Nat.pow_add, Nat.sub_add_cancel hk]
    split
    · rw [Int.neg_mul, ← Int.natCast_mul, e]
    · rw [← Int.natCast_mul, e]
  rw [key s m a _ (Nat.min_le_left _ _), key t n b _ (Nat.min_le_right _ _)]


/-- formats of at least one bit of exponent -/
def Ok (f : Format) : Prop := f.binade ≤ f.infRung ∧ f.infRung % f.binade = 0 ∧ f.infRung < f.signWeight
theorem ok_double : Ok double := by unfold Ok; decide
theorem ok_single : Ok single := by unfold Ok; decide

def mg (f : Format) (r : Nat) : Nat := if r < f.binade then r else f.binade + r % f.binade
def ex (f : Format) (r : Nat) : Nat := r / f.binade - 1
theorem val_eq (f : Format) (r : Nat) : val f.binade r = mg f r * 2 ^ ex f r := by
  unfold val mg ex
  split
  · rename_i h
    rw [Nat.div_eq_of_lt h]; simp
  · rfl

/-- what a word stands for, by its rung -/
theorem read_eq (f : Format) (hf : Ok f) (n : Nat) : f.read n =
    if n % f.signWeight < f.infRung then .number (n / f.signWeight % 2 == 1) (mg f (n % f.signWeight)) (f.leastPlace + (ex f (n % f.signWeight) : Nat))
    else if n % f.signWeight = f.infRung then .infinity (n / f.signWeight % 2 == 1) else .nan (n / f.signWeight % 2 == 1) (n % f.signWeight - f.infRung) := by
  obtain ⟨h0, _⟩ := hf
  unfold Format.read
  dsimp only
  generalize n % f.signWeight = r
  generalize (n / f.signWeight % 2 == 1) = s
  unfold mg ex
  by_cases h1 : r < f.binade
  · rw [if_pos h1, if_pos h1, Nat.div_eq_of_lt h1, if_pos (by omega)]
    simp
  · rw [if_neg h1, if_neg h1]

theorem signed_sv (f : Format) (n : Nat) : signed (n / f.signWeight % 2 == 1) (mg f (n % f.signWeight)) (ex f (n % f.signWeight)) = sv f n := by
  rw [signed_eq, ← val_eq]; rfl

/-- the order of words is the order of their signed rungs -/
theorem order_eq (f : Format) (hf : Ok f) (x y : Nat) : f.order x y = if isNaN f x || isNaN f y then none else some (compare (srung f x) (srung f y)) := by
  have hfin : ∀ n, n % f.signWeight < f.infRung → isNaN f n = false := fun n h => by unfold isNaN; simp; omega
  have hinf : ∀ n, n % f.signWeight = f.infRung → isNaN f n = false := fun n h => by unfold isNaN; simp; omega
  have hnan : ∀ n, ¬ n % f.signWeight < f.infRung → ¬ n % f.signWeight = f.infRung → isNaN f n = true := fun n h h' => by unfold isNaN; simp; omega
  unfold Format.order
  rw [read_eq f hf x, read_eq f hf y]
  by_cases hx : x % f.signWeight < f.infRung
  · rw [if_pos hx, hfin x hx]
    by_cases hy : y % f.signWeight < f.infRung
    · rw [if_pos hy, hfin y hy]
      simp only [Datum.order, Bool.or_self, Bool.false_eq_true, if_false]
      rw [compare_signed, signed_sv, signed_sv, compare_sv]
    · rw [if_neg hy]
      by_cases hy' : y % f.signWeight = f.infRung
      · rw [if_pos hy', hinf y hy']
        simp only [Datum.order, Bool.or_self, Bool.false_eq_true, if_false]
        rw [compare_int]
        unfold srung
        rw [hy']
        cases (y / f.signWeight % 2 == 1) <;> cases (x / f.signWeight % 2 == 1) <;> simp only [Bool.false_eq_true, if_true, if_false] <;> congr 1 <;> (repeat' split) <;> first | rfl | (exfalso; omega)
      · rw [if_neg hy', hnan y hy hy']
        simp [Datum.order]
  · rw [if_neg hx]
    by_cases hx' : x % f.signWeight = f.infRung
    · rw [if_pos hx', hinf x hx']
      by_cases hy : y % f.signWeight < f.infRung
      · rw [if_pos hy, hfin y hy]
        simp only [Datum.order, Bool.or_self, Bool.false_eq_true, if_false]
        rw [compare_int]
        unfold srung
        rw [hx']
        cases (y / f.signWeight % 2 == 1) <;> cases (x / f.signWeight % 2 == 1) <;> simp only [Bool.false_eq_true, if_true, if_false] <;> congr 1 <;> (repeat' split) <;> first | rfl | (exfalso; omega)
      · rw [if_neg hy]
        by_cases hy' : y % f.signWeight = f.infRung
        · rw [if_pos hy', hinf y hy']
          simp only [Datum.order, Bool.or_self, Bool.false_eq_true, if_false]
          have hp : 0 < f.infRung := by have := binade_pos f; have := hf.1; omega
          rw [compare_int]
          unfold srung
          rw [hx', hy']
          cases (y / f.signWeight % 2 == 1) <;> cases (x / f.signWeight % 2 == 1) <;> simp only [Bool.false_eq_true, if_true, if_false] <;> congr 1 <;> (repeat' split) <;> first | rfl | (exfalso; omega)
        · rw [if_neg hy', hnan y hy hy']
          simp [Datum.order]
    · rw [if_neg hx', hnan x hx hx']
      simp [Datum.order]
end Go.Proofs.Ytjogbiopbobifaa.Flt
