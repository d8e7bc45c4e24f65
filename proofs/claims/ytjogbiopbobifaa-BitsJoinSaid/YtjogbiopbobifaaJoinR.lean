/- The document's Join: what the printed function tells. -/
import Derived.Test.YtjogbiopbobifaaJoinF
import Derived.Test.YtjogbiopbobifaaRefA
import Derived.Test.YtjogbiopbobifaaFPupilref1Join
namespace Go.Proofs.Ytjogbiopbobifaa
open Go.RowKit Go.Proofs.YtjogbiopbobifaaW.PrintWords

theorem some_pair {a b : Int} (h : a = b) : (some (a, true) : Option (Int × Bool)) = some (b, true) := by rw [h]
theorem shl53 : shl .i64 1 53 = 9007199254740992 := by kernel_rfl
theorem shl24 : shl .i64 1 24 = 16777216 := by kernel_rfl

/-! ## width 64 -/
theorem rl1_64 (d : Nat) : ∀ (k m : Nat) (x : Int), x - (-1074) = d → d < k → 0 < m → m < 9007199254740992 → x ≤ 4000 →
    ∃ (m' : Nat) (e' : Int), F.pupilref1_Kind_shifted.l1 k (m : Int) x 64 53 4503599627370496 2047 (-1074) 1024 9218868437227405312 (-9223372036854775808) 9221120237041090561 = some ((m' : Int), e', true) ∧ (-1074) ≤ e' ∧ e' ≤ x ∧ 0 < m' ∧ m' < 9007199254740992 ∧ (e' = (-1074) ∨ 4503599627370496 ≤ m') ∧ Flt.sc m' e' = Flt.sc m x := by
  induction d with
  | zero =>
    intro k m x hd hk h0 h1 hx
    obtain ⟨k, rfl⟩ : ∃ j, k = j + 1 := ⟨k - 1, by omega⟩
    refine ⟨m, x, ?_, by omega, by omega, h0, h1, .inl (by omega), rfl⟩
    simp only [F.pupilref1_Kind_shifted.l1]
    rw [if_neg (by omega)]
  | succ d ih =>
    intro k m x hd hk h0 h1 hx
    obtain ⟨k, rfl⟩ : ∃ j, k = j + 1 := ⟨k - 1, by omega⟩
    by_cases c : m < 4503599627370496
    · obtain ⟨m', e', i1, i2, i3, i4, i5, i6, i7⟩ := ih k (m * 2) (x - 1) (by omega) (by omega) (by omega) (by omega) (by omega)
      refine ⟨m', e', ?_, i2, by omega, i4, i5, i6, ?_⟩
      · simp only [F.pupilref1_Kind_shifted.l1]
        rw [if_pos (by omega), if_pos (by omega)]
        have w1 : wrap64 ((m : Int) + (m : Int)) = ((m * 2 : Nat) : Int) := by unfold wrap64; omega
        have w2 : wrap64 (x - 1) = x - 1 := by unfold wrap64; omega
        rw [w1, w2]; exact i1
      · rw [i7]
        have := Flt.sc_shift m 1 (x - 1) (by have := Flt.K_eq; omega)
        rw [show m * 2 ^ 1 = m * 2 by simp] at this
        rw [this]; congr 1; omega
    · refine ⟨m, x, ?_, by omega, by omega, h0, h1, .inr (by omega), rfl⟩
      simp only [F.pupilref1_Kind_shifted.l1]
      rw [if_pos (by omega), if_neg (by omega)]
theorem rl0_64 (o : Nat) (ho : o % 2 = 1) (t : Nat) : ∀ (k : Nat) (x : Int), o * 2 ^ t < 9223372036854775808 → -3000 ≤ x → x + t ≤ 4000 →
    F.pupilref1_Kind_shifted.l0 (k + t + 1) ((o * 2 ^ t : Nat) : Int) x 64 53 4503599627370496 2047 (-1074) 1024 9218868437227405312 (-9223372036854775808) 9221120237041090561 = F.pupilref1_Kind_shifted.j1 k (o : Int) (x + t) 64 53 4503599627370496 2047 (-1074) 1024 9218868437227405312 (-9223372036854775808) 9221120237041090561 := by
  induction t with
  | zero =>
    intro k x h hx hx2
    simp only [F.pupilref1_Kind_shifted.l0, Nat.pow_zero, Nat.mul_one]
    rw [if_pos (by omega), Int.tmod_eq_emod_of_nonneg (by omega), if_neg (by omega)]
    simp
  | succ t ih =>
    intro k x h hx hx2
    have e : o * 2 ^ (t + 1) = o * 2 ^ t * 2 := by rw [Nat.pow_succ, Nat.mul_assoc]
    have hp : 0 < o * 2 ^ t := Nat.mul_pos (by omega) (Nat.two_pow_pos _)
    have hk : k + (t + 1) + 1 = (k + t + 1) + 1 := by omega
    rw [hk, F.pupilref1_Kind_shifted.l0]
    rw [e] at h ⊢
    generalize hq : o * 2 ^ t = q at *
    rw [if_pos (by omega), Int.tmod_eq_emod_of_nonneg (by omega), if_pos (by omega), Int.tdiv_eq_ediv_of_nonneg (by omega)]
    have w1 : wrap64 (((q * 2 : Nat) : Int) / 2) = (q : Int) := by unfold wrap64; omega
    have w2 : wrap64 (x + 1) = x + 1 := by unfold wrap64; omega
    rw [w1, w2, ih k (x + 1) (by omega) (by omega) (by omega)]
    congr 1; omega

theorem rjoin64_pos (neg : Bool) (mag exp : Int) (m0 : 0 < mag) (m1 : mag < 9223372036854775808) (x0 : -2000 ≤ exp) (x1 : exp ≤ 2000) :
    (∃ r, Flt.Rep Ieee.double mag.toNat exp r ∧ F.pupilref1_Join.f 5000 neg mag exp 64 = some (Flt.lay64 neg r, true)) ∨ ((∀ r, ¬ Flt.Rep Ieee.double mag.toNat exp r) ∧ F.pupilref1_Join.f 5000 neg mag exp 64 = some (0, false)) := by
  obtain ⟨o, t, a1, ho⟩ := Flt.odd_part mag.toNat (by omega)
  have ht : t ≤ 63 := by
    rcases Nat.lt_or_ge 63 t with h | h
    · exfalso
      have : 2 ^ 63 ≤ 2 ^ t := Nat.pow_le_pow_right (by omega) (by omega)
      have : 1 * 2 ^ t ≤ o * 2 ^ t := Nat.mul_le_mul_right _ (by omega)
      omega
    · exact h
  have hmag : mag = ((o * 2 ^ t : Nat) : Int) := by rw [← a1]; omega
  have hK := Flt.K_eq
  have lp : Ieee.double.leastPlace = (-1074) := Flt.dplace
  have hodd : ∀ r, Flt.Rep Ieee.double mag.toNat exp r → o < 9007199254740992 ∧ (-1074) ≤ exp + t := by
    intro r hr
    have h1 : o < 2 * Ieee.double.binade := by
      rw [a1] at hr
      exact hr.odd (by rw [lp]; omega) (by omega) ho
    rw [Flt.dfields.2.2] at h1
    refine ⟨by omega, ?_⟩
    have k := hr.2.2
    obtain ⟨o2, t2, b1, ho2⟩ := Flt.odd_part _ (Flt.mg_pos Ieee.double hr.1)
    rw [Flt.val_sc _ (by rw [lp]; omega), a1, b1, Flt.sc_shift _ _ _ (by omega), Flt.sc_shift _ _ _ (by rw [lp]; omega), lp] at k
    have := (Flt.sc_odd ho ho2 (by omega) (by omega) k).2
    omega
  -- what 'shifted' tells
  have hsh : ∀ k, 4000 ≤ k → ∃ k' : Nat, 3500 ≤ k' ∧ F.pupilref1_Kind_shifted.f k 64 53 4503599627370496 2047 (-1074) 1024 9218868437227405312 (-9223372036854775808) 9221120237041090561 mag exp = F.pupilref1_Kind_shifted.j1 k' (o : Int) (exp + t) 64 53 4503599627370496 2047 (-1074) 1024 9218868437227405312 (-9223372036854775808) 9221120237041090561 := by
    intro k hk
    refine ⟨k - t - 1, by omega, ?_⟩
    unfold F.pupilref1_Kind_shifted.f
    have := rl0_64 o ho t (k - t - 1) exp (by omega) (by omega) (by omega)
    rw [show k - t - 1 + t + 1 = k by omega, ← hmag] at this
    exact this
  obtain ⟨k1, hk1, hs1⟩ := hsh 4998 (by omega)
  obtain ⟨k2, rfl⟩ : ∃ j, k1 = j + 2 := ⟨k1 - 2, by omega⟩
  have hj1 : F.pupilref1_Kind_shifted.j1 (k2 + 2) (o : Int) (exp + t) 64 53 4503599627370496 2047 (-1074) 1024 9218868437227405312 (-9223372036854775808) 9221120237041090561 = if 9007199254740992 ≤ o ∨ exp + t < (-1074) then some (0, 0, false) else F.pupilref1_Kind_shifted.l1 k2 (o : Int) (exp + t) 64 53 4503599627370496 2047 (-1074) 1024 9218868437227405312 (-9223372036854775808) 9221120237041090561 := by
    simp only [F.pupilref1_Kind_shifted.j1, F.pupilref1_Kind_shifted.j2]
    rw [if_pos (by decide), shl53]
    by_cases c : 9007199254740992 ≤ o
    · rw [if_pos (by omega), if_pos trivial, if_pos (.inl c)]
    · rw [if_neg (by omega)]
      by_cases c2 : exp + t < (-1074)
      · rw [if_pos (decide_eq_true c2), if_pos (.inr c2)]
      · rw [if_neg (by rw [decide_eq_false c2]; decide), if_neg (fun h => h.elim c c2)]
  -- Join down to 'shifted'
  have hJ : F.pupilref1_Join.f 5000 neg mag exp 64 = F.pupilref1_Join.j1 4999 mag exp (if neg = true then (-9223372036854775808) else 0) 64 53 4503599627370496 2047 (-1074) 1024 9218868437227405312 (-9223372036854775808) 9221120237041090561 := by
    unfold F.pupilref1_Join.f F.pupilref1_Of.f
    simp only [if_true, Option.bind_some]
    rw [if_neg (by omega), if_neg (by omega), if_neg (by omega)]
    simp only [F.pupilref1_Join.j0, Bool.false_eq_true, if_false]
    cases neg <;> simp
  have hJ1 : F.pupilref1_Join.j1 4999 mag exp (if neg = true then (-9223372036854775808) else 0) 64 53 4503599627370496 2047 (-1074) 1024 9218868437227405312 (-9223372036854775808) 9221120237041090561 = (F.pupilref1_Kind_shifted.f 4998 64 53 4503599627370496 2047 (-1074) 1024 9218868437227405312 (-9223372036854775808) 9221120237041090561 mag exp).bind fun bt => (if bt.2.2 = true then (F.pupilref1_Join.j2 4998 (if neg = true then (-9223372036854775808) else 0) bt.1 bt.2.1 (decide (bt.2.1 > (wrap64 (1024 - 53)))) 64 53 4503599627370496 2047 (-1074) 1024 9218868437227405312 (-9223372036854775808) 9221120237041090561) else (F.pupilref1_Join.j2 4998 (if neg = true then (-9223372036854775808) else 0) bt.1 bt.2.1 true 64 53 4503599627370496 2047 (-1074) 1024 9218868437227405312 (-9223372036854775808) 9221120237041090561)) := by
    show F.pupilref1_Join.j1 (4998 + 1) _ _ _ _ _ _ _ _ _ _ _ _ = _
    simp only [F.pupilref1_Join.j1]
    rw [if_neg (by omega)]
  have hw : wrap64 (1024 - 53) = 971 := by kernel_rfl
  rw [hJ, hJ1, hs1, hj1]
  by_cases c : 9007199254740992 ≤ o ∨ exp + t < (-1074)
  · refine .inr ⟨fun r hr => ?_, ?_⟩
    · have := hodd r hr; omega
    · rw [if_pos c, Option.bind_some]
      dsimp only
      rw [if_neg (by decide), show (4998 : Nat) = 4997 + 1 from rfl]
      simp only [F.pupilref1_Join.j2, if_true]
  · rw [if_neg c]
    have co : 0 < o := by omega
    obtain ⟨d, hd⟩ : ∃ d : Nat, exp + t - (-1074) = d := ⟨(exp + t - (-1074)).toNat, by omega⟩
    obtain ⟨m', e', i1, i2, i3, i4, i5, i6, i7⟩ := rl1_64 d k2 o (exp + t) hd (by omega) co (by omega) (by omega)
    rw [i1, Option.bind_some]
    dsimp only
    rw [if_pos rfl, hw]
    -- the rung
    have hrung : ∃ r : Nat, 0 < r ∧ Flt.sc (Flt.val Ieee.double.binade r) Ieee.double.leastPlace = Flt.sc m' e' ∧ (r < Ieee.double.infRung ↔ e' ≤ 971) ∧ ((m' < 4503599627370496 ∧ r = m') ∨ (¬ m' < 4503599627370496 ∧ (r : Int) = (e' - (-1074) + 1) * 4503599627370496 + m' - 4503599627370496)) := by
      by_cases cm : m' < 4503599627370496
      · have el : e' = (-1074) := by omega
        refine ⟨m', i4, ?_, ?_, .inl ⟨cm, rfl⟩⟩
        · unfold Flt.val
          rw [Flt.dfields.2.2, if_pos cm, lp, el]
        · rw [Flt.dfields.2.1]; omega
      · refine ⟨((e' - (-1074) + 1) * 4503599627370496 + m' - 4503599627370496).toNat, by omega, ?_, ?_, .inr ⟨cm, by omega⟩⟩
        · have hge : ¬ ((e' - (-1074) + 1) * 4503599627370496 + (m' : Int) - 4503599627370496).toNat < 4503599627370496 := by omega
          have hdv : ((e' - (-1074) + 1) * 4503599627370496 + (m' : Int) - 4503599627370496).toNat / 4503599627370496 = (e' - (-1074) + 1).toNat := by omega
          have hmo : ((e' - (-1074) + 1) * 4503599627370496 + (m' : Int) - 4503599627370496).toNat % 4503599627370496 = m' - 4503599627370496 := by omega
          unfold Flt.val
          rw [Flt.dfields.2.2, if_neg hge, hdv, hmo, show 4503599627370496 + (m' - 4503599627370496) = m' by omega, Flt.sc_shift _ _ _ (by rw [lp]; omega), lp]
          congr 1; omega
        · rw [Flt.dfields.2.1]; omega
    obtain ⟨r, r0, rv, ri, rl⟩ := hrung
    have key : Flt.sc mag.toNat exp = Flt.sc (Flt.val Ieee.double.binade r) Ieee.double.leastPlace := by
      rw [rv, i7, a1, Flt.sc_shift _ _ _ (by omega)]
    rw [show (4998 : Nat) = 4997 + 1 from rfl]
    by_cases ce : e' ≤ 971
    · refine .inl ⟨r, ⟨r0, ri.2 ce, key⟩, ?_⟩
      simp only [F.pupilref1_Join.j2]
      rw [if_neg (by rw [decide_eq_false (by omega)]; decide)]
      have hri : (r : Int) < 9218868437227405312 := by have := ri.2 ce; rw [Flt.dfields.2.1] at this; omega
      rcases rl with ⟨cm, rfl⟩ | ⟨cm, hr⟩
      · rw [if_pos (by omega)]
        unfold Flt.lay64
        cases neg
        · simp only [Bool.false_eq_true, if_false]
          exact some_pair (by clear key rv i7 hodd; unfold wrap64; omega)
        · simp only [if_true]
          exact some_pair (by clear key rv i7 hodd; unfold wrap64; omega)
      · rw [if_neg (by omega)]
        unfold Flt.lay64
        cases neg
        · simp only [Bool.false_eq_true, if_false]
          exact some_pair (by clear key rv i7 hodd; unfold wrap64; omega)
        · simp only [if_true]
          exact some_pair (by clear key rv i7 hodd; unfold wrap64; omega)
    · refine .inr ⟨fun r' hr' => ?_, ?_⟩
      · have e1 : r' = r := Flt.val_inj (Flt.binade_pos _) (Flt.sc_inj (hr'.2.2.symm.trans key))
        have := hr'.2.1
        rw [e1, ri] at this
        exact ce this
      · simp only [F.pupilref1_Join.j2]
        rw [if_pos (decide_eq_true (by omega))]

/-! ## width 32 -/
theorem rl1_32 (d : Nat) : ∀ (k m : Nat) (x : Int), x - (-149) = d → d < k → 0 < m → m < 16777216 → x ≤ 4000 →
    ∃ (m' : Nat) (e' : Int), F.pupilref1_Kind_shifted.l1 k (m : Int) x 32 24 8388608 255 (-149) 128 2139095040 2147483648 2143289345 = some ((m' : Int), e', true) ∧ (-149) ≤ e' ∧ e' ≤ x ∧ 0 < m' ∧ m' < 16777216 ∧ (e' = (-149) ∨ 8388608 ≤ m') ∧ Flt.sc m' e' = Flt.sc m x := by
  induction d with
  | zero =>
    intro k m x hd hk h0 h1 hx
    obtain ⟨k, rfl⟩ : ∃ j, k = j + 1 := ⟨k - 1, by omega⟩
    refine ⟨m, x, ?_, by omega, by omega, h0, h1, .inl (by omega), rfl⟩
    simp only [F.pupilref1_Kind_shifted.l1]
    rw [if_neg (by omega)]
  | succ d ih =>
    intro k m x hd hk h0 h1 hx
    obtain ⟨k, rfl⟩ : ∃ j, k = j + 1 := ⟨k - 1, by omega⟩
    by_cases c : m < 8388608
    · obtain ⟨m', e', i1, i2, i3, i4, i5, i6, i7⟩ := ih k (m * 2) (x - 1) (by omega) (by omega) (by omega) (by omega) (by omega)
      refine ⟨m', e', ?_, i2, by omega, i4, i5, i6, ?_⟩
      · simp only [F.pupilref1_Kind_shifted.l1]
        rw [if_pos (by omega), if_pos (by omega)]
        have w1 : wrap64 ((m : Int) + (m : Int)) = ((m * 2 : Nat) : Int) := by unfold wrap64; omega
        have w2 : wrap64 (x - 1) = x - 1 := by unfold wrap64; omega
        rw [w1, w2]; exact i1
      · rw [i7]
        have := Flt.sc_shift m 1 (x - 1) (by have := Flt.K_eq; omega)
        rw [show m * 2 ^ 1 = m * 2 by simp] at this
        rw [this]; congr 1; omega
    · refine ⟨m, x, ?_, by omega, by omega, h0, h1, .inr (by omega), rfl⟩
      simp only [F.pupilref1_Kind_shifted.l1]
      rw [if_pos (by omega), if_neg (by omega)]
theorem rl0_32 (o : Nat) (ho : o % 2 = 1) (t : Nat) : ∀ (k : Nat) (x : Int), o * 2 ^ t < 9223372036854775808 → -3000 ≤ x → x + t ≤ 4000 →
    F.pupilref1_Kind_shifted.l0 (k + t + 1) ((o * 2 ^ t : Nat) : Int) x 32 24 8388608 255 (-149) 128 2139095040 2147483648 2143289345 = F.pupilref1_Kind_shifted.j1 k (o : Int) (x + t) 32 24 8388608 255 (-149) 128 2139095040 2147483648 2143289345 := by
  induction t with
  | zero =>
    intro k x h hx hx2
    simp only [F.pupilref1_Kind_shifted.l0, Nat.pow_zero, Nat.mul_one]
    rw [if_pos (by omega), Int.tmod_eq_emod_of_nonneg (by omega), if_neg (by omega)]
    simp
  | succ t ih =>
    intro k x h hx hx2
    have e : o * 2 ^ (t + 1) = o * 2 ^ t * 2 := by rw [Nat.pow_succ, Nat.mul_assoc]
    have hp : 0 < o * 2 ^ t := Nat.mul_pos (by omega) (Nat.two_pow_pos _)
    have hk : k + (t + 1) + 1 = (k + t + 1) + 1 := by omega
    rw [hk, F.pupilref1_Kind_shifted.l0]
    rw [e] at h ⊢
    generalize hq : o * 2 ^ t = q at *
    rw [if_pos (by omega), Int.tmod_eq_emod_of_nonneg (by omega), if_pos (by omega), Int.tdiv_eq_ediv_of_nonneg (by omega)]
    have w1 : wrap64 (((q * 2 : Nat) : Int) / 2) = (q : Int) := by unfold wrap64; omega
    have w2 : wrap64 (x + 1) = x + 1 := by unfold wrap64; omega
    rw [w1, w2, ih k (x + 1) (by omega) (by omega) (by omega)]
    congr 1; omega

theorem rjoin32_pos (neg : Bool) (mag exp : Int) (m0 : 0 < mag) (m1 : mag < 9223372036854775808) (x0 : -2000 ≤ exp) (x1 : exp ≤ 2000) :
    (∃ r, Flt.Rep Ieee.single mag.toNat exp r ∧ F.pupilref1_Join.f 5000 neg mag exp 32 = some (Flt.lay32 neg r, true)) ∨ ((∀ r, ¬ Flt.Rep Ieee.single mag.toNat exp r) ∧ F.pupilref1_Join.f 5000 neg mag exp 32 = some (0, false)) := by
  obtain ⟨o, t, a1, ho⟩ := Flt.odd_part mag.toNat (by omega)
  have ht : t ≤ 63 := by
    rcases Nat.lt_or_ge 63 t with h | h
    · exfalso
      have : 2 ^ 63 ≤ 2 ^ t := Nat.pow_le_pow_right (by omega) (by omega)
      have : 1 * 2 ^ t ≤ o * 2 ^ t := Nat.mul_le_mul_right _ (by omega)
      omega
    · exact h
  have hmag : mag = ((o * 2 ^ t : Nat) : Int) := by rw [← a1]; omega
  have hK := Flt.K_eq
  have lp : Ieee.single.leastPlace = (-149) := Flt.splace
  have hodd : ∀ r, Flt.Rep Ieee.single mag.toNat exp r → o < 16777216 ∧ (-149) ≤ exp + t := by
    intro r hr
    have h1 : o < 2 * Ieee.single.binade := by
      rw [a1] at hr
      exact hr.odd (by rw [lp]; omega) (by omega) ho
    rw [Flt.sfields.2.2] at h1
    refine ⟨by omega, ?_⟩
    have k := hr.2.2
    obtain ⟨o2, t2, b1, ho2⟩ := Flt.odd_part _ (Flt.mg_pos Ieee.single hr.1)
    rw [Flt.val_sc _ (by rw [lp]; omega), a1, b1, Flt.sc_shift _ _ _ (by omega), Flt.sc_shift _ _ _ (by rw [lp]; omega), lp] at k
    have := (Flt.sc_odd ho ho2 (by omega) (by omega) k).2
    omega
  -- what 'shifted' tells
  have hsh : ∀ k, 4000 ≤ k → ∃ k' : Nat, 3500 ≤ k' ∧ F.pupilref1_Kind_shifted.f k 32 24 8388608 255 (-149) 128 2139095040 2147483648 2143289345 mag exp = F.pupilref1_Kind_shifted.j1 k' (o : Int) (exp + t) 32 24 8388608 255 (-149) 128 2139095040 2147483648 2143289345 := by
    intro k hk
    refine ⟨k - t - 1, by omega, ?_⟩
    unfold F.pupilref1_Kind_shifted.f
    have := rl0_32 o ho t (k - t - 1) exp (by omega) (by omega) (by omega)
    rw [show k - t - 1 + t + 1 = k by omega, ← hmag] at this
    exact this
  obtain ⟨k1, hk1, hs1⟩ := hsh 4998 (by omega)
  obtain ⟨k2, rfl⟩ : ∃ j, k1 = j + 2 := ⟨k1 - 2, by omega⟩
  have hj1 : F.pupilref1_Kind_shifted.j1 (k2 + 2) (o : Int) (exp + t) 32 24 8388608 255 (-149) 128 2139095040 2147483648 2143289345 = if 16777216 ≤ o ∨ exp + t < (-149) then some (0, 0, false) else F.pupilref1_Kind_shifted.l1 k2 (o : Int) (exp + t) 32 24 8388608 255 (-149) 128 2139095040 2147483648 2143289345 := by
    simp only [F.pupilref1_Kind_shifted.j1, F.pupilref1_Kind_shifted.j2]
    rw [if_pos (by decide), shl24]
    by_cases c : 16777216 ≤ o
    · rw [if_pos (by omega), if_pos trivial, if_pos (.inl c)]
    · rw [if_neg (by omega)]
      by_cases c2 : exp + t < (-149)
      · rw [if_pos (decide_eq_true c2), if_pos (.inr c2)]
      · rw [if_neg (by rw [decide_eq_false c2]; decide), if_neg (fun h => h.elim c c2)]
  -- Join down to 'shifted'
  have hJ : F.pupilref1_Join.f 5000 neg mag exp 32 = F.pupilref1_Join.j1 4999 mag exp (if neg = true then 2147483648 else 0) 32 24 8388608 255 (-149) 128 2139095040 2147483648 2143289345 := by
    unfold F.pupilref1_Join.f F.pupilref1_Of.f
    simp only [if_true, show ¬ (32 : Int) = 64 by decide, if_false, Option.bind_some]
    rw [if_neg (by omega), if_neg (by omega), if_neg (by omega)]
    simp only [F.pupilref1_Join.j0, Bool.false_eq_true, if_false]
    cases neg <;> simp
  have hJ1 : F.pupilref1_Join.j1 4999 mag exp (if neg = true then 2147483648 else 0) 32 24 8388608 255 (-149) 128 2139095040 2147483648 2143289345 = (F.pupilref1_Kind_shifted.f 4998 32 24 8388608 255 (-149) 128 2139095040 2147483648 2143289345 mag exp).bind fun bt => (if bt.2.2 = true then (F.pupilref1_Join.j2 4998 (if neg = true then 2147483648 else 0) bt.1 bt.2.1 (decide (bt.2.1 > (wrap64 (128 - 24)))) 32 24 8388608 255 (-149) 128 2139095040 2147483648 2143289345) else (F.pupilref1_Join.j2 4998 (if neg = true then 2147483648 else 0) bt.1 bt.2.1 true 32 24 8388608 255 (-149) 128 2139095040 2147483648 2143289345)) := by
    show F.pupilref1_Join.j1 (4998 + 1) _ _ _ _ _ _ _ _ _ _ _ _ = _
    simp only [F.pupilref1_Join.j1]
    rw [if_neg (by omega)]
  have hw : wrap64 (128 - 24) = 104 := by kernel_rfl
  rw [hJ, hJ1, hs1, hj1]
  by_cases c : 16777216 ≤ o ∨ exp + t < (-149)
  · refine .inr ⟨fun r hr => ?_, ?_⟩
    · have := hodd r hr; omega
    · rw [if_pos c, Option.bind_some]
      dsimp only
      rw [if_neg (by decide), show (4998 : Nat) = 4997 + 1 from rfl]
      simp only [F.pupilref1_Join.j2, if_true]
  · rw [if_neg c]
    have co : 0 < o := by omega
    obtain ⟨d, hd⟩ : ∃ d : Nat, exp + t - (-149) = d := ⟨(exp + t - (-149)).toNat, by omega⟩
    obtain ⟨m', e', i1, i2, i3, i4, i5, i6, i7⟩ := rl1_32 d k2 o (exp + t) hd (by omega) co (by omega) (by omega)
    rw [i1, Option.bind_some]
    dsimp only
    rw [if_pos rfl, hw]
    -- the rung
    have hrung : ∃ r : Nat, 0 < r ∧ Flt.sc (Flt.val Ieee.single.binade r) Ieee.single.leastPlace = Flt.sc m' e' ∧ (r < Ieee.single.infRung ↔ e' ≤ 104) ∧ ((m' < 8388608 ∧ r = m') ∨ (¬ m' < 8388608 ∧ (r : Int) = (e' - (-149) + 1) * 8388608 + m' - 8388608)) := by
      by_cases cm : m' < 8388608
      · have el : e' = (-149) := by omega
        refine ⟨m', i4, ?_, ?_, .inl ⟨cm, rfl⟩⟩
        · unfold Flt.val
          rw [Flt.sfields.2.2, if_pos cm, lp, el]
        · rw [Flt.sfields.2.1]; omega
      · refine ⟨((e' - (-149) + 1) * 8388608 + m' - 8388608).toNat, by omega, ?_, ?_, .inr ⟨cm, by omega⟩⟩
        · have hge : ¬ ((e' - (-149) + 1) * 8388608 + (m' : Int) - 8388608).toNat < 8388608 := by omega
          have hdv : ((e' - (-149) + 1) * 8388608 + (m' : Int) - 8388608).toNat / 8388608 = (e' - (-149) + 1).toNat := by omega
          have hmo : ((e' - (-149) + 1) * 8388608 + (m' : Int) - 8388608).toNat % 8388608 = m' - 8388608 := by omega
          unfold Flt.val
          rw [Flt.sfields.2.2, if_neg hge, hdv, hmo, show 8388608 + (m' - 8388608) = m' by omega, Flt.sc_shift _ _ _ (by rw [lp]; omega), lp]
          congr 1; omega
        · rw [Flt.sfields.2.1]; omega
    obtain ⟨r, r0, rv, ri, rl⟩ := hrung
    have key : Flt.sc mag.toNat exp = Flt.sc (Flt.val Ieee.single.binade r) Ieee.single.leastPlace := by
      rw [rv, i7, a1, Flt.sc_shift _ _ _ (by omega)]
    rw [show (4998 : Nat) = 4997 + 1 from rfl]
    by_cases ce : e' ≤ 104
    · refine .inl ⟨r, ⟨r0, ri.2 ce, key⟩, ?_⟩
      simp only [F.pupilref1_Join.j2]
      rw [if_neg (by rw [decide_eq_false (by omega)]; decide)]
      have hri : (r : Int) < 2139095040 := by have := ri.2 ce; rw [Flt.sfields.2.1] at this; omega
      rcases rl with ⟨cm, rfl⟩ | ⟨cm, hr⟩
      · rw [if_pos (by omega)]
        unfold Flt.lay32
        cases neg
        · simp only [Bool.false_eq_true, if_false]
          exact some_pair (by clear key rv i7 hodd; unfold wrap64; omega)
        · simp only [if_true]
          exact some_pair (by clear key rv i7 hodd; unfold wrap64; omega)
      · rw [if_neg (by omega)]
        unfold Flt.lay32
        cases neg
        · simp only [Bool.false_eq_true, if_false]
          exact some_pair (by clear key rv i7 hodd; unfold wrap64; omega)
        · simp only [if_true]
          exact some_pair (by clear key rv i7 hodd; unfold wrap64; omega)
    · refine .inr ⟨fun r' hr' => ?_, ?_⟩
      · have e1 : r' = r := Flt.val_inj (Flt.binade_pos _) (Flt.sc_inj (hr'.2.2.symm.trans key))
        have := hr'.2.1
        rw [e1, ri] at this
        exact ce this
      · simp only [F.pupilref1_Join.j2]
        rw [if_pos (decide_eq_true (by omega))]
end Go.Proofs.Ytjogbiopbobifaa
