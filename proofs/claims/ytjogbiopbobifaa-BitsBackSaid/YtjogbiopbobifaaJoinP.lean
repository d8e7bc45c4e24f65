/- What is joined: a whole number times a power of 2, held against the values of a format's words. No Go in sight. -/
import Derived.Test.YtjogbiopbobifaaPlain
namespace Go.Proofs.Ytjogbiopbobifaa.Flt
open Ieee

/-- a common scale for all exponents that are met -/
def K : Nat := 4200
theorem K_eq : (K : Int) = 4200 := rfl
/-- m times 2^e, scaled -/
def sc (m : Nat) (e : Int) : Nat := m * 2 ^ (e + K).toNat
theorem sc_shift (m j : Nat) (e : Int) (he : -(K : Int) ≤ e) : sc (m * 2 ^ j) e = sc m (e + j) := by
  unfold sc
  rw [Nat.mul_assoc, ← Nat.pow_add]
  congr 2; omega
theorem sc_inj {m n : Nat} {e : Int} (h : sc m e = sc n e) : m = n := Nat.eq_of_mul_eq_mul_right (Nat.two_pow_pos _) h
theorem sc_le {m n : Nat} {e f : Int} (h : m ≤ n) (k : e ≤ f) : sc m e ≤ sc n f := Nat.mul_le_mul h (Nat.pow_le_pow_right (by omega) (by omega))
theorem sc_lt {m n : Nat} {e : Int} (h : m < n) : sc m e < sc n e := Nat.mul_lt_mul_of_pos_right h (Nat.two_pow_pos _)
theorem sc_pos {m : Nat} {e : Int} (h : 0 < m) : 0 < sc m e := Nat.mul_pos h (Nat.two_pow_pos _)

theorem odd_pow {o o' : Nat} {x y : Nat} (h : o * 2 ^ x = o' * 2 ^ y) : y ≤ x → y = x ∨ o' % 2 = 0 := by
  intro hle
  rcases Nat.lt_or_ge y x with hlt | hge
  · right
    have e : x = (x - y - 1) + 1 + y := by omega
    rw [e, Nat.pow_add, ← Nat.mul_assoc] at h
    have := Nat.eq_of_mul_eq_mul_right (Nat.two_pow_pos y) h
    rw [← this, Nat.pow_succ, ← Nat.mul_assoc]
    exact Nat.mul_mod_left _ _
  · left; omega
/-- an odd number and its exponent are told by the value -/
theorem sc_odd {o o' : Nat} {x y : Int} (ho : o % 2 = 1) (ho' : o' % 2 = 1) (hx : -(K : Int) ≤ x) (hy : -(K : Int) ≤ y) (h : sc o x = sc o' y) : o = o' ∧ x = y := by
  unfold sc at h
  have key : (x + K).toNat = (y + K).toNat := by
    rcases Nat.le_total (y + K).toNat (x + K).toNat with hl | hl
    · rcases odd_pow h hl with h1 | h1 <;> omega
    · rcases odd_pow h.symm hl with h1 | h1 <;> omega
  rw [key] at h
  exact ⟨Nat.eq_of_mul_eq_mul_right (Nat.two_pow_pos _) h, by omega⟩
/-- every number above 0 is an odd one times a power of 2 -/
theorem odd_part (m : Nat) (hm : 0 < m) : ∃ o t, m = o * 2 ^ t ∧ o % 2 = 1 := by
  induction m using Nat.strongRecOn with
  | _ m ih =>
    by_cases h : m % 2 = 1
    · exact ⟨m, 0, by simp, h⟩
    · obtain ⟨o, t, h1, h2⟩ := ih (m / 2) (by omega) (by omega)
      exact ⟨o, t + 1, by rw [Nat.pow_succ, ← Nat.mul_assoc, ← h1]; omega, h2⟩

/-- rung r's value is mag times 2^e -/
def Rep (f : Format) (mag : Nat) (e : Int) (r : Nat) : Prop := 0 < r ∧ r < f.infRung ∧ sc mag e = sc (val f.binade r) f.leastPlace

theorem val_sc (f : Format) (hl : -(K : Int) ≤ f.leastPlace) (r : Nat) : sc (val f.binade r) f.leastPlace = sc (mg f r) (f.leastPlace + (ex f r : Nat)) := by
  rw [val_eq, sc_shift _ _ _ hl]
theorem mg_lt (f : Format) (r : Nat) : mg f r < 2 * f.binade := by
  unfold mg
  have := Nat.mod_lt r (binade_pos f)
  split <;> omega
theorem mg_pos (f : Format) {r : Nat} (h : 0 < r) : 0 < mg f r := by
  unfold mg
  have := binade_pos f
  split <;> omega
theorem Rep.unique {f : Format} {mag : Nat} {e : Int} {r s : Nat} (h : Rep f mag e r) (k : Rep f mag e s) : r = s :=
  val_inj (binade_pos f) (sc_inj (h.2.2.symm.trans k.2.2))
theorem Rep.mag_pos {f : Format} {mag : Nat} {e : Int} {r : Nat} (h : Rep f mag e r) : 0 < mag := by
  rcases Nat.eq_zero_or_pos mag with h0 | h0
  · exfalso
    have h1 := h.2.2
    rw [h0] at h1
    have h2 : 0 < val f.binade r := by
      have := val_lt_of_lt (binade_pos f) h.1
      omega
    have := sc_pos (e := f.leastPlace) h2
    unfold sc at h1 this
    omega
  · exact h0
/-- the odd part of what a word has is short -/
theorem Rep.odd {f : Format} (hl : -(K : Int) ≤ f.leastPlace) {o t : Nat} {e : Int} (he : -(K : Int) ≤ e) {r : Nat} (ho : o % 2 = 1) (h : Rep f (o * 2 ^ t) e r) : o < 2 * f.binade := by
  obtain ⟨h0, h1, h2⟩ := h
  obtain ⟨o', t', h3, h4⟩ := odd_part (mg f r) (mg_pos f h0)
  rw [val_sc f hl, h3, sc_shift _ _ _ he, sc_shift _ _ _ (by omega)] at h2
  obtain ⟨h5, _⟩ := sc_odd ho h4 (by omega) (by omega) h2
  have := mg_lt f r
  have : o' ≤ mg f r := by rw [h3]; exact Nat.le_mul_of_pos_right _ (Nat.two_pow_pos _)
  omega

/-! ## a whole number as a binary64 -/
def ofMag (mag : Nat) : Nat := double.nearest false mag 0
theorem cut_bounds (n d : Nat) (hd : d ≤ n.log2) : n / 2 ^ d ≤ Toward.even.cut false n d ∧ Toward.even.cut false n d ≤ n / 2 ^ d + 1 := by
  rw [cut_eq, Nat.min_eq_left (by omega)]
  have hb : ∀ b : Bool, b.toNat ≤ 1 := by decide
  constructor
  · exact Nat.le_add_right _ _
  · exact Nat.add_le_add_left (hb _) _
theorem ofMag_bounds (mag : Nat) (h0 : 0 < mag) (h1 : mag < 9223372036854775808) : 4607182418800017408 ≤ ofMag mag ∧ ofMag mag ≤ 4890909195324358656 := by
  have hm : mag ≠ 0 := by omega
  have hL : mag.log2 < 63 := by rw [Nat.log2_lt hm]; omega
  have hlo : 2 ^ mag.log2 ≤ mag := Nat.log2_self_le hm
  have hhi : mag < 2 ^ (mag.log2 + 1) := Nat.lt_log2_self
  unfold ofMag Format.nearest
  rw [if_neg hm]
  have hfr : (double.fractionBits : Int) = 52 := rfl
  have e : max (0 + (mag.log2 : Int) - double.fractionBits) double.leastPlace = (mag.log2 : Int) - 52 := by rw [dplace, hfr]; omega
  rw [e, dplace, dfields.2.1, dfields.2.2]
  dsimp only
  have hk : 4503599627370496 ≤ Toward.even.cut false (mag <<< (0 - ((mag.log2 : Int) - 52)).toNat) ((mag.log2 : Int) - 52 - 0).toNat ∧ Toward.even.cut false (mag <<< (0 - ((mag.log2 : Int) - 52)).toNat) ((mag.log2 : Int) - 52 - 0).toNat ≤ 9007199254740992 := by
    rw [Nat.shiftLeft_eq]
    by_cases c : mag.log2 ≤ 52
    · rw [show ((mag.log2 : Int) - 52 - 0).toNat = 0 by omega, cut_zero, show (0 - ((mag.log2 : Int) - 52)).toNat = 52 - mag.log2 by omega]
      have p1 : 2 ^ mag.log2 * 2 ^ (52 - mag.log2) = 4503599627370496 := by rw [← Nat.pow_add, show mag.log2 + (52 - mag.log2) = 52 by omega]
      have p2 : 2 ^ (mag.log2 + 1) * 2 ^ (52 - mag.log2) = 9007199254740992 := by rw [← Nat.pow_add, show mag.log2 + 1 + (52 - mag.log2) = 53 by omega]
      have q1 := Nat.mul_le_mul_right (2 ^ (52 - mag.log2)) hlo
      have q2 := Nat.mul_le_mul_right (2 ^ (52 - mag.log2)) (Nat.le_of_lt hhi)
      rw [p1] at q1
      rw [p2] at q2
      exact ⟨q1, q2⟩
    · rw [show (0 - ((mag.log2 : Int) - 52)).toNat = 0 by omega, Nat.pow_zero, Nat.mul_one, show ((mag.log2 : Int) - 52 - 0).toNat = mag.log2 - 52 by omega]
      have hb := cut_bounds mag (mag.log2 - 52) (by omega)
      have p1 : 2 ^ mag.log2 = 4503599627370496 * 2 ^ (mag.log2 - 52) := by
        rw [show (4503599627370496 : Nat) = 2 ^ 52 from rfl, ← Nat.pow_add, show 52 + (mag.log2 - 52) = mag.log2 by omega]
      have p2 : 2 ^ (mag.log2 + 1) = 9007199254740992 * 2 ^ (mag.log2 - 52) := by
        rw [show (9007199254740992 : Nat) = 2 ^ 53 from rfl, ← Nat.pow_add, show 53 + (mag.log2 - 52) = mag.log2 + 1 by omega]
      have hp := Nat.two_pow_pos (mag.log2 - 52)
      have q1 : 4503599627370496 ≤ mag / 2 ^ (mag.log2 - 52) := by rw [Nat.le_div_iff_mul_le hp, ← p1]; exact hlo
      have q2 : mag / 2 ^ (mag.log2 - 52) < 9007199254740992 := by rw [Nat.div_lt_iff_lt_mul hp, ← p2]; exact hhi
      omega
  generalize Toward.even.cut false (mag <<< (0 - ((mag.log2 : Int) - 52)).toNat) ((mag.log2 : Int) - 52 - 0).toNat = kept at *
  show 4607182418800017408 ≤ (if false = true then _ else _) ∧ (if false = true then _ else _) ≤ _
  rw [if_neg (by decide)]
  generalize mag.log2 = L at *
  have ht : ((L : Int) - 52 - -1074).toNat = L + 1022 := by omega
  rw [ht]
  omega
/-- how many places a binary64 has below the point -/
def dlow : Nat := 1074
theorem dlow_eq : (dlow : Int) = 1074 := rfl
theorem ofMag_exact (mag : Nat) (h1 : mag < 9223372036854775808) {f : Format} (hf : f.binade ≤ double.binade) (hl : -(K : Int) ≤ f.leastPlace) {e : Int} (he : -(K : Int) ≤ e) {r : Nat} (h : Rep f mag e r) : val double.binade (ofMag mag) = mag * 2 ^ dlow := by
  have h0 := h.mag_pos
  obtain ⟨o, t, e1, ho⟩ := odd_part mag h0
  have hlt : o < 2 * double.binade := by
    rw [e1] at h
    have := h.odd hl he ho
    omega
  obtain ⟨R, hR⟩ := rung_of double (t + dlow) o hlt
  have hv : val double.binade R = mag * 2 ^ dlow := by rw [hR, e1, Nat.pow_add, Nat.mul_assoc]
  have hinf : R < double.infRung := by
    have h2 := val_le_iff (r := double.infRung) (s := R) (binade_pos double)
    have h3 : val double.binade R < val double.binade double.infRung := by
      rw [hv, val_inf double ok_double topD (by decide)]
      calc mag * 2 ^ dlow < 2 ^ 63 * 2 ^ dlow := Nat.mul_lt_mul_of_pos_right h1 (Nat.two_pow_pos _)
        _ = 2 ^ (63 + dlow) := by rw [← Nat.pow_add]
        _ ≤ 2 ^ (double.fractionBits + topD) := Nat.pow_le_pow_right (by omega) (by decide)
        _ = _ := by rw [Nat.pow_add]
    omega
  have hn : ofMag mag = R := by
    unfold ofMag
    rw [nearest_exact double false mag 0 R hinf (by rw [dplace]; omega) (by rw [hv, dplace]; congr 2)]
    rfl
  rw [hn, hv]

/-! ## times a power of 2 -/
def ldx (F : Nat) (E : Int) : Nat :=
  if E + ((F / 4503599627370496 : Nat) - 1023) < -1075 then 0
  else if 1023 < E + ((F / 4503599627370496 : Nat) - 1023) then 9218868437227405312
  else if -1022 ≤ E + ((F / 4503599627370496 : Nat) - 1023) then (E + ((F / 4503599627370496 : Nat) - 1023) + 1023).toNat * 4503599627370496 + F % 4503599627370496
  else double.nearest false (4503599627370496 + F % 4503599627370496) (E + ((F / 4503599627370496 : Nat) - 1023) - 52)
theorem ldx_le (F : Nat) (E : Int) : ldx F E ≤ 9218868437227405312 := by
  unfold ldx
  split
  · omega
  · split
    · omega
    · split
      · omega
      · unfold Format.nearest
        rw [if_neg (by omega), dfields.2.1]
        dsimp only
        show (if false = true then _ else _) ≤ _
        rw [if_neg (by decide)]
        exact Nat.min_le_right _ _
theorem mg_ex (F : Nat) (h : 4503599627370496 ≤ F) : mg double F = 4503599627370496 + F % 4503599627370496 ∧ ex double F = F / 4503599627370496 - 1 := by
  unfold mg ex
  rw [dfields.2.2, if_neg (by omega)]
  exact ⟨rfl, rfl⟩
theorem dK : -(K : Int) ≤ double.leastPlace := by rw [dplace, K_eq]; omega
theorem sK : -(K : Int) ≤ single.leastPlace := by rw [splace, K_eq]; omega
/-- the value of a word above the subnormal ones -/
theorem val_norm (F : Nat) (h : 4503599627370496 ≤ F) : sc (val double.binade F) double.leastPlace = sc (4503599627370496 + F % 4503599627370496) ((F / 4503599627370496 : Nat) - 1075) := by
  have hm := mg_ex F h
  rw [val_sc double dK, hm.1, hm.2, dplace]
  congr 1
  omega
theorem ldx_exact (F mag : Nat) (E : Int) (r : Nat) (hF : 4607182418800017408 ≤ F) (hF2 : F ≤ 4890909195324358656) (e0 : -3000 ≤ E) (e1 : E ≤ 3000) (hv : val double.binade F = mag * 2 ^ dlow) (h : Rep double mag E r) : ldx F E = r := by
  obtain ⟨h0, h1, h2⟩ := h
  have hK := K_eq
  have hd := dlow_eq
  -- the value, by F's own digits
  have hx : sc mag E = sc (4503599627370496 + F % 4503599627370496) (E + ((F / 4503599627370496 : Nat) - 1023) - 52) := by
    have a1 : sc mag E = sc (mag * 2 ^ dlow) (E - dlow) := by rw [sc_shift _ _ _ (by omega)]; congr 1; omega
    have a2 : ∀ x : Int, -(K : Int) ≤ x → sc (val double.binade F) x = sc (4503599627370496 + F % 4503599627370496) (x + ((F / 4503599627370496 - 1 : Nat) : Int)) := by
      intro x hx
      have hm := mg_ex F (by omega)
      rw [val_eq, hm.1, hm.2, sc_shift _ _ _ hx]
    rw [a1, ← hv, a2 _ (by omega)]
    congr 1
    omega
  rw [hx] at h2
  have hM : F % 4503599627370496 < 4503599627370496 := Nat.mod_lt _ (by decide)
  have hfe : 1023 ≤ F / 4503599627370496 ∧ F / 4503599627370496 ≤ 1086 := by omega
  generalize hE2 : E + ((F / 4503599627370496 : Nat) - 1023 : Int) = E2 at *
  have hI : ldx F E = (if E2 < -1075 then 0 else if 1023 < E2 then 9218868437227405312 else if -1022 ≤ E2 then (E2 + 1023).toNat * 4503599627370496 + F % 4503599627370496 else double.nearest false (4503599627370496 + F % 4503599627370496) (E2 - 52)) := by unfold ldx; rw [hE2]
  rw [hI]
  have hr1 : 1 ≤ val double.binade r := by
    have := val_lt_of_lt (binade_pos double) h0
    omega
  by_cases c1 : E2 < -1075
  · exfalso
    have b1 : sc (4503599627370496 + F % 4503599627370496) (E2 - 52) < sc 9007199254740992 (E2 - 52) := sc_lt (by omega)
    have b2 : sc 9007199254740992 (E2 - 52) = sc 1 (E2 + 1) := by
      have := sc_shift 1 53 (E2 - 52) (by omega)
      rw [show 1 * 2 ^ 53 = 9007199254740992 from rfl] at this
      rw [this]; congr 1; omega
    have b3 : sc 1 (E2 + 1) ≤ sc (val double.binade r) double.leastPlace := sc_le hr1 (by rw [dplace]; omega)
    omega
  · rw [if_neg c1]
    by_cases c2 : 1023 < E2
    · exfalso
      have b1 : sc (val double.binade r) double.leastPlace < sc (val double.binade double.infRung) double.leastPlace := sc_lt (val_lt_of_lt (binade_pos double) h1)
      have b2 : sc (val double.binade double.infRung) double.leastPlace = sc 4503599627370496 972 := by
        rw [val_sc double dK, dplace]
        have : mg double double.infRung = 4503599627370496 ∧ ex double double.infRung = 2046 := by decide
        rw [this.1, this.2]; rfl
      have b3 : sc 4503599627370496 972 ≤ sc (4503599627370496 + F % 4503599627370496) (E2 - 52) := sc_le (by omega) (by omega)
      omega
    · rw [if_neg c2]
      by_cases c3 : -1022 ≤ E2
      · rw [if_pos c3]
        have hX : 4503599627370496 ≤ (E2 + 1023).toNat * 4503599627370496 + F % 4503599627370496 := by omega
        have := val_norm _ hX
        have m1 : ((E2 + 1023).toNat * 4503599627370496 + F % 4503599627370496) % 4503599627370496 = F % 4503599627370496 := by omega
        have m2 : ((E2 + 1023).toNat * 4503599627370496 + F % 4503599627370496) / 4503599627370496 = (E2 + 1023).toNat := by omega
        rw [m1, m2] at this
        have e : (((E2 + 1023).toNat : Nat) : Int) - 1075 = E2 - 52 := by omega
        rw [e, h2] at this
        exact val_inj (binade_pos double) (sc_inj this)
      · rw [if_neg c3]
        have e3 : (4503599627370496 + F % 4503599627370496) * 2 ^ (0 : Nat) = 4503599627370496 + F % 4503599627370496 := by simp
        -- written at the least place
        have hval : ∃ j : Nat, (4503599627370496 + F % 4503599627370496 = val double.binade r * 2 ^ j) ∧ ((j : Int) = -1074 - (E2 - 52)) := by
          refine ⟨(-1074 - (E2 - 52)).toNat, ?_, by omega⟩
          refine sc_inj (e := E2 - 52) ?_
          rw [h2, dplace, sc_shift _ _ _ (by omega)]
          congr 1; omega
        obtain ⟨j, hj, hj2⟩ := hval
        rw [hj, nearest_shift, val_eq, nearest_shift]
        have := nearest_rung double false r h1
        rw [dplace] at this
        rw [show E2 - 52 + (j : Int) + (ex double r : Int) = -1074 + (ex double r : Int) by omega, this]
        rfl
end Go.Proofs.Ytjogbiopbobifaa.Flt
