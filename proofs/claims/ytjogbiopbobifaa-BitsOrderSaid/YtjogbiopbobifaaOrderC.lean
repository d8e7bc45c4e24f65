/- The lesser and the greater of two: package bits' answers and the document's. -/
import Derived.Test.YtjogbiopbobifaaRefO
import Derived.Test.YtjogbiopbobifaaFPupilref1Less
import Derived.Test.YtjogbiopbobifaaFPupilref1Same
import Derived.Test.YtjogbiopbobifaaFPupilref1Told
namespace Go.Proofs.Ytjogbiopbobifaa
open Go.RowKit Go.Proofs.YtjogbiopbobifaaW.PrintWords

theorem Flt.place64 (b : Int) : Flt.place b 64 = Flt.plc64 b := by
  show (if Flt.neg64 b = true then Flt.sr64 b - 1 else Flt.sr64 b) = _
  unfold Flt.neg64 Flt.sr64 Flt.plc64
  by_cases h : b < 0 <;> simp [h]
theorem Flt.place32 (b : Int) : Flt.place b 32 = Flt.plc32 b := by
  show (if Flt.neg32 b = true then Flt.sr32 b - 1 else Flt.sr32 b) = _
  unfold Flt.neg32 Flt.sr32 Flt.plc32
  by_cases h : 2147483648 ≤ b <;> simp [h]
theorem rorder_wide (a b v : Int) (hv : v = 64 ∨ v = 32) (ha : Flt.I64 a) (hb : Flt.I64 b) : Tells 70 #[.int .i64 a, .int .i64 b, .int .i64 v] (.int .i64 (Flt.nord a b v)) := by
  have HA := Lib.hid (rclass_any a v ha)
  have HB := Lib.hid (rclass_any b v hb)
  have e : ∀ x : Int, Flt.nord a b v = x → Tells 70 #[.int .i64 a, .int .i64 b, .int .i64 v] (.int .i64 x) → Tells 70 #[.int .i64 a, .int .i64 b, .int .i64 v] (.int .i64 (Flt.nord a b v)) := fun x h t => by rw [h]; exact t
  have U : Flt.nord a b v = (if Flt.cls a v = 4 then (if Flt.cls b v = 4 then 0 else 1) else if Flt.cls b v = 4 then -1 else if Flt.place a v < Flt.place b v then -1 else if Flt.place b v < Flt.place a v then 1 else 0) := rfl
  have T : ∀ c : Int, c = 4 → (c == 4) = true := fun c h => beq_iff_eq.2 h
  have N : ∀ c : Int, ¬ c = 4 → (c == 4) = false := fun c h => beq_eq_false_iff_ne.2 h
  rcases hv with rfl | rfl
  · rw [Flt.place64, Flt.place64] at U
    by_cases c1 : Flt.cls a 64 = 4
    · by_cases c2 : Flt.cls b 64 = 4
      · exact e 0 (by rw [U, if_pos c1, if_pos c2]) (rorder64_nn a b _ _ HA HB (T _ c1) (T _ c2))
      · exact e 1 (by rw [U, if_pos c1, if_neg c2]) (rorder64_nx a b _ _ HA HB (T _ c1) (N _ c2))
    · by_cases c2 : Flt.cls b 64 = 4
      · exact e (-1) (by rw [U, if_neg c1, if_pos c2]) (rorder64_xn a b _ _ HA HB (N _ c1) (T _ c2))
      · rw [if_neg c1, if_neg c2] at U
        by_cases l : Flt.plc64 a < Flt.plc64 b
        · exact e (-1) (by rw [U, if_pos l]) (rorder64_lt a b _ _ (Lib.hid ha) (Lib.hid hb) HA HB (N _ c1) (N _ c2) l)
        · by_cases g : Flt.plc64 b < Flt.plc64 a
          · exact e 1 (by rw [U, if_neg l, if_pos g]) (rorder64_gt a b _ _ (Lib.hid ha) (Lib.hid hb) HA HB (N _ c1) (N _ c2) g)
          · exact e 0 (by rw [U, if_neg l, if_neg g]) (rorder64_eq a b _ _ (Lib.hid ha) (Lib.hid hb) HA HB (N _ c1) (N _ c2) l g)
  · rw [Flt.place32, Flt.place32] at U
    by_cases c1 : Flt.cls a 32 = 4
    · by_cases c2 : Flt.cls b 32 = 4
      · exact e 0 (by rw [U, if_pos c1, if_pos c2]) (rorder32_nn a b _ _ HA HB (T _ c1) (T _ c2))
      · exact e 1 (by rw [U, if_pos c1, if_neg c2]) (rorder32_nx a b _ _ HA HB (T _ c1) (N _ c2))
    · by_cases c2 : Flt.cls b 32 = 4
      · exact e (-1) (by rw [U, if_neg c1, if_pos c2]) (rorder32_xn a b _ _ HA HB (N _ c1) (T _ c2))
      · rw [if_neg c1, if_neg c2] at U
        have va := Lib.hid (Flt.valid_of_cls (b := a) c1)
        have vb := Lib.hid (Flt.valid_of_cls (b := b) c2)
        by_cases l : Flt.plc32 a < Flt.plc32 b
        · exact e (-1) (by rw [U, if_pos l]) (rorder32_lt a b _ _ va vb HA HB (N _ c1) (N _ c2) l)
        · by_cases g : Flt.plc32 b < Flt.plc32 a
          · exact e 1 (by rw [U, if_neg l, if_pos g]) (rorder32_gt a b _ _ va vb HA HB (N _ c1) (N _ c2) g)
          · exact e 0 (by rw [U, if_neg l, if_neg g]) (rorder32_eq a b _ _ va vb HA HB (N _ c1) (N _ c2) l g)
def Flt.ord (a b v : Int) : Int := if isW v = true then nord a b v else 0
theorem rorder_any (a b v : Int) (ha : Flt.I64 a) (hb : Flt.I64 b) : Tells 70 #[.int .i64 a, .int .i64 b, .int .i64 v] (.int .i64 (Flt.ord a b v)) := by
  unfold Flt.ord
  by_cases h : Flt.isW v = true
  · rw [if_pos h]; exact rorder_wide a b v (Flt.isW_yes h) ha hb
  · rw [if_neg h]
    have hn := Flt.isW_no h
    exact rorder_no a b v _ _ (Lib.hid (rof_no v (beq_eq_false_iff_ne.1 hn.1) (beq_eq_false_iff_ne.1 hn.2))) (Lib.hid (rclass_any a v ha)) (Lib.hid (rclass_any b v hb))

/-! less, same -/
theorem Flt.plc_can64 (a b : Int) (ha : Flt.I64 a) (hb : Flt.I64 b) (c1 : ¬ Flt.cls64 a = 4) (c2 : ¬ Flt.cls64 b = 4) : (Flt.plc64 (Flt.ncan64 a) < Flt.plc64 (Flt.ncan64 b) ↔ Flt.sr64 a < Flt.sr64 b) ∧ (Flt.ncan64 a = Flt.ncan64 b ↔ Flt.sr64 a = Flt.sr64 b) := by
  have z1 := Flt.cls64_zero a ha
  have z2 := Flt.cls64_zero b hb
  obtain ⟨a0, a1⟩ := ha
  obtain ⟨b0, b1⟩ := hb
  unfold Flt.ncan64
  rw [if_neg c1, if_neg c2]
  have p0 : Flt.plc64 0 = 0 := by decide
  have pa : Flt.plc64 a = if a < 0 then Flt.sr64 a - 1 else Flt.sr64 a := by unfold Flt.plc64 Flt.sr64; by_cases n : a < 0 <;> simp [n]
  have pb : Flt.plc64 b = if b < 0 then Flt.sr64 b - 1 else Flt.sr64 b := by unfold Flt.plc64 Flt.sr64; by_cases n : b < 0 <;> simp [n]
  have sa : if a < 0 then Flt.sr64 a = -(a + 9223372036854775808) else Flt.sr64 a = a := by unfold Flt.sr64; by_cases n : a < 0 <;> simp [n]
  have sb : if b < 0 then Flt.sr64 b = -(b + 9223372036854775808) else Flt.sr64 b = b := by unfold Flt.sr64; by_cases n : b < 0 <;> simp [n]
  by_cases h1 : Flt.cls64 a = 0 <;> by_cases h2 : Flt.cls64 b = 0 <;> by_cases n1 : a < 0 <;> by_cases n2 : b < 0 <;> simp only [h1, h2, n1, n2, if_true, if_false, true_iff, false_iff, p0] at z1 z2 pa pb sa sb ⊢ <;> first | (rw [pa, pb]; omega) | (rw [pa]; omega) | (rw [pb]; omega) | omega
theorem Flt.plc_can32 (a b : Int) (c1 : ¬ Flt.cls32 a = 4) (c2 : ¬ Flt.cls32 b = 4) : (Flt.plc32 (Flt.ncan32 a) < Flt.plc32 (Flt.ncan32 b) ↔ Flt.sr32 a < Flt.sr32 b) ∧ (Flt.ncan32 a = Flt.ncan32 b ↔ Flt.sr32 a = Flt.sr32 b) := by
  have z1 := Flt.cls32_zero a (Flt.valid_of_cls c1)
  have z2 := Flt.cls32_zero b (Flt.valid_of_cls c2)
  obtain ⟨a0, a1⟩ := Flt.valid_bounds (Flt.valid_of_cls c1)
  obtain ⟨b0, b1⟩ := Flt.valid_bounds (Flt.valid_of_cls c2)
  unfold Flt.ncan32
  rw [if_neg c1, if_neg c2]
  have p0 : Flt.plc32 0 = 0 := by decide
  have pa : Flt.plc32 a = if 2147483648 ≤ a then Flt.sr32 a - 1 else Flt.sr32 a := by unfold Flt.plc32 Flt.sr32; by_cases n : 2147483648 ≤ a <;> simp [n]
  have pb : Flt.plc32 b = if 2147483648 ≤ b then Flt.sr32 b - 1 else Flt.sr32 b := by unfold Flt.plc32 Flt.sr32; by_cases n : 2147483648 ≤ b <;> simp [n]
  have sa : if 2147483648 ≤ a then Flt.sr32 a = -(a - 2147483648) else Flt.sr32 a = a := by unfold Flt.sr32; by_cases n : 2147483648 ≤ a <;> simp [n]
  have sb : if 2147483648 ≤ b then Flt.sr32 b = -(b - 2147483648) else Flt.sr32 b = b := by unfold Flt.sr32; by_cases n : 2147483648 ≤ b <;> simp [n]
  by_cases h1 : Flt.cls32 a = 0 <;> by_cases h2 : Flt.cls32 b = 0 <;> by_cases n1 : 2147483648 ≤ a <;> by_cases n2 : 2147483648 ≤ b <;> simp only [h1, h2, n1, n2, if_true, if_false, true_iff, false_iff, p0] at z1 z2 pa pb sa sb ⊢ <;> first | (rw [pa, pb]; omega) | (rw [pa]; omega) | (rw [pb]; omega) | omega

theorem Flt.I64_ncan64 (b : Int) (hb : Flt.I64 b) : Flt.I64 (Flt.ncan64 b) := by
  unfold Flt.ncan64
  split
  · exact Flt.I64_nan64
  · split
    · exact ⟨by decide, by decide⟩
    · exact hb
theorem Flt.valid_ncan32 (b : Int) (c : ¬ Flt.cls32 b = 4) : Flt.valid32 (Flt.ncan32 b) = true := by
  unfold Flt.ncan32
  rw [if_neg c]
  split
  · decide
  · exact Flt.valid_of_cls c
theorem place64_f' (k : Nat) (b : Int) (hb : Flt.I64 b) : F.pupilref1_Kind_place.f k 64 53 4503599627370496 2047 (-1074) 1024 9218868437227405312 (-9223372036854775808) 9221120237041090561 b = some (Flt.plc64 b) := by
  rw [← place64_f b hb]
  unfold F.pupilref1_Kind_place.f
  rw [rnegative64 1 b hb, rnegative64 k b hb]
theorem place32_f' (k : Nat) (b : Int) (hb : Flt.valid32 b = true) : F.pupilref1_Kind_place.f (k + 1) 32 24 8388608 255 (-149) 128 2139095040 2147483648 2143289345 b = some (Flt.plc32 b) := by
  rw [← place32_f b hb]
  unfold F.pupilref1_Kind_place.f
  rw [rnegative32 0 b hb, rnegative32 k b hb]
theorem rless_f (a b v : Int) (ha : Flt.I64 a) (hb : Flt.I64 b) : F.pupilref1_Less.f 3 a b v = some (Flt.isW v && Flt.nless a b v) := by
  unfold F.pupilref1_Less.f
  by_cases h : v = 64
  · subst h
    unfold F.pupilref1_Of.f
    have hw : Flt.isW 64 = true := by decide
    rw [hw, Bool.true_and]
    unfold Flt.nless
    simp only [if_true, Option.bind_some, rclass_f 2 a 64 ha, rclass_f 2 b 64 hb]
    by_cases c1 : Flt.cls a 64 = 4
    · rw [if_pos c1, decide_eq_true c1]; rfl
    · rw [if_neg c1, decide_eq_false c1]
      by_cases c2 : Flt.cls b 64 = 4
      · rw [beq_iff_eq.2 c2, decide_eq_true c2]; rfl
      · rw [beq_eq_false_iff_ne.2 c2, decide_eq_false c2]
        have e1 : Flt.ncan a 64 = Flt.ncan64 a := rfl
        have e2 : Flt.ncan b 64 = Flt.ncan64 b := rfl
        have k := (Flt.plc_can64 a b ha hb c1 c2).1
        simp only [F.pupilref1_Less.j0, Bool.false_eq_true, if_false, rcanon_f 0 a 64 ha, rcanon_f 0 b 64 hb, Option.bind_some, e1, e2, place64_f' _ _ (Flt.I64_ncan64 a ha), place64_f' _ _ (Flt.I64_ncan64 b hb)]
        have : decide (Flt.plc64 (Flt.ncan64 a) < Flt.plc64 (Flt.ncan64 b)) = decide (Flt.sr a 64 < Flt.sr b 64) := by rw [decide_eq_decide]; exact k
        rw [this]; rfl
  · by_cases h2 : v = 32
    · subst h2
      unfold F.pupilref1_Of.f
      have hw : Flt.isW 32 = true := by decide
      rw [hw, Bool.true_and]
      unfold Flt.nless
      simp only [if_true, show ¬ (32 : Int) = 64 by decide, if_false, Option.bind_some, rclass_f 2 a 32 ha, rclass_f 2 b 32 hb]
      by_cases c1 : Flt.cls a 32 = 4
      · rw [if_pos c1, decide_eq_true c1]; rfl
      · rw [if_neg c1, decide_eq_false c1]
        by_cases c2 : Flt.cls b 32 = 4
        · rw [beq_iff_eq.2 c2, decide_eq_true c2]; rfl
        · rw [beq_eq_false_iff_ne.2 c2, decide_eq_false c2]
          have e1 : Flt.ncan a 32 = Flt.ncan32 a := rfl
          have e2 : Flt.ncan b 32 = Flt.ncan32 b := rfl
          have k := (Flt.plc_can32 a b c1 c2).1
          simp only [F.pupilref1_Less.j0, Bool.false_eq_true, if_false, rcanon_f 0 a 32 ha, rcanon_f 0 b 32 hb, Option.bind_some, e1, e2, place32_f' _ _ (Flt.valid_ncan32 a c1), place32_f' _ _ (Flt.valid_ncan32 b c2)]
          have : decide (Flt.plc32 (Flt.ncan32 a) < Flt.plc32 (Flt.ncan32 b)) = decide (Flt.sr a 32 < Flt.sr b 32) := by rw [decide_eq_decide]; exact k
          rw [this]; rfl
    · rw [rof_no v h h2]
      have hw : Flt.isW v = false := by unfold Flt.isW; rw [decide_eq_false h, decide_eq_false h2]; rfl
      rw [hw]; rfl
theorem rsame_f (a b v : Int) (ha : Flt.I64 a) (hb : Flt.I64 b) : F.pupilref1_Same.f 2 a b v = some (Flt.isW v && Flt.nsame a b v) := by
  unfold F.pupilref1_Same.f
  by_cases h : v = 64
  · subst h
    unfold F.pupilref1_Of.f
    have hw : Flt.isW 64 = true := by decide
    rw [hw, Bool.true_and]
    unfold Flt.nsame
    simp only [if_true, Option.bind_some, rclass_f 1 a 64 ha, rcanon_f 0 a 64 ha, rcanon_f 0 b 64 hb]
    by_cases c1 : Flt.cls a 64 = 4
    · rw [if_pos c1, decide_eq_true c1]; rfl
    · rw [if_neg c1, decide_eq_false c1]
      have e1 : Flt.ncan a 64 = Flt.ncan64 a := rfl
      have e2 : Flt.ncan b 64 = Flt.ncan64 b := rfl
      rw [e1, e2]
      by_cases c2 : Flt.cls b 64 = 4
      · rw [decide_eq_true c2]
        have c2' : Flt.cls64 b = 4 := c2
        have c1' : ¬ Flt.cls64 a = 4 := c1
        have n : ¬ Flt.ncan64 a = Flt.ncan64 b := by
          unfold Flt.ncan64
          rw [if_pos c2', if_neg c1']
          split
          · decide
          · rintro rfl; exact c1' (by decide)
        rw [beq_eq_false_iff_ne.2 n]; rfl
      · rw [decide_eq_false c2]
        have k := (Flt.plc_can64 a b ha hb c1 c2).2
        have : (Flt.ncan64 a == Flt.ncan64 b) = decide (Flt.sr a 64 = Flt.sr b 64) := by rw [Bool.eq_iff_iff, beq_iff_eq, decide_eq_true_iff]; exact k
        rw [this]; rfl
  · by_cases h2 : v = 32
    · subst h2
      unfold F.pupilref1_Of.f
      have hw : Flt.isW 32 = true := by decide
      rw [hw, Bool.true_and]
      unfold Flt.nsame
      simp only [if_true, show ¬ (32 : Int) = 64 by decide, if_false, Option.bind_some, rclass_f 1 a 32 ha, rcanon_f 0 a 32 ha, rcanon_f 0 b 32 hb]
      by_cases c1 : Flt.cls a 32 = 4
      · rw [if_pos c1, decide_eq_true c1]; rfl
      · rw [if_neg c1, decide_eq_false c1]
        have e1 : Flt.ncan a 32 = Flt.ncan32 a := rfl
        have e2 : Flt.ncan b 32 = Flt.ncan32 b := rfl
        rw [e1, e2]
        by_cases c2 : Flt.cls b 32 = 4
        · rw [decide_eq_true c2]
          have c2' : Flt.cls32 b = 4 := c2
          have c1' : ¬ Flt.cls32 a = 4 := c1
          have n : ¬ Flt.ncan32 a = Flt.ncan32 b := by
            unfold Flt.ncan32
            rw [if_pos c2', if_neg c1']
            split
            · decide
            · rintro rfl; exact c1' (by decide)
          rw [beq_eq_false_iff_ne.2 n]; rfl
        · rw [decide_eq_false c2]
          have k := (Flt.plc_can32 a b c1 c2).2
          have : (Flt.ncan32 a == Flt.ncan32 b) = decide (Flt.sr a 32 = Flt.sr b 32) := by rw [Bool.eq_iff_iff, beq_iff_eq, decide_eq_true_iff]; exact k
          rw [this]; rfl
    · rw [rof_no v h h2]
      have hw : Flt.isW v = false := by unfold Flt.isW; rw [decide_eq_false h, decide_eq_false h2]; rfl
      rw [hw]; rfl
theorem rless_any (a b v : Int) (ha : Flt.I64 a) (hb : Flt.I64 b) : Tells 68 #[.int .i64 a, .int .i64 b, .int .i64 v] (.bool (Flt.isW v && Flt.nless a b v)) := fun w => F.pupilref1_Less.calls 3 a b v _ w (rless_f a b v ha hb)
theorem rsame_any (a b v : Int) (ha : Flt.I64 a) (hb : Flt.I64 b) : Tells 69 #[.int .i64 a, .int .i64 b, .int .i64 v] (.bool (Flt.isW v && Flt.nsame a b v)) := fun w => F.pupilref1_Same.calls 2 a b v _ w (rsame_f a b v ha hb)
end Go.Proofs.Ytjogbiopbobifaa
