/- exact: Of of a finite float, and how its number is rounded again. -/
import Derived.Test.YtgbpglojbgicjaaGreatFmtLawW
namespace Go.Proofs.YtgbpglojbgicjaaGreatFmt
open Go.RowKit Go.Proofs.YtgbpglojbgicjaaGreatFmtW.PrintWords

theorem i64_of_wf {b : Int} (h : (Lit.int .i64 b).wf = true) : Flt.I64 b := by
  have h' : -9223372036854775808 ≤ b ∧ b ≤ 9223372036854775807 := by simpa [Lit.wf, IntKind.min, IntKind.max, IntKind.signed, IntKind.bits] using h
  exact ⟨h'.1, by omega⟩
theorem fin_cls (b v : Int) (hv : v = 64 ∨ v = 32) (hf : Flt.fin b v = true) : Flt.cls b v ≤ 2 := by
  unfold Flt.fin at hf
  simpa [hv] using hf
theorem fin64 (b : Int) (hf : Flt.cls64 b ≤ 2) : b / 4503599627370496 % 2048 < 2047 := by
  unfold Flt.cls64 at hf
  by_cases c : b / 4503599627370496 % 2048 = 2047
  · rw [if_pos c] at hf; split at hf <;> omega
  · omega
theorem fin32 (b : Int) (hf : Flt.cls32 b ≤ 2) : Flt.valid32 b = true ∧ b / 8388608 % 256 < 255 := by
  unfold Flt.cls32 at hf
  by_cases h : Flt.valid32 b = true
  · rw [if_pos h] at hf
    refine ⟨h, ?_⟩
    by_cases c : b / 8388608 % 256 = 255
    · rw [if_pos c] at hf; split at hf <;> omega
    · omega
  · rw [if_neg h] at hf; omega
theorem order_fin (x : Nat) (h : Flt.isNaN Ieee.double x = false) : (FloatKind.f64.format.order x x != some .eq) = false := (Flt.order_self Ieee.double Flt.ok_double x).trans h
theorem order_fin32 (x : Nat) (h : Flt.isNaN Ieee.single x = false) : (FloatKind.f32.format.order x x != some .eq) = false := (Flt.order_self Ieee.single Flt.ok_single x).trans h
/-- a binary64's number is rounded to it -/
theorem toAns64 (b q z e : Int) (t : Nat) (hb : Flt.I64 b) (hc : Flt.cls64 b ≤ 2) (hm : Flt.mag64 b = q * 2 ^ t) (hq : 0 < q) (he : e = Flt.exp64 b + t) (he1 : -2000000 ≤ e ∧ e ≤ 2000000) (hqr : q < 9007199254740992) (hz : (Int.natAbs z : Int) = q) (hs : decide (2 * z < 0) = decide (b < 0)) : ToAns z e 64 (canB b 64) := by
  intro gq oq fid w hi
  have hnn : Flt.isNaN Ieee.double (Flt.w64 b) = false := by rw [Flt.w64_nan b hb]; exact decide_eq_false (by omega)
  have hw : wrap64 (Flt.w64 b : Int) = b := by rw [← told64_num (w64_lt b) hnn]; exact told64_w64 b hb (by omega)
  refine to_x64 gq oq z e (Flt.w64 b) fid _ w hi he1.1 he1.2 (by omega) (by omega) (fl64_of b q z e t hb hm hq he (fin64 b hc) hz hs) (order_fin _ hnn) ?_
  rw [hw]
  exact canon_f b 64 (.inl rfl) (by show ¬ Flt.cls64 b = 4; omega)
theorem toAns32 (b q z e : Int) (t : Nat) (hc : Flt.cls32 b ≤ 2) (hm : Flt.mag32 b = q * 2 ^ t) (hq : 0 < q) (he : e = Flt.exp32 b + t) (he1 : -2000000 ≤ e ∧ e ≤ 2000000) (hqr : q < 9007199254740992) (hz : (Int.natAbs z : Int) = q) (hs : decide (2 * z < 0) = decide (2147483648 ≤ b)) : ToAns z e 32 (canB b 32) := by
  intro gq oq fid w hi
  obtain ⟨hv, hf⟩ := fin32 b hc
  have hnn : Flt.isNaN Ieee.single (Flt.w32 b) = false := Flt.w32_num (by omega)
  have hbb := Flt.valid_bounds hv
  have hw : wrap64 (Flt.w32 b : Int) = b := by
    have e1 : (Flt.w32 b : Int) = b := by unfold Flt.w32; rw [if_pos hv]; omega
    rw [e1]
    unfold wrap64; omega
  refine to_x32 gq oq z e (Flt.w32 b) fid _ w hi he1.1 he1.2 (by omega) (by omega) (fl32_of b q z e t hv hm hq he hf hz hs) (order_fin32 _ hnn) ?_
  rw [hw]
  exact canon_f b 32 (.inr rfl) (by show ¬ Flt.cls32 b = 4; omega)
theorem vB_of (neg : Bool) (ds : List Int) (e q : Int) (hv : val ds = q) (hn : Nm ds) (hq : q % 2 = 1) (h0 : 0 < q) (h1 : q < 9007199254740992) (he0 : -1048576 ≤ e) (he1 : e ≤ 1048576) : vB neg ds e = true := by
  have hl : 0 < ds.length := by
    rcases Nat.eq_zero_or_pos ds.length with h | h
    · rw [List.length_eq_zero_iff.1 h] at hv
      simp [val] at hv
      omega
    · exact h
  have hlow := val_low ds hn hl
  rw [hv] at hlow
  have hlen : ds.length ≤ 2 := by
    have := pow_lt (a := 30 * (ds.length - 1)) (b := 53) (by rw [show (2 : Int) ^ 53 = 9007199254740992 by decide]; omega)
    omega
  have hodd : ds.getD 0 0 % 2 = 1 := by
    cases ds with
    | nil => simp at hl
    | cons d l =>
      show d % 2 = 1
      rw [val] at hv
      omega
  unfold vB
  rw [if_neg (by omega)]
  have ha : ds.all digB = true := all_digs.2 hn.1
  have hb : (ds.getD (ds.length - 1) 0 == 0) = false := by rw [beq_eq_false_iff_ne]; exact hn.2 hl
  rw [ha, hb, hodd, decide_eq_true (show ds.length ≤ 2000 by omega), decide_eq_true he0, decide_eq_true he1]
  rfl
theorem cls_fld (c : Int) (h : c / 4503599627370496 % 2048 < 2047) : Flt.cls64 c ≤ 2 := by
  unfold Flt.cls64
  rw [if_neg (by omega)]
  split
  · split <;> omega
  · omega
/-- a nought's pattern -/
theorem nought (b v : Int) (hb : Flt.I64 b) (hv : v = 64 ∨ v = 32) (hf : Flt.fin b v = true) (hm : Flt.mag b v = 0) : canB b v = 0 ∧ canB (upV b v) 64 = 0 ∧ Flt.cls64 (upV b v) ≤ 2 := by
  have hcl := fin_cls b v hv hf
  rcases hv with rfl | rfl
  · have hm' : Flt.mag64 b = 0 := hm
    have hfl := fin64 b hcl
    have hz : Flt.cls64 b = 0 := by
      unfold Flt.mag64 at hm'
      unfold Flt.cls64
      by_cases h0 : b / 4503599627370496 % 2048 = 0
      · rw [if_pos h0] at hm'
        rw [if_neg (by omega), if_pos h0, if_pos hm']
      · rw [if_neg h0] at hm'; omega
    exact ⟨by unfold canB; rw [if_pos (show Flt.cls b 64 = 0 from hz)], by unfold canB; rw [if_pos (show Flt.cls (upV b 64) 64 = 0 from hz)], by show Flt.cls64 b ≤ 2; omega⟩
  · have hm' : Flt.mag32 b = 0 := hm
    obtain ⟨hvd, hfl⟩ := fin32 b hcl
    have hbb := Flt.valid_bounds hvd
    have h2 : b = 0 ∨ b = 2147483648 := by
      unfold Flt.mag32 at hm'
      by_cases h0 : b / 8388608 % 256 = 0
      · rw [if_pos h0] at hm'; omega
      · rw [if_neg h0] at hm'; omega
    rcases h2 with rfl | rfl
    · exact ⟨by decide +kernel, by decide +kernel, by decide +kernel⟩
    · exact ⟨by decide +kernel, by decide +kernel, by decide +kernel⟩
/-- another float's number as a binary64 -/
theorem up_any (b v q : Int) (t : Nat) (hb : Flt.I64 b) (hv : v = 64 ∨ v = 32) (hf : Flt.fin b v = true) (hm : Flt.mag b v = q * 2 ^ t) (hq : q % 2 = 1) (hq0 : 0 < q) :
    Flt.I64 (upV b v) ∧ Flt.cls64 (upV b v) ≤ 2 ∧ (upV b v < 0 ↔ Flt.neg b v = true) ∧ ∃ t2 : Nat, Flt.mag64 (upV b v) = q * 2 ^ t2 ∧ Flt.exp64 (upV b v) + t2 = Flt.exp b v + t := by
  have hcl := fin_cls b v hv hf
  rcases hv with rfl | rfl
  · exact ⟨hb, hcl, by show b < 0 ↔ Flt.neg64 b = true; unfold Flt.neg64; simp, t, hm, rfl⟩
  · obtain ⟨hvd, hfl⟩ := fin32 b hcl
    obtain ⟨h1, h2, h3, t2, h4, h5⟩ := up64_parts b q t hvd hfl hm hq hq0
    exact ⟨h1, cls_fld _ h2, by show up64 b < 0 ↔ Flt.neg32 b = true; rw [h3]; unfold Flt.neg32; simp, t2, h4, h5⟩
theorem up_num (b v : Int) (hb : Flt.I64 b) (hv : v = 64 ∨ v = 32) (hf : Flt.fin b v = true) : Flt.cls64 (upV b v) ≤ 2 := by
  obtain ⟨m0, _⟩ := parts_range b v hv
  by_cases hm : Flt.mag b v = 0
  · exact (nought b v hb hv hf hm).2.2
  · obtain ⟨o, t, h1, h2⟩ := Flt.odd_part (Flt.mag b v).toNat (by omega)
    have h3 : Flt.mag b v = (o : Int) * 2 ^ t := by
      have : (((Flt.mag b v).toNat : Nat) : Int) = ((o * 2 ^ t : Nat) : Int) := by rw [h1]
      rw [Int.toNat_of_nonneg m0] at this
      rw [this]; simp
    have ho : 0 < o := by
      rcases Nat.eq_zero_or_pos o with h | h
      · rw [h] at h2; simp at h2
      · exact h
    exact (up_any b v o t hb hv hf h3 (by omega) (by omega)).2.1
theorem of_good (b v : Int) (w : World) (hb : Flt.I64 b) (hv : v = 64 ∨ v = 32) (hf : Flt.fin b v = true) (hT : Tab w) : Calls Tryz.prog 4 #[.int .i64 b, .int .i64 v] w (OfGood w b v) := by
  refine (of_fin b v w hb hv hf hT).mono ?_
  rintro en w' ⟨ho, hcase⟩
  have hcl := fin_cls b v hv hf
  obtain ⟨_, m1, e0, e1⟩ := parts_range b v hv
  rcases hcase with ⟨hm, rfl⟩ | ⟨hm0, t, q, A, ds, c, hm, hq, hq0, rfl, hown, hval, hnm⟩
  · obtain ⟨n1, n2, n3⟩ := nought b v hb hv hf hm
    have z64 : ToAns 0 0 64 0 := fun gq oq fid w hi => to_z64 gq oq 0 0 fid 0 w hi (by decide) (by decide) rfl (by decide +kernel)
    have z32 : ToAns 0 0 32 0 := fun gq oq fid w hi => to_z32 gq oq 0 0 fid 0 w hi (by decide) (by decide) rfl (by decide +kernel)
    refine ⟨false, none, [], 0, 0, rfl, ho, reads_none w', Nat.le_refl _, by decide, ?_, ?_⟩
    · rw [n1]
      rcases hv with rfl | rfl
      · exact z64
      · exact z32
    · rw [n2]; exact z64
  · have hl : 0 < ds.length := by
      rcases Nat.eq_zero_or_pos ds.length with h | h
      · rw [List.length_eq_zero_iff.1 h] at hval
        simp [val] at hval
        omega
      · exact h
    obtain ⟨A', c', he', hr, hc⟩ := own_read1 hown hl
    cases he'
    have hqm : q ≤ Flt.mag b v := by
      rw [hm]
      have := Int.mul_le_mul_of_nonneg_left (show (1 : Int) ≤ 2 ^ t from Int.pow_pos (by omega)) (Int.le_of_lt hq0)
      omega
    have ht : t < 53 := by
      have hP : (0 : Int) < 2 ^ t := Int.pow_pos (by omega)
      have := Int.mul_le_mul_of_nonneg_right (show (1 : Int) ≤ q by omega) (Int.le_of_lt hP)
      exact pow_lt (by rw [show (2 : Int) ^ 53 = 9007199254740992 by decide]; omega)
    have hz : (Int.natAbs (sval (Flt.neg b v) ds) : Int) = q := by
      unfold sval; rw [hval]; split <;> omega
    refine ⟨Flt.neg b v, A, ds, c, Flt.exp b v + t, rfl, ho, hr, hc, vB_of _ ds _ q hval hnm hq hq0 (by omega) (by omega) (by omega), ?_, ?_⟩
    · rcases hv with rfl | rfl
      · exact toAns64 b q _ _ t hb hcl hm hq0 rfl (by omega) (by omega) hz (by
          show decide (2 * sval (Flt.neg64 b) ds < 0) = decide (b < 0)
          unfold sval Flt.neg64
          rw [hval, decide_eq_decide]
          by_cases h : b < 0
          · rw [decide_eq_true h, if_pos rfl]; omega
          · rw [decide_eq_false h, if_neg (by decide)]; omega)
      · exact toAns32 b q _ _ t hcl hm hq0 rfl (by omega) (by omega) hz (by
          show decide (2 * sval (Flt.neg32 b) ds < 0) = decide (2147483648 ≤ b)
          unfold sval Flt.neg32
          rw [hval, decide_eq_decide]
          by_cases h : 2147483648 ≤ b
          · rw [decide_eq_true h, if_pos rfl]; omega
          · rw [decide_eq_false h, if_neg (by decide)]; omega)
    · obtain ⟨u1, u2, u3, t2, u4, u5⟩ := up_any b v q t hb hv hf hm hq hq0
      exact toAns64 (upV b v) q _ _ t2 u1 u2 u4 hq0 (by omega) (by omega) (by omega) hz (by
        unfold sval
        rw [hval, decide_eq_decide]
        by_cases h : Flt.neg b v = true
        · rw [if_pos h]; have := u3.2 h; omega
        · rw [if_neg h]; have : ¬ upV b v < 0 := fun h' => h (u3.1 h'); omega)
theorem exactFloats_walk (b v : Int) (w : World) (hT : Tab w) (w0 : (Lit.int .i64 b).wf = true) :
    Calls Tryz.prog 3 #[.int .i64 b, .int .i64 v] w fun en w' => en = .returned (.bool true) ∧ Below w.heap.size w w' := by
  have hb := i64_of_wf w0
  have h : Calls Tryz.prog 3 #[.int .i64 b, .int .i64 v] w (Good w) := by
    by_cases h1 : v = 64 ∨ v = 32
    · by_cases h2 : Flt.fin b v = true
      · have hcl := fin_cls b v h1 h2
        exact floats_good b v w hb h1 (by omega) (by have := up_num b v hb h1 h2; show ¬ Flt.cls64 (upV b v) = 4; omega) (of_good b v w hb h1 h2 hT) hT
      · exact floats_bad b v 6 w (.inr rfl) (of_inf b v w hb h1 (by simpa using h2)) hT
    · exact floats_bad b v 3 w (.inl rfl) (of_width b v w (fun h => h1 (.inl h)) (fun h => h1 (.inr h))) hT
  exact h.mono fun en w' ⟨h1, h2⟩ => ⟨h1, h2.below (Nat.le_refl _) (fun _ h => h.elim)⟩
end Go.Proofs.YtgbpglojbgicjaaGreatFmt
