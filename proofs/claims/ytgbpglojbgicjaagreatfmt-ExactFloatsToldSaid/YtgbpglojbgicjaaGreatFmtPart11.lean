/- Part 11 of the walk: RndJ RndK RndL ExD ExE ExF ExG ExH ExI. -/
import Derived.Test.YtgbpglojbgicjaaGreatFmtPart08
import Derived.Test.YtgbpglojbgicjaaGreatFmtPart10
import Derived.Deep.DeepCutAuto
import Derived.Deep.CutBlock
import Derived.Recover
namespace Go.Proofs.YtgbpglojbgicjaaGreatFmt
open Go.RowKit Go.Proofs.YtgbpglojbgicjaaGreatFmtW.PrintWords
def sg (n : Bool) : Int := if n then 9223372036854775808 else 0
theorem and_52 (a : Int) (ha : 0 ≤ a) (ha2 : a < 18446744073709551616) : bits .and .u64 a 4503599627370495 = a % 4503599627370496 := by
  obtain ⟨x, rfl⟩ : ∃ x : Nat, a = x := ⟨a.toNat, by omega⟩
  have h := u64_and_nat x 4503599627370495 (by omega) (by omega)
  have e : ((4503599627370495 : Nat) : Int) = 4503599627370495 := rfl
  rw [e] at h
  rw [h, Nat.and_two_pow_sub_one_eq_mod x 52]
  rfl
theorem sg_cases (n : Bool) : sg n = 0 ∨ sg n = 9223372036854775808 := by cases n <;> simp [sg]
theorem join3 (n : Bool) (B m : Int) (h0 : 0 ≤ B) (h1 : B < 2048) (m0 : 0 ≤ m) (m1 : m < 4503599627370496) : bits .or .u64 (bits .or .u64 (sg n) (B * 4503599627370496)) m = sg n + B * 4503599627370496 + m := by
  have hs := sg_cases n
  have e63 : (2 : Int) ^ 63 = 9223372036854775808 := by decide
  have e52 : (2 : Int) ^ 52 = 4503599627370496 := by decide
  rw [or_mul (sg n) (B * 4503599627370496) 63 (by omega) (by omega) (by omega) (by rw [e63]; omega) (by omega) (by rw [e63]; omega)]
  exact or_mul _ m 52 (by omega) (by omega) (by omega) (by rw [e52]; omega) m0 (by rw [e52]; exact m1)
theorem RoundRel.range {p k : Nat} {T e rb sb : Int} {n : Bool} {a x e' : Int} (h : RoundRel p k T e rb sb n a x e') : e ≤ e' ∧ e' ≤ e + 1 := by
  obtain ⟨_, h | h | h⟩ := h
  · have := h.2.2; omega
  · have := h.2.2.2; omega
  · have := h.2.2.2; omega
theorem RoundRel.word {p k : Nat} {T e rb sb : Int} {n : Bool} {a x e' : Int} (h : RoundRel p k T e rb sb n a x e') (hpk : p + k = 64) (hp : 0 < p) (h0 : 9223372036854775808 ≤ T) (h1 : T < 18446744073709551616) : 9223372036854775808 ≤ x ∧ x < 18446744073709551616 := by
  have ek : (2 : Int) ^ (p - 1) * 2 ^ k = 9223372036854775808 := by rw [← Int.pow_add, show p - 1 + k = 63 by omega]; decide
  have ep : (2 : Int) ^ p * 2 ^ k = 18446744073709551616 := by rw [← Int.pow_add, hpk]; decide
  have hk : (0 : Int) < 2 ^ k := Int.pow_pos (by omega)
  have lo : (2 : Int) ^ (p - 1) ≤ T / 2 ^ k := by
    rw [Int.le_ediv_iff_mul_le hk, ek]; exact h0
  have lo2 : (2 : Int) ^ (p - 1) * 2 ^ k ≤ T / 2 ^ k * 2 ^ k := Int.mul_le_mul_of_nonneg_right lo (Int.le_of_lt hk)
  rw [ek] at lo2
  obtain ⟨_, h | h | h⟩ := h
  · rw [h.2.1]
    have := Int.ediv_mul_le T (Int.ne_of_gt hk)
    omega
  · rw [h.2.2.1]
    have : (T / 2 ^ k + 1) * 2 ^ k < 2 ^ p * 2 ^ k := Int.mul_lt_mul_of_pos_right h.2.1 hk
    rw [ep] at this
    rw [Int.add_mul, Int.one_mul] at this ⊢
    omega
  · rw [h.2.2.1]; omega
def F64Ans (w : World) (p k : Nat) (T E rb sb : Int) (n : Bool) (en : Ending) (w' : World) : Prop := ∃ a x e' v, en = .returned (.tuple #[.float .f64 v, .int .i8 a]) ∧ RoundRel p k T E rb sb n a x e' ∧ Only w w' (fun _ => False) ∧
  ((-1021 ≤ e' ∧ (v : Int) = sg n + (e' + 1021) * 4503599627370496 + x / 2048) ∨ (e' < -1021 ∧ (v : Int) = sg n + x / 2 ^ (64 - (1074 + e').toNat)))
set_option linter.unusedVariables false in
set_option linter.unusedSimpArgs false in
set_option maxRecDepth 100000 in
set_option maxHeartbeats 8000000 in
theorem float64_N (x b c m  P : Nat) (ys : List Int) (E T rb sb : Int) (n : Bool) (w : World) (hx : w.heap[x]? = some (.cells (fl P 0 1 n (.slice (some ⟨b, 0, none⟩) m c) E) 112 (0, 0))) (hb : Blk w b ys) (hm : Mant ys m c) (h1 : m = 1) (hP : 64 ≤ P) (hP2 : P < 4294967296) (hT : ys.getD (m - 1) 0 = T) (hE1 : E ≤ 1024) (hE0 : -1021 ≤ E)
    (hrb : T / 2 ^ (11 - 1) % 2 = rb) (hst : (Stk (fun i => ys.getD i 0) (m - 1) (11 - 1) ∧ sb = 0) ∨ (¬ Stk (fun i => ys.getD i 0) (m - 1) (11 - 1) ∧ sb = 1)) (hfin : ∀ a x e', RoundRel 53 11 T E rb sb n a x e' → e' ≤ 1024) :
    Calls Tryz.prog 73 #[.pointer (some ⟨x, 0, none⟩)] w (F64Ans w 53 11 T E rb sb n) := by
  have x3 : w.cell? ⟨x, 3, none⟩ = some (.int .u8 1) := blk_cell hx 3
  have x4 : w.cell? ⟨x, 4, none⟩ = some (.bool n) := blk_cell hx 4
  have x6 : w.cell? ⟨x, 6, none⟩ = some (.int .i32 E) := blk_cell hx 6
  have w1 : IntKind.i32.wrap (E - 1) = E - 1 := by rw [IntKind.wrap_i32]; omega
  have d1 : decide (E - 1 < -1022) = false := by rw [decide_eq_false_iff_not]; omega
  have hxl := blk_lt hx
  have HX := Lib.hid (And.intro hx (And.intro hb (And.intro hm (And.intro hT (And.intro hrb (And.intro hst h1))))))
  have HF := Lib.hid hfin
  clear hx hb hm hT hrb hst hfin h1 
  go_enter Tryz.func73, Tryz.ntmps73
  have HO0 := Lib.hid (Only.refl w (fun _ => False))
  have hxd := HX.out.1
  have hbd := HX.out.2.1
  have HXD := Lib.hid (And.intro hxd hbd)
  clear hxd hbd
  go_upto_region 19 with (fail)
  go_wp2_with fail
  obtain ⟨_, _, hm, hT, hrb, hst, h1⟩ := HX.out
  refine (set_any_flt w.heap.size x b c m 53 11 P ys E T rb sb n _ (heap_alloc_new w _) ((Below.heap_alloc _ _ x hxl).trans HXD.out.1) (((Only.refl w (fun _ => False)).alloc _).blk HXD.out.2 (fun h => h)) hm h1 (by omega) rfl (by omega) (by omega) hP hP2 hT hrb hst (by omega) (by omega)).mono ?_
  rintro en w2 ⟨rfl, ⟨b', c', a, x', e', zs, hf2, hb2, hl2, y0, hbb, hrel⟩, ho2⟩
  have hfin := HF.out a x' e' hrel
  have hxx : w2.heap[x]? = some (.cells (fl P 0 1 n (.slice (some ⟨b, 0, none⟩) m c) E) 112 (0, 0)) := (ho2.kept x (by simp; omega) (by omega)).trans ((Below.heap_alloc _ _ x hxl).trans HXD.out.1)
  have hoA : Only w w2 (fun _ => False) := HO0.out.trans (((Only.refl w (fun _ => False)).alloc _).step ho2 (by rintro i hi rfl; omega))
  have HO := Lib.hid hoA
  have HREL := Lib.hid hrel
  have hr1 := RoundRel.range hrel
  have hTT : 9223372036854775808 ≤ T ∧ T < 18446744073709551616 := by rw [← hT]; exact ⟨hm.2.2.2.2.2.2, (hm.2.2.2.2.2.1 (m - 1) (by have := hm.1; omega)).2⟩
  have hw := RoundRel.word hrel (by omega) (by omega) hTT.1 hTT.2
  clear hoA ho2 hbb hm hT hrb hst h1 x4 hrel HX HXD HF HO0
  generalize w.heap.size = r at *
  have x4 : w2.cell? ⟨x, 4, none⟩ = some (.bool n) := blk_cell hxx 4
  have r2 : w2.cell? ⟨r, 2, none⟩ = some (.int .i8 a) := blk_cell hf2 2
  have r3 : w2.cell? ⟨r, 3, none⟩ = some (.int .u8 1) := blk_cell hf2 3
  have r5 : w2.cell? ⟨r, 5, none⟩ = some (.slice (some ⟨b', 0, none⟩) 1 c') := blk_cell hf2 5
  have r6 : w2.cell? ⟨r, 6, none⟩ = some (.int .i32 e') := blk_cell hf2 6
  have HM := Lib.hid (fun W hb => msb_lit b' c' zs x' W hb hl2 y0)
  clear hf2 hxx
  have v1 : IntKind.i32.wrap (e' - 1) = e' - 1 := by rw [IntKind.wrap_i32]; omega
  have d5 : decide (1023 < e' - 1) = false := by rw [decide_eq_false_iff_not]; omega
  go_upto_if 88 with (fail)
  go_cut [8] (fun s wx => s = .int .u64 (sg n) ∧ w2 = wx)
  case first =>
    cases n
    · go_wp2_with fail
      go_meet
      exact ⟨rfl, rfl⟩
    · go_wp2_with fail
      go_meet
      exact ⟨rfl, rfl⟩
  case rest =>
  obtain ⟨rfl, rfl⟩ := hcut
  by_cases hd : e' < -1021
  · omega
  · have d6 : decide (e' - 1 < -1022) = false := by rw [decide_eq_false_iff_not]; omega
    have v2 : IntKind.i32.wrap (e' - 1 + 1023) = e' + 1022 := by rw [IntKind.wrap_i32]; omega
    have v3 : IntKind.u64.wrap (e' + 1022) = e' + 1022 := by rw [IntKind.wrap_u64]; omega
    go_wp2_with fail
    refine (HM.out _ hb2).mono ?_
    rintro en w' ⟨rfl, hw⟩
    rw [hw]
    clear hw w'
    go_upto_region 33 with (fail)
    go_quiet (fail)
    go_wp2_with fail
    go_ret2
    have hj : bits .or .u64 (bits .or .u64 (sg n) ((e' + 1022) * 4503599627370496)) (bits .and .u64 (x' / 2048) 4503599627370495) = sg n + (e' + 1021) * 4503599627370496 + x' / 2048 := by
      rw [and_52 _ (by omega) (by omega), join3 n _ _ (by omega) (by omega) (by omega) (by omega)]
      omega
    have hs := sg_cases n
    exact ⟨a, x', e', _, rfl, HREL.out, HO.out.drewN _, .inl ⟨by omega, by rw [hj]; omega⟩⟩
set_option linter.unusedVariables false in
set_option linter.unusedSimpArgs false in
set_option maxRecDepth 100000 in
set_option maxHeartbeats 8000000 in
theorem float64_D (x b c m p k P : Nat) (ys : List Int) (E T rb sb : Int) (n : Bool) (w : World) (hx : w.heap[x]? = some (.cells (fl P 0 1 n (.slice (some ⟨b, 0, none⟩) m c) E) 112 (0, 0))) (hb : Blk w b ys) (hm : Mant ys m c) (h1 : m = 1) (hP : 64 ≤ P) (hP2 : P < 4294967296) (hT : ys.getD (m - 1) 0 = T) (hE1 : E ≤ 1024) (hE0 : E < -1021) (hpE : 1074 + E = p) (hp0 : 0 < p) (hk : k = 64 - p)
    (hrb : T / 2 ^ (k - 1) % 2 = rb) (hst : (Stk (fun i => ys.getD i 0) (m - 1) (k - 1) ∧ sb = 0) ∨ (¬ Stk (fun i => ys.getD i 0) (m - 1) (k - 1) ∧ sb = 1)) (hfin : ∀ a x e', RoundRel p k T E rb sb n a x e' → e' ≤ 1024) :
    Calls Tryz.prog 73 #[.pointer (some ⟨x, 0, none⟩)] w (F64Ans w p k T E rb sb n) := by
  have x3 : w.cell? ⟨x, 3, none⟩ = some (.int .u8 1) := blk_cell hx 3
  have x4 : w.cell? ⟨x, 4, none⟩ = some (.bool n) := blk_cell hx 4
  have x6 : w.cell? ⟨x, 6, none⟩ = some (.int .i32 E) := blk_cell hx 6
  have w1 : IntKind.i32.wrap (E - 1) = E - 1 := by rw [IntKind.wrap_i32]; omega
  have d1 : decide (E - 1 < -1022) = true := by rw [decide_eq_true_eq]; omega
  have w2 : IntKind.i64.wrap (E - 1) = E - 1 := by rw [IntKind.wrap_i64]; omega
  have w3 : (1075 : Int) + (E - 1) = p := by omega
  have w4 : IntKind.i64.wrap (p : Int) = p := by rw [IntKind.wrap_i64]; omega
  have w5 : IntKind.u32.wrap (p : Int) = p := by rw [IntKind.wrap_u32]; omega
  have d2 : decide ((p : Int) < 0) = false := by rw [decide_eq_false_iff_not]; omega
  have d3 : ((p : Int) == 0) = false := by rw [beq_eq_false_iff_ne]; omega
  have x5 : w.cell? ⟨x, 5, none⟩ = some (.slice (some ⟨b, 0, none⟩) m c) := blk_cell hx 5
  have hxl := blk_lt hx
  have HX := Lib.hid (And.intro hx (And.intro hb (And.intro hm (And.intro hT (And.intro hrb (And.intro hst h1))))))
  have HF := Lib.hid hfin
  have HK := Lib.hid (And.intro hk hpE)
  clear hx hb hm hT hrb hst hfin h1 hk hpE
  go_enter Tryz.func73, Tryz.ntmps73
  go_upto_region 8 with (fail)
  go_quiet (fail)
  have HO0 := Lib.hid ((Only.refl w (fun _ => False)).drewN nq)
  have hxd : (w.drewN nq).heap[x]? = some (.cells (fl P 0 1 n (.slice (some ⟨b, 0, none⟩) m c) E) 112 (0, 0)) := (HO0.out.kept x hxl (fun h => h)).trans HX.out.1
  have hbd := HO0.out.blk HX.out.2.1 (fun h => h)
  replace hxl := blk_lt hxd
  clear x3 x4 x5 x6
  generalize w.drewN nq = wd at *
  have x4 : wd.cell? ⟨x, 4, none⟩ = some (.bool n) := blk_cell hxd 4
  have HXD := Lib.hid (And.intro hxd hbd)
  clear hxd hbd
  go_upto_region 19 with (fail)
  go_wp2_with fail
  obtain ⟨_, _, hm, hT, hrb, hst, h1⟩ := HX.out
  refine (set_any_flt wd.heap.size x b c m p k P ys E T rb sb n _ (heap_alloc_new wd _) ((Below.heap_alloc _ _ x hxl).trans HXD.out.1) (((Only.refl wd (fun _ => False)).alloc _).blk HXD.out.2 (fun h => h)) hm h1 (by omega) HK.out.1 (by omega) (by omega) hP hP2 hT hrb hst (by omega) (by omega)).mono ?_
  rintro en w2 ⟨rfl, ⟨b', c', a, x', e', zs, hf2, hb2, hl2, y0, hbb, hrel⟩, ho2⟩
  have hfin := HF.out a x' e' hrel
  have hxx : w2.heap[x]? = some (.cells (fl P 0 1 n (.slice (some ⟨b, 0, none⟩) m c) E) 112 (0, 0)) := (ho2.kept x (by simp; omega) (by omega)).trans ((Below.heap_alloc _ _ x hxl).trans HXD.out.1)
  have hoA : Only w w2 (fun _ => False) := HO0.out.trans (((Only.refl wd (fun _ => False)).alloc _).step ho2 (by rintro i hi rfl; omega))
  have HO := Lib.hid hoA
  have HREL := Lib.hid hrel
  have hr1 := RoundRel.range hrel
  have hTT : 9223372036854775808 ≤ T ∧ T < 18446744073709551616 := by rw [← hT]; exact ⟨hm.2.2.2.2.2.2, (hm.2.2.2.2.2.1 (m - 1) (by have := hm.1; omega)).2⟩
  have hw := RoundRel.word hrel (by have := HK.out.1; omega) (by omega) hTT.1 hTT.2
  clear hoA ho2 hbb hm hT hrb hst h1 x4 hrel HX HXD HF HO0
  generalize wd.heap.size = r at *
  have x4 : w2.cell? ⟨x, 4, none⟩ = some (.bool n) := blk_cell hxx 4
  have r2 : w2.cell? ⟨r, 2, none⟩ = some (.int .i8 a) := blk_cell hf2 2
  have r3 : w2.cell? ⟨r, 3, none⟩ = some (.int .u8 1) := blk_cell hf2 3
  have r5 : w2.cell? ⟨r, 5, none⟩ = some (.slice (some ⟨b', 0, none⟩) 1 c') := blk_cell hf2 5
  have r6 : w2.cell? ⟨r, 6, none⟩ = some (.int .i32 e') := blk_cell hf2 6
  have HM := Lib.hid (fun W hb => msb_lit b' c' zs x' W hb hl2 y0)
  clear hf2 hxx
  have v1 : IntKind.i32.wrap (e' - 1) = e' - 1 := by rw [IntKind.wrap_i32]; omega
  have d5 : decide (1023 < e' - 1) = false := by rw [decide_eq_false_iff_not]; omega
  go_upto_if 88 with (fail)
  go_cut [8] (fun s wx => s = .int .u64 (sg n) ∧ w2 = wx)
  case first =>
    cases n
    · go_wp2_with fail
      go_meet
      exact ⟨rfl, rfl⟩
    · go_wp2_with fail
      go_meet
      exact ⟨rfl, rfl⟩
  case rest =>
  obtain ⟨rfl, rfl⟩ := hcut
  by_cases hd : e' < -1021
  · have d6 : decide (e' - 1 < -1022) = true := by rw [decide_eq_true_eq]; omega
    have v2 : IntKind.i64.wrap (e' - 1) = e' - 1 := by rw [IntKind.wrap_i64]; omega
    obtain ⟨q, hq⟩ : ∃ q : Nat, 1074 + e' = q := ⟨(1074 + e').toNat, by omega⟩
    have v3 : (1075 : Int) + (e' - 1) = q := by omega
    have v4 : IntKind.i64.wrap (q : Int) = q := by rw [IntKind.wrap_i64]; omega
    obtain ⟨t, ht⟩ : ∃ t : Nat, 64 - (q : Int) = t := ⟨(64 - (q : Int)).toNat, by omega⟩
    have v5 : IntKind.i64.wrap (t : Int) = t := by rw [IntKind.wrap_i64]; omega
    have v6 : IntKind.u64.wrap (t : Int) = t := by rw [IntKind.wrap_u64]; omega
    have HQ := Lib.hid hq
    clear hq
    go_wp2_with fail
    refine (HM.out _ hb2).mono ?_
    rintro en w' ⟨rfl, hw⟩
    rw [hw]
    clear hw w'
    go_upto_region 33 with (fail)
    go_quiet (fail)
    go_wp2_with fail
    go_ret2
    have hq := HQ.out
    have hpow : (2 : Int) ^ t = 2 ^ (64 - q) := by rw [show t = 64 - q by omega]
    have hlt : x' / 2 ^ t < 4503599627370496 := by
      have e : (4503599627370496 : Int) * 2 ^ (12 : Nat) = 18446744073709551616 := by decide
      have hp : (0 : Int) < 2 ^ t := Int.pow_pos (by omega)
      rw [Int.ediv_lt_iff_lt_mul hp]
      have : (2 : Int) ^ 12 ≤ 2 ^ t := by
        rw [two_pow_cast, two_pow_cast]
        exact Int.ofNat_le.2 (Nat.pow_le_pow_right (by omega) (by omega))
      have := Int.mul_le_mul_of_nonneg_left this (show (0 : Int) ≤ 4503599627370496 by decide)
      omega
    have h0 : 0 ≤ x' / 2 ^ t := Int.ediv_nonneg (by omega) (Int.le_of_lt (Int.pow_pos (by omega)))
    have hj : bits .or .u64 (bits .or .u64 (sg n) 0) (x' / 2 ^ t) = sg n + x' / 2 ^ t := by
      have := join3 n 0 (x' / 2 ^ t) (by omega) (by omega) h0 hlt
      rw [Int.zero_mul, Int.add_zero] at this
      exact this
    have hs := sg_cases n
    refine ⟨a, x', e', _, rfl, HREL.out, HO.out.drewN _, .inr ⟨hd, ?_⟩⟩
    rw [hj, show (1074 + e').toNat = q by omega, ← hpow]
    omega
  · have d6 : decide (e' - 1 < -1022) = false := by rw [decide_eq_false_iff_not]; omega
    have v2 : IntKind.i32.wrap (e' - 1 + 1023) = e' + 1022 := by rw [IntKind.wrap_i32]; omega
    have v3 : IntKind.u64.wrap (e' + 1022) = e' + 1022 := by rw [IntKind.wrap_u64]; omega
    go_wp2_with fail
    refine (HM.out _ hb2).mono ?_
    rintro en w' ⟨rfl, hw⟩
    rw [hw]
    clear hw w'
    go_upto_region 33 with (fail)
    go_quiet (fail)
    go_wp2_with fail
    go_ret2
    have hj : bits .or .u64 (bits .or .u64 (sg n) ((e' + 1022) * 4503599627370496)) (bits .and .u64 (x' / 2048) 4503599627370495) = sg n + (e' + 1021) * 4503599627370496 + x' / 2048 := by
      rw [and_52 _ (by omega) (by omega), join3 n _ _ (by omega) (by omega) (by omega) (by omega)]
      omega
    have hs := sg_cases n
    exact ⟨a, x', e', _, rfl, HREL.out, HO.out.drewN _, .inl ⟨by omega, by rw [hj]; omega⟩⟩
end Go.Proofs.YtgbpglojbgicjaaGreatFmt
namespace Go.Proofs.YtgbpglojbgicjaaGreatFmt
open Go.RowKit Go.Proofs.YtgbpglojbgicjaaGreatFmtW.PrintWords
@[go_sem] theorem Tryz.frombits32 (n : Int) (w : World) : (callFunc 80 #[.int .u32 n]).run Tryz.prog w = .ok (.value (.float .f32 n.toNat)) w := by
  rw [run_callFunc_extern (e := Extern.MathFloatBits.float32frombits) Tryz.func80 (by kernel_rfl) (by kernel_rfl) (by kernel_rfl) (by kernel_rfl)]
  rfl
def sg2 (n : Bool) : Int := if n then 2147483648 else 0
theorem and_23 (a : Int) (ha : 0 ≤ a) (ha2 : a < 4294967296) : bits .and .u32 a 8388607 = a % 8388608 := by
  obtain ⟨x, rfl⟩ : ∃ x : Nat, a = x := ⟨a.toNat, by omega⟩
  have h := u32_and_nat x 8388607 (by omega) (by omega)
  have e : ((8388607 : Nat) : Int) = 8388607 := rfl
  rw [e] at h
  rw [h, Nat.and_two_pow_sub_one_eq_mod x 23]
  rfl
theorem or_mul2 (a b : Int) (k : Nat) (hk : k < 32) (ha : 0 ≤ a) (ha2 : a < 4294967296) (hm : a % 2 ^ k = 0) (hb : 0 ≤ b) (hb2 : b < 2 ^ k) : bits .or .u32 a b = a + b := by
  obtain ⟨x, rfl⟩ : ∃ x : Nat, a = x := ⟨a.toNat, by omega⟩
  obtain ⟨y, rfl⟩ : ∃ y : Nat, b = y := ⟨b.toNat, by omega⟩
  rw [two_pow_cast] at hm hb2
  have h1 : x % 2 ^ k = 0 := by exact_mod_cast hm
  have h2 : y < 2 ^ k := by exact_mod_cast hb2
  have h3 : 2 ^ k < 2 ^ 32 := Nat.pow_lt_pow_right (by omega) hk
  rw [u32_or_nat _ _ (by omega) (by omega), nat_join k x y h1 h2, Int.natCast_add]
theorem sg2_cases (n : Bool) : sg2 n = 0 ∨ sg2 n = 2147483648 := by cases n <;> simp [sg2]
theorem join32 (n : Bool) (B m : Int) (h0 : 0 ≤ B) (h1 : B < 256) (m0 : 0 ≤ m) (m1 : m < 8388608) : bits .or .u32 (bits .or .u32 (sg2 n) (B * 8388608)) m = sg2 n + B * 8388608 + m := by
  have hs := sg2_cases n
  have e63 : (2 : Int) ^ 31 = 2147483648 := by decide
  have e52 : (2 : Int) ^ 23 = 8388608 := by decide
  rw [or_mul2 (sg2 n) (B * 8388608) 31 (by omega) (by omega) (by omega) (by rw [e63]; omega) (by omega) (by rw [e63]; omega)]
  exact or_mul2 _ m 23 (by omega) (by omega) (by omega) (by rw [e52]; omega) m0 (by rw [e52]; exact m1)
set_option maxRecDepth 100000 in
set_option maxHeartbeats 4000000 in
theorem msb32_lit (b c : Nat) (ys : List Int) (x : Int) (w : World) (hb : Blk w b ys) (hn : 1 ≤ ys.length) (h0 : ys.getD 0 0 = x) (hx0 : 0 ≤ x) (hx1 : x < 18446744073709551616) :
    Calls Tryz.prog 109 #[.slice (some ⟨b, 0, none⟩) 1 c] w fun e w' => e = .returned (.int .u32 (x / 4294967296)) ∧ w' = w := by
  have hc : w.cell? ⟨b, 0, none⟩ = some (.int .u64 x) := by rw [hb.cell _ (by omega), h0]
  have h1 : IntKind.u32.wrap (x / 4294967296) = x / 4294967296 := by rw [IntKind.wrap_u32]; omega
  go_enter Tryz.func109, Tryz.ntmps109
  go_wp2_with fail
  go_ret
  exact ⟨rfl, rfl⟩
def F32Ans (w : World) (p k : Nat) (T E rb sb : Int) (n : Bool) (en : Ending) (w' : World) : Prop := ∃ a x e' v, en = .returned (.tuple #[.float .f32 v, .int .i8 a]) ∧ RoundRel p k T E rb sb n a x e' ∧ Only w w' (fun _ => False) ∧
  ((-125 ≤ e' ∧ (v : Int) = sg2 n + (e' + 125) * 8388608 + x / 1099511627776) ∨ (e' < -125 ∧ (v : Int) = sg2 n + x / 2 ^ (64 - (149 + e').toNat)))
set_option linter.unusedVariables false in
set_option linter.unusedSimpArgs false in
set_option maxRecDepth 100000 in
set_option maxHeartbeats 8000000 in
theorem float32_N (x b c m  P : Nat) (ys : List Int) (E T rb sb : Int) (n : Bool) (w : World) (hx : w.heap[x]? = some (.cells (fl P 0 1 n (.slice (some ⟨b, 0, none⟩) m c) E) 112 (0, 0))) (hb : Blk w b ys) (hm : Mant ys m c) (h1 : m = 1) (hP : 64 ≤ P) (hP2 : P < 4294967296) (hT : ys.getD (m - 1) 0 = T) (hE1 : E ≤ 128) (hE0 : -125 ≤ E)
    (hrb : T / 2 ^ (40 - 1) % 2 = rb) (hst : (Stk (fun i => ys.getD i 0) (m - 1) (40 - 1) ∧ sb = 0) ∨ (¬ Stk (fun i => ys.getD i 0) (m - 1) (40 - 1) ∧ sb = 1)) (hfin : ∀ a x e', RoundRel 24 40 T E rb sb n a x e' → e' ≤ 128) :
    Calls Tryz.prog 72 #[.pointer (some ⟨x, 0, none⟩)] w (F32Ans w 24 40 T E rb sb n) := by
  have x3 : w.cell? ⟨x, 3, none⟩ = some (.int .u8 1) := blk_cell hx 3
  have x4 : w.cell? ⟨x, 4, none⟩ = some (.bool n) := blk_cell hx 4
  have x6 : w.cell? ⟨x, 6, none⟩ = some (.int .i32 E) := blk_cell hx 6
  have w1 : IntKind.i32.wrap (E - 1) = E - 1 := by rw [IntKind.wrap_i32]; omega
  have d1 : decide (E - 1 < -126) = false := by rw [decide_eq_false_iff_not]; omega
  have hxl := blk_lt hx
  have HX := Lib.hid (And.intro hx (And.intro hb (And.intro hm (And.intro hT (And.intro hrb (And.intro hst h1))))))
  have HF := Lib.hid hfin
  clear hx hb hm hT hrb hst hfin h1 
  go_enter Tryz.func72, Tryz.ntmps72
  have HO0 := Lib.hid (Only.refl w (fun _ => False))
  have hxd := HX.out.1
  have hbd := HX.out.2.1
  have HXD := Lib.hid (And.intro hxd hbd)
  clear hxd hbd
  go_upto_region 19 with (fail)
  go_wp2_with fail
  obtain ⟨_, _, hm, hT, hrb, hst, h1⟩ := HX.out
  refine (set_any_flt w.heap.size x b c m 24 40 P ys E T rb sb n _ (heap_alloc_new w _) ((Below.heap_alloc _ _ x hxl).trans HXD.out.1) (((Only.refl w (fun _ => False)).alloc _).blk HXD.out.2 (fun h => h)) hm h1 (by omega) rfl (by omega) (by omega) hP hP2 hT hrb hst (by omega) (by omega)).mono ?_
  rintro en w2 ⟨rfl, ⟨b', c', a, x', e', zs, hf2, hb2, hl2, y0, hbb, hrel⟩, ho2⟩
  have hfin := HF.out a x' e' hrel
  have hxx : w2.heap[x]? = some (.cells (fl P 0 1 n (.slice (some ⟨b, 0, none⟩) m c) E) 112 (0, 0)) := (ho2.kept x (by simp; omega) (by omega)).trans ((Below.heap_alloc _ _ x hxl).trans HXD.out.1)
  have hoA : Only w w2 (fun _ => False) := HO0.out.trans (((Only.refl w (fun _ => False)).alloc _).step ho2 (by rintro i hi rfl; omega))
  have HO := Lib.hid hoA
  have HREL := Lib.hid hrel
  have hr1 := RoundRel.range hrel
  have hTT : 9223372036854775808 ≤ T ∧ T < 18446744073709551616 := by rw [← hT]; exact ⟨hm.2.2.2.2.2.2, (hm.2.2.2.2.2.1 (m - 1) (by have := hm.1; omega)).2⟩
  have hw := RoundRel.word hrel (by omega) (by omega) hTT.1 hTT.2
  clear hoA ho2 hbb hm hT hrb hst h1 x4 hrel HX HXD HF HO0
  generalize w.heap.size = r at *
  have x4 : w2.cell? ⟨x, 4, none⟩ = some (.bool n) := blk_cell hxx 4
  have r2 : w2.cell? ⟨r, 2, none⟩ = some (.int .i8 a) := blk_cell hf2 2
  have r3 : w2.cell? ⟨r, 3, none⟩ = some (.int .u8 1) := blk_cell hf2 3
  have r5 : w2.cell? ⟨r, 5, none⟩ = some (.slice (some ⟨b', 0, none⟩) 1 c') := blk_cell hf2 5
  have r6 : w2.cell? ⟨r, 6, none⟩ = some (.int .i32 e') := blk_cell hf2 6
  obtain ⟨y', hy'⟩ : ∃ y', y' = x' / 4294967296 := ⟨_, rfl⟩
  have hyr : 2147483648 ≤ y' ∧ y' < 4294967296 := by omega
  have HM : Hid (∀ W, Blk W b' zs → Calls Tryz.prog 109 #[.slice (some ⟨b', 0, none⟩) 1 c'] W fun e w' => e = .returned (.int .u32 y') ∧ w' = W) := Lib.hid (fun W hb => by rw [hy']; exact msb32_lit b' c' zs x' W hb hl2 y0 (by omega) (by omega))
  have HY := Lib.hid hy'
  clear hy'
  clear hf2 hxx
  have v1 : IntKind.i32.wrap (e' - 1) = e' - 1 := by rw [IntKind.wrap_i32]; omega
  have d5 : decide (127 < e' - 1) = false := by rw [decide_eq_false_iff_not]; omega
  go_upto_if 90 with (fail)
  go_cut [8] (fun s wx => s = .int .u32 (sg2 n) ∧ w2 = wx)
  case first =>
    cases n
    · go_wp2_with fail
      go_meet
      exact ⟨rfl, rfl⟩
    · go_wp2_with fail
      go_meet
      exact ⟨rfl, rfl⟩
  case rest =>
  obtain ⟨rfl, rfl⟩ := hcut
  by_cases hd : e' < -125
  · omega
  · have d6 : decide (e' - 1 < -126) = false := by rw [decide_eq_false_iff_not]; omega
    have v2 : IntKind.i32.wrap (e' - 1 + 127) = e' + 126 := by rw [IntKind.wrap_i32]; omega
    have v3 : IntKind.u32.wrap (e' + 126) = e' + 126 := by rw [IntKind.wrap_u32]; omega
    go_wp2_with fail
    refine (HM.out _ hb2).mono ?_
    rintro en w' ⟨rfl, hw⟩
    rw [hw]
    clear hw w'
    go_upto_region 33 with (fail)
    go_quiet (fail)
    go_wp2_with fail
    go_ret2
    have hj : bits .or .u32 (bits .or .u32 (sg2 n) ((e' + 126) * 8388608)) (bits .and .u32 (y' / 256) 8388607) = sg2 n + (e' + 125) * 8388608 + y' / 256 := by
      rw [and_23 _ (by omega) (by omega), join32 n _ _ (by omega) (by omega) (by omega) (by omega)]
      omega
    have hs := sg2_cases n
    exact ⟨a, x', e', _, rfl, HREL.out, HO.out.drewN _, .inl ⟨by omega, by rw [hj]; have := HY.out; omega⟩⟩
set_option linter.unusedVariables false in
set_option linter.unusedSimpArgs false in
set_option maxRecDepth 100000 in
set_option maxHeartbeats 8000000 in
theorem float32_D (x b c m p k P : Nat) (ys : List Int) (E T rb sb : Int) (n : Bool) (w : World) (hx : w.heap[x]? = some (.cells (fl P 0 1 n (.slice (some ⟨b, 0, none⟩) m c) E) 112 (0, 0))) (hb : Blk w b ys) (hm : Mant ys m c) (h1 : m = 1) (hP : 64 ≤ P) (hP2 : P < 4294967296) (hT : ys.getD (m - 1) 0 = T) (hE1 : E ≤ 128) (hE0 : E < -125) (hpE : 149 + E = p) (hp0 : 0 < p) (hk : k = 64 - p)
    (hrb : T / 2 ^ (k - 1) % 2 = rb) (hst : (Stk (fun i => ys.getD i 0) (m - 1) (k - 1) ∧ sb = 0) ∨ (¬ Stk (fun i => ys.getD i 0) (m - 1) (k - 1) ∧ sb = 1)) (hfin : ∀ a x e', RoundRel p k T E rb sb n a x e' → e' ≤ 128) :
    Calls Tryz.prog 72 #[.pointer (some ⟨x, 0, none⟩)] w (F32Ans w p k T E rb sb n) := by
  have x3 : w.cell? ⟨x, 3, none⟩ = some (.int .u8 1) := blk_cell hx 3
  have x4 : w.cell? ⟨x, 4, none⟩ = some (.bool n) := blk_cell hx 4
  have x6 : w.cell? ⟨x, 6, none⟩ = some (.int .i32 E) := blk_cell hx 6
  have w1 : IntKind.i32.wrap (E - 1) = E - 1 := by rw [IntKind.wrap_i32]; omega
  have d1 : decide (E - 1 < -126) = true := by rw [decide_eq_true_eq]; omega
  have w2 : IntKind.i64.wrap (E - 1) = E - 1 := by rw [IntKind.wrap_i64]; omega
  have w3 : (150 : Int) + (E - 1) = p := by omega
  have w4 : IntKind.i64.wrap (p : Int) = p := by rw [IntKind.wrap_i64]; omega
  have w5 : IntKind.u32.wrap (p : Int) = p := by rw [IntKind.wrap_u32]; omega
  have d2 : decide ((p : Int) < 0) = false := by rw [decide_eq_false_iff_not]; omega
  have d3 : ((p : Int) == 0) = false := by rw [beq_eq_false_iff_ne]; omega
  have x5 : w.cell? ⟨x, 5, none⟩ = some (.slice (some ⟨b, 0, none⟩) m c) := blk_cell hx 5
  have hxl := blk_lt hx
  have HX := Lib.hid (And.intro hx (And.intro hb (And.intro hm (And.intro hT (And.intro hrb (And.intro hst h1))))))
  have HF := Lib.hid hfin
  have HK := Lib.hid (And.intro hk hpE)
  clear hx hb hm hT hrb hst hfin h1 hk hpE
  go_enter Tryz.func72, Tryz.ntmps72
  go_upto_region 8 with (fail)
  go_quiet (fail)
  have HO0 := Lib.hid ((Only.refl w (fun _ => False)).drewN nq)
  have hxd : (w.drewN nq).heap[x]? = some (.cells (fl P 0 1 n (.slice (some ⟨b, 0, none⟩) m c) E) 112 (0, 0)) := (HO0.out.kept x hxl (fun h => h)).trans HX.out.1
  have hbd := HO0.out.blk HX.out.2.1 (fun h => h)
  replace hxl := blk_lt hxd
  clear x3 x4 x5 x6
  generalize w.drewN nq = wd at *
  have x4 : wd.cell? ⟨x, 4, none⟩ = some (.bool n) := blk_cell hxd 4
  have HXD := Lib.hid (And.intro hxd hbd)
  clear hxd hbd
  go_upto_region 19 with (fail)
  go_wp2_with fail
  obtain ⟨_, _, hm, hT, hrb, hst, h1⟩ := HX.out
  refine (set_any_flt wd.heap.size x b c m p k P ys E T rb sb n _ (heap_alloc_new wd _) ((Below.heap_alloc _ _ x hxl).trans HXD.out.1) (((Only.refl wd (fun _ => False)).alloc _).blk HXD.out.2 (fun h => h)) hm h1 (by omega) HK.out.1 (by omega) (by omega) hP hP2 hT hrb hst (by omega) (by omega)).mono ?_
  rintro en w2 ⟨rfl, ⟨b', c', a, x', e', zs, hf2, hb2, hl2, y0, hbb, hrel⟩, ho2⟩
  have hfin := HF.out a x' e' hrel
  have hxx : w2.heap[x]? = some (.cells (fl P 0 1 n (.slice (some ⟨b, 0, none⟩) m c) E) 112 (0, 0)) := (ho2.kept x (by simp; omega) (by omega)).trans ((Below.heap_alloc _ _ x hxl).trans HXD.out.1)
  have hoA : Only w w2 (fun _ => False) := HO0.out.trans (((Only.refl wd (fun _ => False)).alloc _).step ho2 (by rintro i hi rfl; omega))
  have HO := Lib.hid hoA
  have HREL := Lib.hid hrel
  have hr1 := RoundRel.range hrel
  have hTT : 9223372036854775808 ≤ T ∧ T < 18446744073709551616 := by rw [← hT]; exact ⟨hm.2.2.2.2.2.2, (hm.2.2.2.2.2.1 (m - 1) (by have := hm.1; omega)).2⟩
  have hw := RoundRel.word hrel (by have := HK.out.1; omega) (by omega) hTT.1 hTT.2
  clear hoA ho2 hbb hm hT hrb hst h1 x4 hrel HX HXD HF HO0
  generalize wd.heap.size = r at *
  have x4 : w2.cell? ⟨x, 4, none⟩ = some (.bool n) := blk_cell hxx 4
  have r2 : w2.cell? ⟨r, 2, none⟩ = some (.int .i8 a) := blk_cell hf2 2
  have r3 : w2.cell? ⟨r, 3, none⟩ = some (.int .u8 1) := blk_cell hf2 3
  have r5 : w2.cell? ⟨r, 5, none⟩ = some (.slice (some ⟨b', 0, none⟩) 1 c') := blk_cell hf2 5
  have r6 : w2.cell? ⟨r, 6, none⟩ = some (.int .i32 e') := blk_cell hf2 6
  obtain ⟨y', hy'⟩ : ∃ y', y' = x' / 4294967296 := ⟨_, rfl⟩
  have hyr : 2147483648 ≤ y' ∧ y' < 4294967296 := by omega
  have HM : Hid (∀ W, Blk W b' zs → Calls Tryz.prog 109 #[.slice (some ⟨b', 0, none⟩) 1 c'] W fun e w' => e = .returned (.int .u32 y') ∧ w' = W) := Lib.hid (fun W hb => by rw [hy']; exact msb32_lit b' c' zs x' W hb hl2 y0 (by omega) (by omega))
  have HY := Lib.hid hy'
  clear hy'
  clear hf2 hxx
  have v1 : IntKind.i32.wrap (e' - 1) = e' - 1 := by rw [IntKind.wrap_i32]; omega
  have d5 : decide (127 < e' - 1) = false := by rw [decide_eq_false_iff_not]; omega
  go_upto_if 90 with (fail)
  go_cut [8] (fun s wx => s = .int .u32 (sg2 n) ∧ w2 = wx)
  case first =>
    cases n
    · go_wp2_with fail
      go_meet
      exact ⟨rfl, rfl⟩
    · go_wp2_with fail
      go_meet
      exact ⟨rfl, rfl⟩
  case rest =>
  obtain ⟨rfl, rfl⟩ := hcut
  by_cases hd : e' < -125
  · have d6 : decide (e' - 1 < -126) = true := by rw [decide_eq_true_eq]; omega
    have v2 : IntKind.i64.wrap (e' - 1) = e' - 1 := by rw [IntKind.wrap_i64]; omega
    obtain ⟨q, hq⟩ : ∃ q : Nat, 149 + e' = q := ⟨(149 + e').toNat, by omega⟩
    have v3 : (150 : Int) + (e' - 1) = q := by omega
    have v4 : IntKind.i64.wrap (q : Int) = q := by rw [IntKind.wrap_i64]; omega
    obtain ⟨t, ht⟩ : ∃ t : Nat, 32 - (q : Int) = t := ⟨(32 - (q : Int)).toNat, by omega⟩
    have v5 : IntKind.i64.wrap (t : Int) = t := by rw [IntKind.wrap_i64]; omega
    have v6 : IntKind.u64.wrap (t : Int) = t := by rw [IntKind.wrap_u64]; omega
    have HQ := Lib.hid hq
    clear hq
    go_wp2_with fail
    refine (HM.out _ hb2).mono ?_
    rintro en w' ⟨rfl, hw⟩
    rw [hw]
    clear hw w'
    go_upto_region 33 with (fail)
    go_quiet (fail)
    go_wp2_with fail
    go_ret2
    have hq := HQ.out
    have hpow : (2 : Int) ^ t = 2 ^ (32 - q) := by rw [show t = 32 - q by omega]
    have hlt : y' / 2 ^ t < 8388608 := by
      have e : (8388608 : Int) * 2 ^ (9 : Nat) = 4294967296 := by decide
      have hp : (0 : Int) < 2 ^ t := Int.pow_pos (by omega)
      rw [Int.ediv_lt_iff_lt_mul hp]
      have : (2 : Int) ^ 9 ≤ 2 ^ t := by
        rw [two_pow_cast, two_pow_cast]
        exact Int.ofNat_le.2 (Nat.pow_le_pow_right (by omega) (by omega))
      have := Int.mul_le_mul_of_nonneg_left this (show (0 : Int) ≤ 8388608 by decide)
      omega
    have h0 : 0 ≤ y' / 2 ^ t := Int.ediv_nonneg (by omega) (Int.le_of_lt (Int.pow_pos (by omega)))
    have hj : bits .or .u32 (bits .or .u32 (sg2 n) 0) (y' / 2 ^ t) = sg2 n + y' / 2 ^ t := by
      have := join32 n 0 (y' / 2 ^ t) (by omega) (by omega) h0 hlt
      rw [Int.zero_mul, Int.add_zero] at this
      exact this
    have hs := sg2_cases n
    refine ⟨a, x', e', _, rfl, HREL.out, HO.out.drewN _, .inr ⟨hd, ?_⟩⟩
    rw [hj, show (149 + e').toNat = q by omega]
    have h5 : x' / 2 ^ (64 - q) = y' / 2 ^ t := by
      rw [HY.out, show 64 - q = 32 + t by omega, Int.pow_add, ← Int.ediv_ediv_of_nonneg (by decide)]
      rfl
    rw [h5]
    omega
  · have d6 : decide (e' - 1 < -126) = false := by rw [decide_eq_false_iff_not]; omega
    have v2 : IntKind.i32.wrap (e' - 1 + 127) = e' + 126 := by rw [IntKind.wrap_i32]; omega
    have v3 : IntKind.u32.wrap (e' + 126) = e' + 126 := by rw [IntKind.wrap_u32]; omega
    go_wp2_with fail
    refine (HM.out _ hb2).mono ?_
    rintro en w' ⟨rfl, hw⟩
    rw [hw]
    clear hw w'
    go_upto_region 33 with (fail)
    go_quiet (fail)
    go_wp2_with fail
    go_ret2
    have hj : bits .or .u32 (bits .or .u32 (sg2 n) ((e' + 126) * 8388608)) (bits .and .u32 (y' / 256) 8388607) = sg2 n + (e' + 125) * 8388608 + y' / 256 := by
      rw [and_23 _ (by omega) (by omega), join32 n _ _ (by omega) (by omega) (by omega) (by omega)]
      omega
    have hs := sg2_cases n
    exact ⟨a, x', e', _, rfl, HREL.out, HO.out.drewN _, .inl ⟨by omega, by rw [hj]; have := HY.out; omega⟩⟩
end Go.Proofs.YtgbpglojbgicjaaGreatFmt
namespace Go.Proofs.YtgbpglojbgicjaaGreatFmt
open Go.RowKit Go.Proofs.YtgbpglojbgicjaaGreatFmtW.PrintWords
def kk64 (E : Int) : Nat := if E < -1021 then (64 - (1074 + E)).toNat else 11
def kk32 (E : Int) : Nat := if E < -125 then (64 - (149 + E)).toNat else 40
theorem low_bits (T : Int) (k : Nat) (hk : 0 < k) (h : T % 2 ^ k = 0) : T / 2 ^ (k - 1) % 2 = 0 ∧ T % 2 ^ (k - 1) = 0 ∧ T / 2 ^ k * 2 ^ k = T := by
  have e : T = 2 ^ k * (T / 2 ^ k) := by have := Int.mul_ediv_add_emod T (2 ^ k); omega
  refine ⟨?_, ?_, by rw [Int.mul_comm]; exact e.symm⟩
  · rw [e, pow_pred k hk, Int.mul_assoc, Int.mul_ediv_cancel_left _ (Int.ne_of_gt (Int.pow_pos (by omega)))]
    exact Int.mul_emod_right _ _
  · rw [e, pow_pred k hk, Int.mul_assoc]
    exact Int.mul_emod_right _ _
theorem RoundRel.exact {p k : Nat} {T e : Int} {n : Bool} {a x e' : Int} (h : RoundRel p k T e 0 0 n a x e') : a = 0 ∧ x = T / 2 ^ k * 2 ^ k ∧ e' = e := by
  obtain ⟨ha, h | h | h⟩ := h
  · exact ⟨ha, h.2.1, h.2.2⟩
  · exact absurd h.1 (by simp [Inc])
  · exact absurd h.1 (by simp [Inc])
theorem stk_zero (ys : List Int) (T : Int) (k : Nat) (hT : ys.getD 0 0 = T) (h : T % 2 ^ k = 0) : Stk (fun i => ys.getD i 0) 0 k := ⟨fun i hi => by omega, by show ys.getD 0 0 % _ = 0; rw [hT]; exact h⟩
theorem float64_exact (x b c P : Nat) (ys : List Int) (E T : Int) (n : Bool) (w : World) (hx : w.heap[x]? = some (.cells (fl P 0 1 n (.slice (some ⟨b, 0, none⟩) 1 c) E) 112 (0, 0))) (hb : Blk w b ys) (hm : Mant ys 1 c) (hP : 64 ≤ P) (hP2 : P < 4294967296) (hT : ys.getD 0 0 = T) (hE0 : -1073 ≤ E) (hE1 : E ≤ 1024) (hex : T % 2 ^ kk64 E = 0) :
    Calls Tryz.prog 73 #[.pointer (some ⟨x, 0, none⟩)] w fun en w' => ∃ v : Nat, en = .returned (.tuple #[.float .f64 v, .int .i8 0]) ∧ Only w w' (fun _ => False) ∧ (v : Int) = sg n + T / 2 ^ kk64 E + (max (E - 53) (-1074) + 1074) * 4503599627370496 := by
  by_cases h : E < -1021
  · have hk : kk64 E = (64 - (1074 + E)).toNat := if_pos h
    obtain ⟨p, hp⟩ : ∃ p : Nat, 1074 + E = p := ⟨(1074 + E).toNat, by omega⟩
    obtain ⟨k, hk2⟩ : ∃ k : Nat, k = 64 - p := ⟨_, rfl⟩
    have hkk : kk64 E = k := by omega
    rw [hkk] at hex ⊢
    obtain ⟨l1, l2, l3⟩ := low_bits T k (by omega) hex
    refine (float64_D x b c 1 p k P ys E T 0 0 n w hx hb hm rfl hP hP2 hT hE1 h hp (by omega) hk2 l1 (.inl ⟨stk_zero ys T _ hT l2, rfl⟩) (fun a x e' h => by have := h.exact; omega)).mono ?_
    rintro en w' ⟨a, x', e', v, rfl, hrel, ho, hv⟩
    obtain ⟨rfl, rfl, rfl⟩ := hrel.exact
    refine ⟨v, rfl, ho, ?_⟩
    rcases hv with hv | hv
    · omega
    · rw [hv.2, show 64 - (1074 + e').toNat = k by omega, l3]
      omega
  · have hkk : kk64 E = 11 := if_neg h
    rw [hkk] at hex ⊢
    obtain ⟨l1, l2, l3⟩ := low_bits T 11 (by omega) hex
    refine (float64_N x b c 1 P ys E T 0 0 n w hx hb hm rfl hP hP2 hT hE1 (by omega) l1 (.inl ⟨stk_zero ys T _ hT l2, rfl⟩) (fun a x e' h => by have := h.exact; omega)).mono ?_
    rintro en w' ⟨a, x', e', v, rfl, hrel, ho, hv⟩
    obtain ⟨rfl, rfl, rfl⟩ := hrel.exact
    refine ⟨v, rfl, ho, ?_⟩
    rcases hv with hv | hv
    · rw [hv.2, l3, show (2 : Int) ^ 11 = 2048 from rfl]
      omega
    · omega
theorem float32_exact (x b c P : Nat) (ys : List Int) (E T : Int) (n : Bool) (w : World) (hx : w.heap[x]? = some (.cells (fl P 0 1 n (.slice (some ⟨b, 0, none⟩) 1 c) E) 112 (0, 0))) (hb : Blk w b ys) (hm : Mant ys 1 c) (hP : 64 ≤ P) (hP2 : P < 4294967296) (hT : ys.getD 0 0 = T) (hE0 : -148 ≤ E) (hE1 : E ≤ 128) (hex : T % 2 ^ kk32 E = 0) :
    Calls Tryz.prog 72 #[.pointer (some ⟨x, 0, none⟩)] w fun en w' => ∃ v : Nat, en = .returned (.tuple #[.float .f32 v, .int .i8 0]) ∧ Only w w' (fun _ => False) ∧ (v : Int) = sg2 n + T / 2 ^ kk32 E + (max (E - 24) (-149) + 149) * 8388608 := by
  by_cases h : E < -125
  · have hk : kk32 E = (64 - (149 + E)).toNat := if_pos h
    obtain ⟨p, hp⟩ : ∃ p : Nat, 149 + E = p := ⟨(149 + E).toNat, by omega⟩
    obtain ⟨k, hk2⟩ : ∃ k : Nat, k = 64 - p := ⟨_, rfl⟩
    have hkk : kk32 E = k := by omega
    rw [hkk] at hex ⊢
    obtain ⟨l1, l2, l3⟩ := low_bits T k (by omega) hex
    refine (float32_D x b c 1 p k P ys E T 0 0 n w hx hb hm rfl hP hP2 hT hE1 h hp (by omega) hk2 l1 (.inl ⟨stk_zero ys T _ hT l2, rfl⟩) (fun a x e' h => by have := h.exact; omega)).mono ?_
    rintro en w' ⟨a, x', e', v, rfl, hrel, ho, hv⟩
    obtain ⟨rfl, rfl, rfl⟩ := hrel.exact
    refine ⟨v, rfl, ho, ?_⟩
    rcases hv with hv | hv
    · omega
    · rw [hv.2, show 64 - (149 + e').toNat = k by omega, l3]
      omega
  · have hkk : kk32 E = 40 := if_neg h
    rw [hkk] at hex ⊢
    obtain ⟨l1, l2, l3⟩ := low_bits T 40 (by omega) hex
    refine (float32_N x b c 1 P ys E T 0 0 n w hx hb hm rfl hP hP2 hT hE1 (by omega) l1 (.inl ⟨stk_zero ys T _ hT l2, rfl⟩) (fun a x e' h => by have := h.exact; omega)).mono ?_
    rintro en w' ⟨a, x', e', v, rfl, hrel, ho, hv⟩
    obtain ⟨rfl, rfl, rfl⟩ := hrel.exact
    refine ⟨v, rfl, ho, ?_⟩
    rcases hv with hv | hv
    · rw [hv.2, l3, show (2 : Int) ^ 40 = 1099511627776 from rfl]
      omega
    · omega
set_option maxRecDepth 100000 in
set_option maxHeartbeats 4000000 in
theorem float64_zero (x : Nat) (p a e : Int) (v : Value) (w : World) (hx : w.heap[x]? = some (.cells (fl p a 0 false v e) 112 (0, 0))) :
    Calls Tryz.prog 73 #[.pointer (some ⟨x, 0, none⟩)] w fun en w' => en = .returned (.tuple #[.float .f64 0, .int .i8 0]) ∧ w' = w := by
  have x3 : w.cell? ⟨x, 3, none⟩ = some (.int .u8 0) := blk_cell hx 3
  have x4 : w.cell? ⟨x, 4, none⟩ = some (.bool false) := blk_cell hx 4
  clear hx
  go_enter Tryz.func73, Tryz.ntmps73
  go_wp2_with fail
  go_ret2
  exact ⟨rfl, rfl⟩
set_option maxRecDepth 100000 in
set_option maxHeartbeats 4000000 in
theorem float32_zero (x : Nat) (p a e : Int) (v : Value) (w : World) (hx : w.heap[x]? = some (.cells (fl p a 0 false v e) 112 (0, 0))) :
    Calls Tryz.prog 72 #[.pointer (some ⟨x, 0, none⟩)] w fun en w' => en = .returned (.tuple #[.float .f32 0, .int .i8 0]) ∧ w' = w := by
  have x3 : w.cell? ⟨x, 3, none⟩ = some (.int .u8 0) := blk_cell hx 3
  have x4 : w.cell? ⟨x, 4, none⟩ = some (.bool false) := blk_cell hx 4
  clear hx
  go_enter Tryz.func72, Tryz.ntmps72
  go_wp2_with fail
  go_ret2
  exact ⟨rfl, rfl⟩
end Go.Proofs.YtgbpglojbgicjaaGreatFmt
namespace Go.Proofs.YtgbpglojbgicjaaGreatFmt
open Go.RowKit Go.Proofs.YtgbpglojbgicjaaGreatFmtW.PrintWords
theorem reads_only {w w1 : World} {S : Nat → Prop} {k : IntKind} {A : Option Addr} {n : Nat} {xs : List Int} (h : ReadsInt w k A n xs) (hw : Only w w1 S) (hs : ∀ ad, A = some ad → ¬ S ad.block) : ReadsInt w1 k A n xs :=
  ⟨h.1, h.2.1, fun hn => by
    obtain ⟨ad, e, hc⟩ := h.2.2 hn
    refine ⟨ad, e, fun j hj => ?_⟩
    have hb : (ad.add j).block = ad.block := by unfold Addr.add; split <;> rfl
    refine (World.cell?_of_block (hw.kept _ (World.block_lt_of_cell? w _ (hc j hj)) ?_)).trans (hc j hj)
    rw [hb]; exact hs ad e⟩
theorem num62 : (Tryz.prog.info? 41).map (fun i => (i.zero, i.size, i.bytes)) = some (some (.agg #[.pointer none, .int .i64 0]), 2, 16) := by kernel_rfl
theorem make_nums (n : Nat) (w : World) (hm : n < 1099511627776) :
    (Instr.makeSlice 49 (.int .i64 (n : Int)) (.int .i64 (n : Int))).run Tryz.prog w = .ok (.slice (some ⟨w.heap.size, 0, none⟩) n n) (w.alloc (.cells (madeCells (Value.agg #[.pointer none, .int .i64 0]).cells (n * 2)) 41)) := by
  obtain ⟨i, hi, h2⟩ := Option.map_eq_some_iff.1 num62
  simp only [Prod.mk.injEq] at h2
  obtain ⟨hz, hs, hb⟩ := h2
  have := run_make (P := Tryz.prog) w 49 41 i (.agg #[.pointer none, .int .i64 0]) Tryz.underlying49 hi hz .i64 .i64 (n : Int) (n : Int) (by omega) (by omega) (by rw [hb]; omega) (by omega)
  rw [this, Int.toNat_natCast, hs]
theorem made2 : madeCells #[Value.pointer none, .int .i64 0] 2 = #[.pointer none, .int .i64 0] := by
  apply Array.ext
  · simp [madeCells]
  · intro i h1 h2
    have : i = 0 ∨ i = 1 := by simp at h2; omega
    rcases this with rfl | rfl <;> simp [madeCells]
theorem made4 : madeCells #[Value.pointer none, .int .i64 0] 4 = #[.pointer none, .int .i64 0, .pointer none, .int .i64 0] := by
  apply Array.ext
  · simp [madeCells]
  · intro i h1 h2
    have : i = 0 ∨ i = 1 ∨ i = 2 ∨ i = 3 := by simp at h2; omega
    rcases this with rfl | rfl | rfl | rfl <;> simp [madeCells]
theorem New.far {B B' : Nat} {w w' : World} {S : Nat → Prop} {g : Nat} {z : Int} (h : New B w g z) (hB : B' ≤ B) (hw : Only w w' S) (hS : ∀ k, S k → k < B) : New B' w' g z := by
  obtain ⟨o, hi, hg, ho⟩ := h
  exact ⟨o, hi.only hw (fun e => by have := hS g e; omega) (fun b hb e => by have := hS b e; have := ho b hb; omega), by omega, fun b hb => by have := ho b hb; omega⟩
def numCells (neg : Bool) (A : Option Addr) (n c : Nat) (e : Int) : Array Value := #[.bool neg, .slice A n c, .int .i64 e]
set_option maxRecDepth 100000 in
set_option maxHeartbeats 4000000 in
theorem open1_bad (b : Nat) (neg : Bool) (A : Option Addr) (c : Nat) (ds : List Int) (e : Int) (w : World) (hb : w.heap[b]? = some (.cells (numCells neg A ds.length c e) 24 (0, 0))) (hr : ReadsInt w .i64 A ds.length ds) (hc : ds.length ≤ c) (hl : ds.length < 4611686018427387904) (hv : vB neg ds e = false) :
    Calls Tryz.prog 43 #[.slice (some ⟨b, 0, none⟩) 1 1] w fun en w' => en = gaveUp 7 ∧ Only w w' (fun _ => False) := by
  have hmk : ∀ w, (Instr.makeSlice 49 (.int .i64 1) (.int .i64 1)).run Tryz.prog w = .ok (.slice (some ⟨w.heap.size, 0, none⟩) 1 1) (w.alloc (.cells (madeCells (Value.agg #[.pointer none, .int .i64 0]).cells 2) 41)) := fun w => make_nums 1 w (by omega)
  have c0 : w.cell? ⟨b, 0, none⟩ = some (.bool neg) := blk_cell hb 0
  have c1 : w.cell? ⟨b, 1, none⟩ = some (.slice A ds.length c) := blk_cell hb 1
  have c2 : w.cell? ⟨b, 2, none⟩ = some (.int .i64 e) := blk_cell hb 2
  have hlt : b < w.heap.size := blk_lt hb
  go_enter Tryz.func43, Tryz.ntmps43
  go_wp2_with fail
  refine wp_loop_rounds 1 ?_
  rw [rounds_succ]
  go_wp2_with fail
  refine (valid_calls neg A c ds e _ (reads_only hr (((Only.refl w (fun _ => False)).alloc _).alloc _) (fun _ _ h => h)) hc hl).mono ?_
  rw [hv]
  rintro en w1 ⟨rfl, ho⟩
  go_wp2_with fail
  exact ⟨rfl, rfl, (((Only.refl w (fun _ => False)).alloc _).alloc _).trans ho⟩
def sval (neg : Bool) (ds : List Int) : Int := if neg then -val ds else val ds
theorem vB_digs {neg : Bool} {ds : List Int} {e : Int} (h : vB neg ds e = true) : Digs ds ∧ ds.length ≤ 2000 ∧ -1048576 ≤ e ∧ e ≤ 1048576 := by
  by_cases h0 : ds.length = 0
  · obtain ⟨_, rfl⟩ := vB_none h h0
    have : ds = [] := List.length_eq_zero_iff.1 h0
    subst this
    exact ⟨fun d hd => by simp at hd, by simp, by omega, by omega⟩
  · obtain ⟨h1, h2, _, h3, h4⟩ := vB_some h h0
    exact ⟨h1.1, h2, h3, h4⟩
set_option maxRecDepth 100000 in
set_option maxHeartbeats 4000000 in
theorem open1_ok (b : Nat) (neg : Bool) (A : Option Addr) (c : Nat) (ds : List Int) (e : Int) (w : World) (hb : w.heap[b]? = some (.cells (numCells neg A ds.length c e) 24 (0, 0))) (hr : ReadsInt w .i64 A ds.length ds) (hc : ds.length ≤ c) (hv : vB neg ds e = true) :
    Calls Tryz.prog 43 #[.slice (some ⟨b, 0, none⟩) 1 1] w fun en w' => en = .returned (.slice (some ⟨w.heap.size, 0, none⟩) 1 1) ∧ Only w w' (fun _ => False) ∧ ∃ g, w'.heap[w.heap.size]? = some (.cells #[.pointer (some ⟨g, 0, none⟩), .int .i64 e] 41 (0, 0)) ∧ New w.heap.size w' g (sval neg ds) := by
  obtain ⟨hdg, hlen, _, _⟩ := vB_digs hv
  have hmk : ∀ w, (Instr.makeSlice 49 (.int .i64 1) (.int .i64 1)).run Tryz.prog w = .ok (.slice (some ⟨w.heap.size, 0, none⟩) 1 1) (w.alloc (.cells (madeCells (Value.agg #[.pointer none, .int .i64 0]).cells 2) 41)) := fun w => make_nums 1 w (by omega)
  have c0 : w.cell? ⟨b, 0, none⟩ = some (.bool neg) := blk_cell hb 0
  have c1 : w.cell? ⟨b, 1, none⟩ = some (.slice A ds.length c) := blk_cell hb 1
  have c2 : w.cell? ⟨b, 2, none⟩ = some (.int .i64 e) := blk_cell hb 2
  have hlt : b < w.heap.size := blk_lt hb
  have HV := Lib.hid hv
  go_enter Tryz.func43, Tryz.ntmps43
  go_wp2_with fail
  refine wp_loop_rounds 2 ?_
  rw [rounds_succ]
  go_wp2_with fail
  obtain ⟨w1, hw1⟩ : ∃ w1 : World, w1 = (w.alloc (.cells (madeCells #[.pointer none, .int .i64 0] 2) 41)).alloc (.cells (numCells neg A ds.length c e) 24) := ⟨_, rfl⟩
  have ho1 : Only w w1 (fun _ => False) := by rw [hw1]; exact ((Only.refl w _).alloc _).alloc _
  have hO : w1.heap[w.heap.size]? = some (.cells (madeCells #[.pointer none, .int .i64 0] 2) 41 (0, 0)) := by rw [hw1]; exact heap_two' w _ _
  have hX : w1.heap[w.heap.size + 1]? = some (.cells (numCells neg A ds.length c e) 24 (0, 0)) := by rw [hw1]; exact heap_two w _ _
  have hsz1 : w.heap.size + 2 = w1.heap.size := by rw [hw1]; simp
  have HS := Lib.hid hsz1
  clear hsz1
  change Calls _ _ _ ((w.alloc (.cells (madeCells #[.pointer none, .int .i64 0] 2) 41)).alloc (.cells (numCells neg A ds.length c e) 24)) _
  rw [← hw1]
  clear hw1 c0 c1 c2
  refine (valid_calls neg A c ds e w1 (reads_only hr ho1 (fun _ _ h => h)) hc (by omega)).mono ?_
  rw [HV.out]
  rintro en w2 ⟨rfl, ho2⟩
  have hO2 := (ho2.kept _ (blk_lt hO) (fun h => h)).trans hO
  have hX2 := (ho2.kept _ (blk_lt hX) (fun h => h)).trans hX
  have x0 : w2.cell? ⟨w.heap.size + 1, 0, none⟩ = some (.bool neg) := blk_cell hX2 0
  have x1 : w2.cell? ⟨w.heap.size + 1, 1, none⟩ = some (.slice A ds.length c) := blk_cell hX2 1
  have x2 : w2.cell? ⟨w.heap.size + 1, 2, none⟩ = some (.int .i64 e) := blk_cell hX2 2
  have hr2 := reads_only hr (ho1.trans ho2) (fun _ _ h => h)
  have K : ∀ w3, Only w2.drew w3 (fun _ => False) → w3.cell? ⟨w.heap.size + 1, 0, none⟩ = some (.bool neg) ∧ w3.cell? ⟨w.heap.size + 1, 1, none⟩ = some (.slice A ds.length c) ∧ w3.cell? ⟨w.heap.size + 1, 2, none⟩ = some (.int .i64 e) ∧ w3.cell? ⟨w.heap.size, 0, none⟩ = some (.pointer none) ∧ w3.cell? ⟨w.heap.size, 1, none⟩ = some (.int .i64 0) ∧ w3.frozen? ⟨w.heap.size, 0, none⟩ = false ∧ w3.frozen? ⟨w.heap.size, 1, none⟩ = false ∧ w3.heap[w.heap.size]? = some (.cells #[.pointer none, .int .i64 0] 41 (0, 0)) := fun w3 h => by
    have h1 := (h.kept _ (blk_lt hO2) (fun h => h)).trans hO2
    rw [made2] at h1
    have h2 := (h.kept _ (blk_lt hX2) (fun h => h)).trans hX2
    exact ⟨blk_cell h2 0, blk_cell h2 1, blk_cell h2 2, blk_cell h1 0, blk_cell h1 1, blk_frozen h1 0, blk_frozen h1 1, h1⟩
  have HK := Lib.hid K
  have hW := whole_calls neg A c ds w2.drew (reads_only hr2 (Only.refl _ (fun _ => False)).drew (fun _ _ h => h)) hdg (by omega)
  have HW := Lib.hid hW
  have hsz : w.heap.size < w2.heap.size := blk_lt hO2
  clear K hW
  go_wp2_with fail
  go_region_held3 (fun w' => w'.cell? ⟨w.heap.size + 1, 0, none⟩ = some (.bool neg) ∧ w'.cell? ⟨w.heap.size + 1, 1, none⟩ = some (.slice A ds.length c) ∧ w'.cell? ⟨w.heap.size + 1, 2, none⟩ = some (.int .i64 e)) (first | go_keep | (refine ⟨?_, ?_, ?_⟩ <;> assumption))
    (first | (go_at_call 41; refine HW.out.mono ?_; rintro en w3 ⟨g, rfl, hg, ho3⟩; obtain ⟨y0, y1, y2, o0, o1, f0, f1, hO3⟩ := HK.out _ ho3))
  all_goals
    go_wp2_with fail
    rw [rounds_succ]
    go_wp2_with fail
    go_ret
    have hO4 := blk_set (blk_set hO3 0 (.pointer (some ⟨g, 0, none⟩))) 1 (.int .i64 e)
    refine ⟨rfl, (((ho1.trans ho2).drew.trans ho3).set (.inl (Nat.le_refl _)) _).set (.inl (Nat.le_refl _)) _, g, ?_, ?_⟩
    · simpa using hO4
    · refine hg.far (Nat.le_of_lt hsz) (S := fun k => k = w.heap.size) (((Only.refl w3 (fun k => k = w.heap.size)).set (.inr rfl) _).set (.inr rfl) _) ?_
      rintro k rfl
      exact hsz
end Go.Proofs.YtgbpglojbgicjaaGreatFmt
namespace Go.Proofs.YtgbpglojbgicjaaGreatFmt
open Go.RowKit Go.Proofs.YtgbpglojbgicjaaGreatFmtW.PrintWords
set_option maxRecDepth 100000 in
set_option maxHeartbeats 2000000 in
theorem caught_idle (p : Addr) (w : World) :
    CallsD Tryz.prog 39 #[.pointer (some p)] .returning w fun e u' w' => e = .returned (.tuple #[]) ∧ u' = .returning ∧ w' = w := by
  refine callsD_of_wpS Tryz.func39 rfl fun c₀ cs hu => ?_
  apply wpS_seq
  apply wpS_region
  simp [wpOpsS, go_sem, recoverD, hu, Tryz.ntmps39, Exit.thenS]
  apply wpS_seq
  apply wpS_seq
  apply wpS_region
  simp [wpOpsS, go_sem, Exit.thenS]
  refine wpS_cond (t := true) (by simp [Act.eval, Array.replicate]) ?_
  simp only [if_true]
  refine wpS_of_wp (wp_ret ?_)
  cases c₀
  simp_all [bodyPostS, results, Tryz.results39, Exit.thenS]
set_option maxRecDepth 100000 in
set_option maxHeartbeats 2000000 in
theorem caught_some (E : Nat) (n x : Int) (older : List PanicEntry) (w : World) (hc : w.cell? ⟨E, 0, none⟩ = some (.int .i64 x)) (hz : w.frozen? ⟨E, 0, none⟩ = false) :
    CallsD Tryz.prog 39 #[.pointer (some ⟨E, 0, none⟩)] (.panicking ({ v := .iface 74 (.agg #[.int .i64 n]), recovered := false } :: older)) w fun e u' w' =>
      e = .returned (.tuple #[]) ∧ u' = .panicking ({ v := .iface 74 (.agg #[.int .i64 n]), recovered := true } :: older) ∧ w' = (w.alloc (.cells #[.int .i64 n] 74)).setCell ⟨E, 0, none⟩ (.int .i64 n) := by
  have hlt : E < w.heap.size := World.block_lt_of_cell? w _ hc
  have hne : ¬ E = w.heap.size := by omega
  refine callsD_of_wpS Tryz.func39 rfl fun c₀ cs hu => ?_
  apply wpS_seq
  apply wpS_region
  simp [wpOpsS, go_sem, recoverD, hu, Tryz.ntmps39, Exit.thenS]
  apply wpS_seq
  apply wpS_seq
  apply wpS_region
  simp [wpOpsS, go_sem, Exit.thenS]
  refine wpS_cond (t := false) (by simp [Act.eval, Array.replicate]) ?_
  simp only [Bool.false_eq_true, if_false]
  refine wpS_of_wp (wp_skip ?_)
  simp only [Exit.thenS]
  refine wpS_of_wp (Code.wp_mono (Q := fun e a w' => e = .normal ∧ a.defers = [] ∧ w' = (w.alloc (.cells #[.int .i64 n] 74)).setCell ⟨E, 0, none⟩ (.int .i64 n)) ?_ ?_)
  · rintro e a w' ⟨rfl, hd, rfl⟩
    cases c₀
    simp_all [bodyPostS, results, Tryz.results39]
  · clear hu
    have hta : ∀ w, (Instr.typeAssert (.iface 74 (.agg #[.int .i64 n])) 20 74 true).run Tryz.prog w = .ok (.tuple #[.agg #[.int .i64 n], .bool true]) w := fun w => by kernel_rfl
    have et : (#[Value.pointer (some ⟨E, 0, none⟩)] ++ ((((Array.replicate 19 undef).setIfInBounds 4 (Value.iface 74 (.agg #[.int .i64 n]))).setIfInBounds 1 (.iface 74 (.agg #[.int .i64 n]))).setIfInBounds 5 (.iface 74 (.agg #[.int .i64 n]))).setIfInBounds 6 (.bool false)) = #[.pointer (some ⟨E, 0, none⟩), undef, .iface 74 (.agg #[.int .i64 n]), undef, undef, .iface 74 (.agg #[.int .i64 n]), .iface 74 (.agg #[.int .i64 n]), .bool false, undef, undef, undef, undef, undef, undef, undef, undef, undef, undef, undef, undef] := by rfl
    rw [et]
    clear et
    go_wp2_with fail
end Go.Proofs.YtgbpglojbgicjaaGreatFmt
namespace Go.Proofs.YtgbpglojbgicjaaGreatFmt
open Go.RowKit Go.Proofs.YtgbpglojbgicjaaGreatFmtW.PrintWords
theorem results_num {fn : Func} {p q : Tmp} (h : fn.results = #[.cell p 24, .cell q 25]) (tmps : Array Value) (w : World) (Y E : Nat) (a b c : Value) (n : Int)
    (hp : tmps.getD p undef = .pointer (some ⟨Y, 0, none⟩)) (hg : w.heap[Y]? = some (.cells #[a, b, c] 24 (0, 0))) (hq : tmps.getD q undef = .pointer (some ⟨E, 0, none⟩)) (hv : w.cell? ⟨E, 0, none⟩ = some (.int .i64 n)) :
    (results fn tmps).run Tryz.prog w = .ok (.tuple #[.agg #[a, b, c], .int .i64 n]) w := by
  have hp' : tmps[p]?.getD undef = .pointer (some ⟨Y, 0, none⟩) := by simpa using hp
  have hq' : tmps[q]?.getD undef = .pointer (some ⟨E, 0, none⟩) := by simpa using hq
  have h0 : w.cell? ⟨Y, 0, none⟩ = some a := blk_cell hg 0
  have h1 : w.cell? ⟨Y, 1, none⟩ = some b := blk_cell hg 1
  have h2 : w.cell? ⟨Y, 2, none⟩ = some c := blk_cell hg 2
  simp [results, h, hp', hq', asAddr, go_sem, h0, h1, h2, hv]
theorem heap_three (w : World) (a b c : Obj) : (((w.alloc a).alloc b).alloc c).heap[w.heap.size]? = some a ∧ (((w.alloc a).alloc b).alloc c).heap[w.heap.size + 1]? = some b ∧ (((w.alloc a).alloc b).alloc c).heap[w.heap.size + 2]? = some c := by
  have h := heap_two (w.alloc a) b c
  have h' := heap_two' (w.alloc a) b c
  have e : (w.alloc a).heap.size = w.heap.size + 1 := by simp
  rw [e] at h h'
  refine ⟨?_, h', h⟩
  exact (Below.heap_alloc _ c w.heap.size (by simp; omega)).trans (heap_two' w a b)
def errNum (n : Int) : Ending := .returned (.tuple #[.agg #[.bool false, .slice none 0 0, .int .i64 0], .int .i64 n])
def Ans (w : World) (z e : Int) (en : Ending) (w' : World) : Prop := Only w w' (fun _ => False) ∧
  ((z = 0 ∧ en = errNum 0) ∨
    (z ≠ 0 ∧ ∃ (t k : Nat) (q : Int), ((Int.natAbs z : Nat) : Int) = q * 2 ^ t ∧ q % 2 = 1 ∧ 0 < q ∧ BLen q k ∧
      (((60000 < k ∨ e + t < -1048576 ∨ 1048576 < e + t) ∧ en = errNum 2) ∨
        (k ≤ 60000 ∧ -1048576 ≤ e + t ∧ e + t ≤ 1048576 ∧ ∃ v ds, en = .returned (.tuple #[.agg #[.bool (decide (z < 0)), v, .int .i64 (e + t)], .int .i64 0]) ∧ w'.ownsRow w.heap.size 3 1 v ds.length (nums .i64 ds) ∧ val ds = q ∧ Nm ds))))
theorem door_panic {fn : Func} {p q : Tmp} (h : fn.results = #[.cell p 24, .cell q 25]) (tmps : Array Value) (w : World) (Y E : Nat) (n : Int) (R : Ending → World → Prop)
    (hp : tmps.getD p undef = .pointer (some ⟨Y, 0, none⟩)) (hq : tmps.getD q undef = .pointer (some ⟨E, 0, none⟩)) (hY : w.heap[Y]? = some (.cells #[.bool false, .slice none 0 0, .int .i64 0] 24 (0, 0))) (hE : w.heap[E]? = some (.cells #[.int .i64 0] 25 (0, 0)))
    (hR : ∀ w', Only w w' (fun k => k = E) → R (errNum n) w') :
    Leaves Tryz.prog fn tmps R [{ target := .fn (.func 39) #[], args := #[.pointer (some ⟨E, 0, none⟩)] }] (.panicking [{ v := .iface 74 (.agg #[.int .i64 n]), recovered := false }]) w := by
  have hne : Y ≠ E := blk_ne hY hE (by decide)
  refine leaves_cons (f := 39) (args := #[.pointer (some ⟨E, 0, none⟩)]) (by simp) (by simp [go_sem]) ?_
  refine (caught_some E n 0 [] w (blk_cell hE 0) (blk_frozen hE 0)).mono ?_
  rintro e u' w' ⟨rfl, rfl, rfl⟩
  have hE1 := blk_set (blk_alloc hE (.cells #[.int .i64 n] 74)) 0 (.int .i64 n)
  have hY1 := blk_far (blk_alloc hY (.cells #[.int .i64 n] 74)) (p := ⟨E, 0, none⟩) hne (.int .i64 n)
  refine ⟨_, results_num h tmps _ Y E _ _ _ n hp hY1 hq (by simpa using blk_cell hE1 0), hR _ ?_⟩
  exact ((Only.refl w (fun k => k = E)).alloc _).set (.inr rfl) _
theorem door_ok {fn : Func} {p q : Tmp} (h : fn.results = #[.cell p 24, .cell q 25]) (tmps : Array Value) (w : World) (Y E : Nat) (a b c : Value) (n : Int) (R : Ending → World → Prop)
    (hp : tmps.getD p undef = .pointer (some ⟨Y, 0, none⟩)) (hq : tmps.getD q undef = .pointer (some ⟨E, 0, none⟩)) (hY : w.heap[Y]? = some (.cells #[a, b, c] 24 (0, 0))) (hE : w.cell? ⟨E, 0, none⟩ = some (.int .i64 n))
    (hR : R (.returned (.tuple #[.agg #[a, b, c], .int .i64 n])) w) :
    Leaves Tryz.prog fn tmps R [{ target := .fn (.func 39) #[], args := #[.pointer (some ⟨E, 0, none⟩)] }] .returning w := by
  refine leaves_cons (f := 39) (args := #[.pointer (some ⟨E, 0, none⟩)]) (by simp) (by simp [go_sem]) ?_
  refine (caught_idle ⟨E, 0, none⟩ w).mono ?_
  rintro e u' w' ⟨rfl, rfl, rfl⟩
  exact ⟨_, results_num h tmps _ Y E _ _ _ n hp hY hq hE, hR⟩
theorem heap_four (w : World) (a b c d : Obj) : ((((w.alloc a).alloc b).alloc c).alloc d).heap[w.heap.size]? = some a ∧ ((((w.alloc a).alloc b).alloc c).alloc d).heap[w.heap.size + 1]? = some b ∧ ((((w.alloc a).alloc b).alloc c).alloc d).heap[w.heap.size + 1 + 1]? = some c ∧ ((((w.alloc a).alloc b).alloc c).alloc d).heap[w.heap.size + 1 + 1 + 1]? = some d := by
  obtain ⟨h1, h2, h3⟩ := heap_three w a b c
  have e : (((w.alloc a).alloc b).alloc c).heap.size = w.heap.size + 1 + 1 + 1 := by simp
  have g : ∀ i, i < w.heap.size + 1 + 1 + 1 → ((((w.alloc a).alloc b).alloc c).alloc d).heap[i]? = (((w.alloc a).alloc b).alloc c).heap[i]? := fun i hi => Below.heap_alloc _ d i (by rw [e]; exact hi)
  refine ⟨(g _ (by omega)).trans h1, (g _ (by omega)).trans h2, (g _ (by omega)).trans h3, ?_⟩
  rw [← e]; exact heap_alloc_new _ _
end Go.Proofs.YtgbpglojbgicjaaGreatFmt
namespace Go.Proofs.YtgbpglojbgicjaaGreatFmt
open Go.RowKit Go.Proofs.YtgbpglojbgicjaaGreatFmtW.PrintWords
def ToldA (w : World) (z e : Int) (en : Ending) (w' : World) : Prop := Only w w' (fun _ => False) ∧
  ((z = 0 ∧ en = .returned (.agg #[.bool false, .slice none 0 0, .int .i64 0])) ∨
    (z ≠ 0 ∧ ∃ (t k : Nat) (q : Int), ((Int.natAbs z : Nat) : Int) = q * 2 ^ t ∧ q % 2 = 1 ∧ 0 < q ∧ BLen q k ∧
      (((60000 < k ∨ e + t < -1048576 ∨ 1048576 < e + t) ∧ en = gaveUp 2) ∨
        (k ≤ 60000 ∧ -1048576 ≤ e + t ∧ e + t ≤ 1048576 ∧ ∃ A ds c, en = .returned (.agg #[.bool (decide (z < 0)), .slice A ds.length c, .int .i64 (e + t)]) ∧ w'.ownsRow w.heap.size 3 1 (.slice A ds.length c) ds.length (nums .i64 ds) ∧ val ds = q ∧ Nm ds))))
theorem told_any (g : Nat) (o : Option Nat) (z e : Int) (w : World) (hi : IsInt w g o z) (hf : Fits (Int.natAbs z)) (hT : Tab w) (he : -2305843009213693952 ≤ e) (he2 : e ≤ 2305843009213693952) :
    Calls Tryz.prog 11 #[.agg #[.pointer (some ⟨g, 0, none⟩), .int .i64 e]] w (ToldA w z e) := by
  by_cases hz : z = 0
  · subst hz
    refine (told_zero g o e w hi).mono ?_
    rintro en w' ⟨rfl, h⟩
    exact ⟨h, .inl ⟨rfl, rfl⟩⟩
  · refine (told_some g o z e w hi hz hf hT he he2).mono ?_
    rintro en w' ⟨t, k, q, h1, h2, h3, h4, h5, h6⟩
    refine ⟨h5, .inr ⟨hz, t, k, q, h1, h2, h3, h4, ?_⟩⟩
    rcases h6 with h6 | ⟨a, b, c, v, ds, d, e, f⟩
    · exact .inl h6
    · obtain ⟨A, cp, rfl⟩ := own_slice e
      exact .inr ⟨a, b, c, A, ds, cp, d, e, f⟩
theorem Ans.zero {w w1 w' : World} {e : Int} (h1 : Only w w1 (fun _ => False)) (h2 : Only w1 w' (fun k => w.heap.size ≤ k)) : Ans w 0 e (errNum 0) w' :=
  ⟨h1.step h2 (fun i hi h => by omega), .inl ⟨rfl, rfl⟩⟩
theorem Ans.long {w w1 w' : World} {z e : Int} {t k : Nat} {q : Int} (hz : z ≠ 0) (a : ((Int.natAbs z : Nat) : Int) = q * 2 ^ t) (b : q % 2 = 1) (c : 0 < q) (d : BLen q k) (f : 60000 < k ∨ e + t < -1048576 ∨ 1048576 < e + t) (h1 : Only w w1 (fun _ => False)) (h2 : Only w1 w' (fun k => w.heap.size ≤ k)) : Ans w z e (errNum 2) w' :=
  ⟨h1.step h2 (fun i hi h => by omega), .inr ⟨hz, t, k, q, a, b, c, d, .inl ⟨f, rfl⟩⟩⟩
theorem Ans.some_ {w w1 w' : World} {z e : Int} {t k : Nat} {q : Int} {A : Option Addr} {ds : List Int} {cp B : Nat} (hz : z ≠ 0) (a : ((Int.natAbs z : Nat) : Int) = q * 2 ^ t) (b : q % 2 = 1) (c : 0 < q) (d : BLen q k) (f1 : k ≤ 60000) (f2 : -1048576 ≤ e + t) (f3 : e + t ≤ 1048576) (h1 : Only w w1 (fun _ => False)) (h2 : Only w1 w' (fun k => w.heap.size ≤ k)) (hown : w'.ownsRow B 3 1 (.slice A ds.length cp) ds.length (nums .i64 ds)) (hB : w.heap.size ≤ B) (hv : val ds = q) (hn : Nm ds) :
    Ans w z e (.returned (.tuple #[.agg #[.bool (decide (z < 0)), .slice A ds.length cp, .int .i64 (e + t)], .int .i64 0])) w' :=
  ⟨h1.step h2 (fun i hi h => by omega), .inr ⟨hz, t, k, q, a, b, c, d, .inr ⟨f1, f2, f3, _, ds, rfl, own_weaken hown hB, hv, hn⟩⟩⟩
theorem stored {w : World} {Y E : Nat} {x y z u : Value} (hY : w.heap[Y]? = some (.cells #[x, y, z] 24 (0, 0))) (hE : w.heap[E]? = some (.cells #[u] 25 (0, 0))) (a b c d : Value) :
    ((((w.setCell ⟨Y, 0, none⟩ a).setCell ⟨Y, 1, none⟩ b).setCell ⟨Y, 2, none⟩ c).setCell ⟨E, 0, none⟩ d).heap[Y]? = some (.cells #[a, b, c] 24 (0, 0)) ∧ ((((w.setCell ⟨Y, 0, none⟩ a).setCell ⟨Y, 1, none⟩ b).setCell ⟨Y, 2, none⟩ c).setCell ⟨E, 0, none⟩ d).cell? ⟨E, 0, none⟩ = some d ∧
      Only w ((((w.setCell ⟨Y, 0, none⟩ a).setCell ⟨Y, 1, none⟩ b).setCell ⟨Y, 2, none⟩ c).setCell ⟨E, 0, none⟩ d) (fun k => k = Y ∨ k = E) := by
  have hne : Y ≠ E := blk_ne hY hE (by decide)
  have h1 := blk_set (blk_set (blk_set hY 0 a) 1 b) 2 c
  have h2 := blk_far (blk_far (blk_far hE (p := ⟨Y, 0, none⟩) (Ne.symm hne) a) (p := ⟨Y, 1, none⟩) (Ne.symm hne) b) (p := ⟨Y, 2, none⟩) (Ne.symm hne) c
  refine ⟨?_, ?_, ?_⟩
  · simpa using blk_far h1 (p := ⟨E, 0, none⟩) hne d
  · simpa using blk_cell (blk_set h2 0 d) 0
  · exact ((((Only.refl w _).set (.inr (.inl rfl)) _).set (.inr (.inl rfl)) _).set (.inr (.inl rfl)) _).set (.inr (.inr rfl)) _
theorem own_two {w w' : World} {Y E base n : Nat} {v : Value} {xs : List Value} {cy ce : Array Value} (h : w.ownsRow base 3 1 v n xs) (hY : w.heap[Y]? = some (.cells cy 24 (0, 0))) (hE : w.heap[E]? = some (.cells ce 25 (0, 0))) (ho : Only w w' (fun k => k = Y ∨ k = E)) : w'.ownsRow base 3 1 v n xs := by
  refine own_move h (fun b hb => ho.kept b (own_lt h b hb) ?_)
  obtain ⟨cells, hc⟩ := own_typed h b hb
  rintro (rfl | rfl)
  · exact blk_ne hY hc (by decide) rfl
  · exact blk_ne hE hc (by decide) rfl
theorem Tab.only {w w' : World} (h : Tab w) (ho : Only w w' (fun _ => False)) : Tab w' := h.of (ho.kept _ h.lt (fun h => h))
theorem sval_abs (neg : Bool) {ds : List Int} (h : Digs ds) : ((Int.natAbs (sval neg ds) : Nat) : Int) = val ds := by
  have := (val_range ds h).1
  unfold sval
  cases neg <;> simp <;> omega
end Go.Proofs.YtgbpglojbgicjaaGreatFmt
namespace Go.Proofs.YtgbpglojbgicjaaGreatFmt
open Go.RowKit Go.Proofs.YtgbpglojbgicjaaGreatFmtW.PrintWords Go.Proofs.YtgbpglojbgicjaaGreatFmtW.PrintLast Go.Proofs.YtgbpglojbgicjaaGreatFmtW.PrintMore
abbrev clamp (k : Int) : Int := min (max k (-4194304)) 4194304
theorem results_sign {fn : Func} {p q : Tmp} (h : fn.results = #[.tmp p, .cell q 25]) (tmps : Array Value) (w : World) (E : Nat) (a : Value) (n : Int)
    (hp : tmps.getD p undef = a) (hq : tmps.getD q undef = .pointer (some ⟨E, 0, none⟩)) (hv : w.cell? ⟨E, 0, none⟩ = some (.int .i64 n)) :
    (results fn tmps).run Tryz.prog w = .ok (.tuple #[a, .int .i64 n]) w := by
  have hp' : tmps[p]?.getD undef = a := by simpa using hp
  have hq' : tmps[q]?.getD undef = .pointer (some ⟨E, 0, none⟩) := by simpa using hq
  simp [results, h, hp', hq', asAddr, go_sem, hv]
theorem sign_panic {fn : Func} {p q : Tmp} (h : fn.results = #[.tmp p, .cell q 25]) (tmps : Array Value) (w : World) (E : Nat) (a : Value) (n : Int) (R : Ending → World → Prop)
    (hp : tmps.getD p undef = a) (hq : tmps.getD q undef = .pointer (some ⟨E, 0, none⟩)) (hE : w.heap[E]? = some (.cells #[.int .i64 0] 25 (0, 0)))
    (hR : ∀ w', Only w w' (fun k => k = E) → R (.returned (.tuple #[a, .int .i64 n])) w') :
    Leaves Tryz.prog fn tmps R [{ target := .fn (.func 39) #[], args := #[.pointer (some ⟨E, 0, none⟩)] }] (.panicking [{ v := .iface 74 (.agg #[.int .i64 n]), recovered := false }]) w := by
  refine leaves_cons (f := 39) (args := #[.pointer (some ⟨E, 0, none⟩)]) (by simp) (by simp [go_sem]) ?_
  refine (caught_some E n 0 [] w (blk_cell hE 0) (blk_frozen hE 0)).mono ?_
  rintro e u' w' ⟨rfl, rfl, rfl⟩
  have hE1 := blk_set (blk_alloc hE (.cells #[.int .i64 n] 74)) 0 (.int .i64 n)
  refine ⟨_, results_sign h tmps _ E _ n hp hq (by simpa using blk_cell hE1 0), hR _ ?_⟩
  exact ((Only.refl w (fun k => k = E)).alloc _).set (.inr rfl) _
theorem sign_door {fn : Func} {p q : Tmp} (h : fn.results = #[.tmp p, .cell q 25]) (tmps : Array Value) (w : World) (E : Nat) (a : Value) (n : Int) (R : Ending → World → Prop)
    (hp : tmps.getD p undef = a) (hq : tmps.getD q undef = .pointer (some ⟨E, 0, none⟩)) (hE : w.cell? ⟨E, 0, none⟩ = some (.int .i64 n))
    (hR : R (.returned (.tuple #[a, .int .i64 n])) w) :
    Leaves Tryz.prog fn tmps R [{ target := .fn (.func 39) #[], args := #[.pointer (some ⟨E, 0, none⟩)] }] .returning w := by
  refine leaves_cons (f := 39) (args := #[.pointer (some ⟨E, 0, none⟩)]) (by simp) (by simp [go_sem]) ?_
  refine (caught_idle ⟨E, 0, none⟩ w).mono ?_
  rintro e u' w' ⟨rfl, rfl, rfl⟩
  exact ⟨_, results_sign h tmps _ E _ n hp hq hE, hR⟩
end Go.Proofs.YtgbpglojbgicjaaGreatFmt
namespace Go.Proofs.YtgbpglojbgicjaaGreatFmt
open Go.RowKit Go.Proofs.YtgbpglojbgicjaaGreatFmtW.PrintWords
set_option maxRecDepth 100000 in
set_option maxHeartbeats 2000000 in
theorem newInt_neg (x : Int) (w : World) (h : x < 0) (h2 : -9223372036854775808 ≤ x) :
    Calls Tryz.prog 12 #[.int .i64 x] w fun e w' => ∃ g, e = .returned (.pointer (some ⟨g, 0, none⟩)) ∧ New w.heap.size w' g x ∧ Only w w' (fun _ => False) := by
  have h3 : (x == 0) = false := by rw [beq_eq_false_iff_ne]; omega
  have e1 : IntKind.u64.wrap (-(IntKind.u64.wrap x)) = -x := by rw [IntKind.wrap_u64, IntKind.wrap_u64]; omega
  go_enter Tryz.func12, Tryz.ntmps12
  go_wp2
  go_ret
  have hb : Blk (w.alloc (.cells (words [-x]) 78)) w.heap.size [-x] := Blk.new w [-x]
  have hg : ((w.alloc (.cells (words [-x]) 78)).alloc (.cells #[.bool true, .slice (some ⟨w.heap.size, 0, none⟩) 1 1] 70)).heap[w.heap.size + 1]? = some (.cells #[.bool true, .slice (some ⟨w.heap.size, 0, none⟩) 1 1] 70 (0, 0)) := heap_two w _ _
  have en : num (fun i => [-x].getD i 0) 1 = -x := by simp [num]
  refine ⟨_, rfl, ⟨some w.heap.size, ⟨.slice (some ⟨w.heap.size, 0, none⟩) 1 1, ?_, ?_⟩, Nat.le_succ _, fun c hc => by cases hc; exact Nat.le_refl _⟩, ((Only.refl _ _).alloc _).alloc _⟩
  · rw [decide_eq_true h]; exact hg
  · have ea : ((Int.natAbs x : Nat) : Int) = -x := by omega
    rw [ea]
    refine .own w.heap.size 1 [-x] (-x) (blk_alloc hb _) (by simp) (by simp [most]) ⟨fun i hi => ?_, fun _ => ?_⟩ en
    · obtain rfl : i = 0 := by omega
      show 0 ≤ -x ∧ -x < _
      omega
    · show -x ≠ 0
      omega
theorem newInt_all (x : Int) (w : World) (h : -9223372036854775808 ≤ x) (h2 : x < 9223372036854775808) :
    Calls Tryz.prog 12 #[.int .i64 x] w fun e w' => ∃ g, e = .returned (.pointer (some ⟨g, 0, none⟩)) ∧ New w.heap.size w' g x ∧ Only w w' (fun _ => False) := by
  by_cases h0 : x < 0
  · exact newInt_neg x w h0 h
  · exact newInt_any x w (by omega) h2
def IntAns (w : World) (n : Int) (en : Ending) (w' : World) : Prop := Only w w' (fun _ => False) ∧
  ((n = 0 ∧ en = .returned (.agg #[.bool false, .slice none 0 0, .int .i64 0])) ∨
    (n ≠ 0 ∧ ∃ (t : Nat) (q : Int), ((Int.natAbs n : Nat) : Int) = q * 2 ^ t ∧ q % 2 = 1 ∧ 0 < q ∧ t ≤ 64 ∧ ∃ A ds c, en = .returned (.agg #[.bool (decide (n < 0)), .slice A ds.length c, .int .i64 t]) ∧ w'.ownsRow w.heap.size 3 1 (.slice A ds.length c) ds.length (nums .i64 ds) ∧ val ds = q ∧ Nm ds))
theorem own_other_num {w w' : World} {Y base n : Nat} {v : Value} {xs : List Value} {cy : Array Value} (h : w.ownsRow base 3 1 v n xs) (hY : w.heap[Y]? = some (.cells cy 24 (0, 0))) (ho : Only w w' (fun k => k = Y)) : w'.ownsRow base 3 1 v n xs := by
  refine own_move h (fun b hb => ho.kept b (own_lt h b hb) ?_)
  obtain ⟨cells, hc⟩ := own_typed h b hb
  rintro rfl
  exact blk_ne hY hc (by decide) rfl
set_option maxRecDepth 100000 in
set_option maxHeartbeats 4000000 in
theorem int_calls (n : Int) (w : World) (h : -9223372036854775808 ≤ n) (h2 : n < 9223372036854775808) (hT : Tab w) :
    Calls Tryz.prog 15 #[.int .i64 n] w (IntAns w n) := by
  have ho1 := (Only.refl w (fun _ => False)).alloc (.cells #[.bool false, .slice none 0 0, .int .i64 0] 24)
  have hY : (w.alloc (.cells #[.bool false, .slice none 0 0, .int .i64 0] 24)).heap[w.heap.size]? = some (.cells #[.bool false, .slice none 0 0, .int .i64 0] 24 (0, 0)) := by simpa using heap_alloc_new w (.cells #[.bool false, .slice none 0 0, .int .i64 0] 24)
  have HN := Lib.hid (newInt_all n)
  have HH := Lib.hid (And.intro h h2)
  have hsz1 : w.heap.size < (w.alloc (.cells #[.bool false, .slice none 0 0, .int .i64 0] 24)).heap.size := by simp
  clear h h2
  go_enter Tryz.func15, Tryz.ntmps15
  go_wp2_with fail
  generalize w.alloc (.cells #[.bool false, .slice none 0 0, .int .i64 0] 24) = w1 at *
  refine (HN.out w1 HH.out.1 HH.out.2).mono ?_
  rintro en w2 ⟨g, rfl, ⟨o, hi, hgB, hoB⟩, ho2⟩
  have hY2 := (ho2.kept _ (blk_lt hY) (fun h => h)).trans hY
  go_wp2_with fail
  have hfit : Fits ((Int.natAbs n : Nat) : Int) := by
    have h1 := HH.out
    have e : (2 : Int) ^ 64 = 18446744073709551616 := by decide
    exact Fits.of (k := 64) (by rw [e]; omega) (by omega)
  refine (told_any g o n 0 w2 hi hfit (hT.only (ho1.trans ho2)) (by omega) (by omega)).mono ?_
  rintro en w7 ⟨ho7, hcase⟩
  have hY7 := (ho7.kept _ (blk_lt hY2) (fun h => h)).trans hY2
  have y0 : w7.cell? ⟨w.heap.size, 0, none⟩ = some (.bool false) := blk_cell hY7 0
  have y1 : w7.cell? ⟨w.heap.size, 1, none⟩ = some (.slice none 0 0) := blk_cell hY7 1
  have y2 : w7.cell? ⟨w.heap.size, 2, none⟩ = some (.int .i64 0) := blk_cell hY7 2
  have fy0 := blk_frozen hY7 0
  have fy1 := blk_frozen hY7 1
  have fy2 := blk_frozen hY7 2
  have HOW := Lib.hid ((ho1.trans ho2).trans ho7)
  have hst : ∀ a b c : Value, (((w7.setCell ⟨w.heap.size, 0, none⟩ a).setCell ⟨w.heap.size, 1, none⟩ b).setCell ⟨w.heap.size, 2, none⟩ c).heap[w.heap.size]? = some (.cells #[a, b, c] 24 (0, 0)) ∧ Only w7 (((w7.setCell ⟨w.heap.size, 0, none⟩ a).setCell ⟨w.heap.size, 1, none⟩ b).setCell ⟨w.heap.size, 2, none⟩ c) (fun k => k = w.heap.size) := fun a b c =>
    ⟨by simpa using blk_set (blk_set (blk_set hY7 0 a) 1 b) 2 c, (((Only.refl w7 (fun k => k = w.heap.size)).set (.inr rfl) _).set (.inr rfl) _).set (.inr rfl) _⟩
  have HST := Lib.hid hst
  clear hst
  rcases hcase with ⟨hz, rfl⟩ | ⟨hz, t, k, q, a1, a2, a3, a4, hb⟩
  · have HZ := Lib.hid hz
    clear hz
    go_wp2_with fail
    obtain ⟨s1, s3⟩ := HST.out (.bool false) (.slice none 0 0) (.int .i64 0)
    exact bodyPost_ret (results_cell_row rfl _ _ w.heap.size 24 #[.bool false, .slice none 0 0, .int .i64 0] (0, 0) _ rfl s1 Tryz.underlying24 rfl (by kernel_rfl)) rfl ⟨HOW.out.step s3 (by rintro i hi rfl; omega), .inl ⟨HZ.out, rfl⟩⟩
  · have hP : (0 : Int) < 2 ^ t := Int.pow_pos (by omega)
    have hH := HH.out
    have e64 : (2 : Int) ^ 64 = 18446744073709551616 := by decide
    have hqn : q ≤ ((Int.natAbs n : Nat) : Int) := by
      rw [a1]
      have := Int.mul_le_mul_of_nonneg_left (show (1 : Int) ≤ 2 ^ t by omega) (Int.le_of_lt a3)
      omega
    have htn : (2 : Int) ^ t ≤ ((Int.natAbs n : Nat) : Int) := by
      rw [a1]
      have := Int.mul_le_mul_of_nonneg_right (show (1 : Int) ≤ q by omega) (Int.le_of_lt hP)
      omega
    have ht : t < 64 := pow_lt (Int.lt_of_le_of_lt htn (by omega))
    have hk : k ≤ 64 := by
      rcases Nat.eq_zero_or_pos k with h | h
      · omega
      · have := pow_lt (Int.lt_of_le_of_lt (a4.2 h) (show q < 2 ^ 64 by omega))
        omega
    rcases hb with ⟨hbad, rfl⟩ | ⟨b1, b2, b3, A7, ds7, c7, rfl, hown, hval, hnm⟩
    · exact absurd hbad (by omega)
    · have HA := Lib.hid (And.intro hz (And.intro a1 (And.intro a2 (And.intro a3 (And.intro hown (And.intro hval hnm))))))
      clear hz a1 a2 a3 a4 hown hval hnm hP hqn htn hH e64
      go_wp2_with fail
      obtain ⟨s1, s3⟩ := HST.out (.bool (decide (n < 0))) (.slice A7 ds7.length c7) (.int .i64 (t : Int))
      obtain ⟨g1, g2, g3, g4, g6, g7, g8⟩ := HA.out
      refine bodyPost_ret (results_cell_row rfl _ _ w.heap.size 24 #[.bool (decide (n < 0)), .slice A7 ds7.length c7, .int .i64 (t : Int)] (0, 0) _ rfl s1 Tryz.underlying24 rfl (by kernel_rfl)) rfl ⟨HOW.out.step s3 (by rintro i hi rfl; omega), .inr ⟨g1, t, q, g2, g3, g4, by omega, A7, ds7, c7, rfl, own_weaken (own_other_num g6 hY7 s3) ?_, g7, g8⟩⟩
      have := (ho1.trans ho2).base.size
      exact this
theorem digits_calls (A : Option Addr) (c : Nat) (ds : List Int) (w : World) (hr : ReadsInt w .i64 A ds.length ds) (hc : ds.length ≤ c) (hl : ds.length < 4611686018427387904) :
    Calls Tryz.prog 40 #[.slice A ds.length c] w fun en w' => en = .returned (.bool (ds.all digB && decide (ds.length ≤ 2000))) ∧ Only w w' (fun _ => False) := by
  have hd := digits_l0 ds hl (ds.length + 1) 0 (Nat.zero_le _) (by omega)
  exact (F.exact_digits.calls (ds.length + 1) A c ds _ w (kd_ints hr) hc hd).mono fun _ _ ⟨h1, h2⟩ => ⟨h1, Only.of_drawn h2⟩
set_option maxRecDepth 100000 in
set_option maxHeartbeats 4000000 in
theorem make_bad (neg : Bool) (A : Option Addr) (c : Nat) (ds : List Int) (e : Int) (w : World) (hr : ReadsInt w .i64 A ds.length ds) (hc : ds.length ≤ c) (hl : ds.length < 4611686018427387904) (hv : (ds.all digB && decide (ds.length ≤ 2000)) = false) :
    Calls Tryz.prog 13 #[.bool neg, .slice A ds.length c, .int .i64 e] w fun en w' => en = errNum 7 ∧ Only w w' (fun _ => False) := by
  have HO := Lib.hid (fun a b : Obj => ((Only.refl w (fun _ => False)).alloc a).alloc b)
  have HD := Lib.hid (fun w1 (ho : Only w w1 (fun _ => False)) => digits_calls A c ds w1 (reads_only hr ho (fun _ _ h => h)) hc hl)
  have HV := Lib.hid hv
  clear hv
  go_enter_defers Tryz.func13, Tryz.ntmps13
  go_wp2_with fail
  have h1 := heap_two' w (.cells #[.bool false, .slice none 0 0, .int .i64 0] 24) (.cells #[.int .i64 0] 25)
  have h2 := heap_two w (.cells #[.bool false, .slice none 0 0, .int .i64 0] 24) (.cells #[.int .i64 0] 25)
  refine (HD.out _ (HO.out _ _)).mono ?_
  rw [HV.out]
  rintro en w1 ⟨rfl, ho⟩
  go_wp2_with fail
  refine door_panic rfl _ w1 w.heap.size (w.heap.size + 1) 7 _ rfl rfl ((ho.kept _ (blk_lt h1) (fun h => h)).trans h1) ((ho.kept _ (blk_lt h2) (fun h => h)).trans h2) (fun w' hw' => ⟨rfl, ?_⟩)
  exact ((HO.out _ _).trans ho).step hw' (by rintro i hi rfl; omega)
set_option maxRecDepth 100000 in
set_option maxHeartbeats 4000000 in
theorem make_ok (neg : Bool) (A : Option Addr) (c : Nat) (ds : List Int) (e : Int) (w : World) (hr : ReadsInt w .i64 A ds.length ds) (hc : ds.length ≤ c) (hT : Tab w) (hdg : Digs ds) (hlen : ds.length ≤ 2000) :
    Calls Tryz.prog 13 #[.bool neg, .slice A ds.length c, .int .i64 e] w (Ans w (sval neg ds) (min (max e (-4194304)) 4194304)) := by
  have HO := Lib.hid (fun a b : Obj => ((Only.refl w (fun _ => False)).alloc a).alloc b)
  have HD := Lib.hid (fun w1 (ho : Only w w1 (fun _ => False)) => digits_calls A c ds w1 (reads_only hr ho (fun _ _ h => h)) hc (by omega))
  have HW := Lib.hid (fun w1 (ho : Only w w1 (fun _ => False)) => whole_calls neg A c ds w1 (reads_only hr ho (fun _ _ h => h)) hdg (by omega))
  have HV := Lib.hid (show (ds.all digB && decide (ds.length ≤ 2000)) = true by rw [all_digs.2 hdg, decide_eq_true hlen]; rfl)
  go_enter_defers Tryz.func13, Tryz.ntmps13
  go_wp2_with fail
  have h1 := heap_two' w (.cells #[.bool false, .slice none 0 0, .int .i64 0] 24) (.cells #[.int .i64 0] 25)
  have h2 := heap_two w (.cells #[.bool false, .slice none 0 0, .int .i64 0] 24) (.cells #[.int .i64 0] 25)
  have ho2 := HO.out (.cells #[.bool false, .slice none 0 0, .int .i64 0] 24) (.cells #[.int .i64 0] 25)
  generalize (w.alloc (.cells #[.bool false, .slice none 0 0, .int .i64 0] 24)).alloc (.cells #[.int .i64 0] 25) = w2 at *
  refine (HD.out _ ho2).mono ?_
  rw [HV.out]
  rintro en w3 ⟨rfl, ho3⟩
  go_wp2_with fail
  refine (HW.out _ (ho2.trans ho3)).mono ?_
  rintro en w4 ⟨g, rfl, ⟨o, hi, hgB, hoB⟩, ho4⟩
  have ho24 := ho3.trans ho4
  have hY6 := (ho24.kept _ (blk_lt h1) (fun h => h)).trans h1
  have hE6 := (ho24.kept _ (blk_lt h2) (fun h => h)).trans h2
  have hX : -2305843009213693952 ≤ min (max e (-4194304)) 4194304 ∧ min (max e (-4194304)) 4194304 ≤ 2305843009213693952 := by omega
  have hfit : Fits ((Int.natAbs (sval neg ds) : Nat) : Int) := by rw [sval_abs neg hdg]; exact fits_val hdg (by omega)
  go_wp2_with fail
  have e1 : sval neg ds = if neg = true then -val ds else val ds := rfl
  rw [← e1] at hi
  generalize min (max e (-4194304)) 4194304 = X at *
  generalize sval neg ds = Z at *
  clear e1
  refine (told_any g o Z X w4 hi hfit (hT.only (ho2.trans ho24)) hX.1 hX.2).mono ?_
  rintro en w7 ⟨ho7, hcase⟩
  have hY7 := (ho7.kept _ (blk_lt hY6) (fun h => h)).trans hY6
  have hE7 := (ho7.kept _ (blk_lt hE6) (fun h => h)).trans hE6
  have y0 : w7.cell? ⟨w.heap.size, 0, none⟩ = some (.bool false) := blk_cell hY7 0
  have y1 : w7.cell? ⟨w.heap.size, 1, none⟩ = some (.slice none 0 0) := blk_cell hY7 1
  have y2 : w7.cell? ⟨w.heap.size, 2, none⟩ = some (.int .i64 0) := blk_cell hY7 2
  have e0 : w7.cell? ⟨w.heap.size + 1, 0, none⟩ = some (.int .i64 0) := blk_cell hE7 0
  have fy0 := blk_frozen hY7 0
  have fy1 := blk_frozen hY7 1
  have fy2 := blk_frozen hY7 2
  have fe0 := blk_frozen hE7 0
  have HST := Lib.hid (stored hY7 hE7)
  have HOW := Lib.hid ((ho2.trans ho24).trans ho7)
  rcases hcase with ⟨hz, rfl⟩ | ⟨hz, t, k, q, a1, a2, a3, a4, ⟨hbad, rfl⟩ | ⟨b1, b2, b3, A7, ds7, c7, rfl, hown, hval, hnm⟩⟩
  · have HZ := Lib.hid hz
    clear hz
    go_wp2_with fail
    obtain ⟨s1, s2, s3⟩ := HST.out (.bool false) (.slice none 0 0) (.int .i64 0) (.int .i64 0)
    refine door_ok rfl _ _ (w.heap.size) (w.heap.size + 1) _ _ _ 0 _ rfl rfl s1 s2 ?_
    rw [HZ.out]
    exact Ans.zero HOW.out (s3.mono (by rintro i hi (rfl | rfl) <;> omega))
  · refine door_panic rfl _ w7 (w.heap.size) (w.heap.size + 1) 2 _ rfl rfl hY7 hE7 (fun w' hw' => ?_)
    exact Ans.long hz a1 a2 a3 a4 hbad HOW.out (hw'.mono (by rintro i hi rfl; omega))
  · have HA := Lib.hid (And.intro hz (And.intro a1 (And.intro a2 (And.intro a3 (And.intro a4 (And.intro hown (And.intro hval hnm)))))))
    clear hz a1 a2 a3 a4 hown hval hnm
    go_wp2_with fail
    obtain ⟨s1, s2, s3⟩ := HST.out (.bool (decide (Z < 0))) (.slice A7 ds7.length c7) (.int .i64 (X + t)) (.int .i64 0)
    obtain ⟨g1, g2, g3, g4, g5, g6, g7, g8⟩ := HA.out
    refine door_ok rfl _ _ (w.heap.size) (w.heap.size + 1) _ _ _ 0 _ rfl rfl s1 s2 ?_
    refine Ans.some_ g1 g2 g3 g4 g5 b1 b2 b3 HOW.out (s3.mono (by rintro i hi (rfl | rfl) <;> omega)) (own_two g6 hY7 hE7 s3) ?_ g7 g8
    have := (ho2.trans ho24).base.size
    exact this
end Go.Proofs.YtgbpglojbgicjaaGreatFmt
