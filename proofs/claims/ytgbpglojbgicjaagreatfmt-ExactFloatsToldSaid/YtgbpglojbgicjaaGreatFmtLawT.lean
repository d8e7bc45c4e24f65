/- exact: Of. -/
import Derived.Test.YtgbpglojbgicjaaGreatFmtLawS
import Derived.Test.YtgbpglojbgicjaaGreatFmtPart11
import Derived.Test.YtgbpglojbgicjaaGreatFmtPart16
namespace Go.Proofs.YtgbpglojbgicjaaGreatFmt
open Go.RowKit Go.Proofs.YtgbpglojbgicjaaGreatFmtW.PrintWords

theorem results_of {fn : Func} {p q : Tmp} (h : fn.results = #[.cell p 24, .tmp q]) (tmps : Array Value) (w : World) (Y : Nat) (a b c d : Value)
    (hp : tmps.getD p undef = .pointer (some ⟨Y, 0, none⟩)) (hg : w.heap[Y]? = some (.cells #[a, b, c] 24 (0, 0))) (hq : tmps.getD q undef = d) :
    (results fn tmps).run Tryz.prog w = .ok (.tuple #[.agg #[a, b, c], d]) w := by
  have hp' : tmps[p]?.getD undef = .pointer (some ⟨Y, 0, none⟩) := by simpa using hp
  have hq' : tmps[q]?.getD undef = d := by simpa using hq
  have h0 : w.cell? ⟨Y, 0, none⟩ = some a := blk_cell hg 0
  have h1 : w.cell? ⟨Y, 1, none⟩ = some b := blk_cell hg 1
  have h2 : w.cell? ⟨Y, 2, none⟩ = some c := blk_cell hg 2
  simp [results, h, hp', hq', asAddr, go_sem, h0, h1, h2]
/-- no number and an error -/
def OfBad (w : World) (n : Int) (en : Ending) (w' : World) : Prop := en = .returned (.tuple #[.agg #[.bool false, .slice none 0 0, .int .i64 0], .int .i64 n]) ∧ Only w w' (fun _ => False)
theorem Tells.only {f : FuncId} {args : Array Value} {v : Value} (h : Tells f args v) (w : World) : Calls Tryz.prog f args w fun e w' => e = .returned v ∧ Only w w' (fun _ => False) :=
  (h w).mono fun _ _ ⟨h1, h2⟩ => ⟨h1, Only.of_below h2⟩
set_option maxRecDepth 100000 in
set_option maxHeartbeats 4000000 in
theorem of_width (b v : Int) (w : World) (h : ¬ v = 64) (h2 : ¬ v = 32) : Calls Tryz.prog 4 #[.int .i64 b, .int .i64 v] w (OfBad w 3) := by
  have v1 : (v != 64) = true := by rw [bne_iff_ne]; exact h
  have v2 : (v != 32) = true := by rw [bne_iff_ne]; exact h2
  have hY := heap_alloc_new w (.cells #[.bool false, .slice none 0 0, .int .i64 0] 24)
  have HO := Lib.hid (Only.alloc (Only.refl w (fun _ => False)) (.cells #[.bool false, .slice none 0 0, .int .i64 0] 24))
  have HY := Lib.hid hY
  clear h h2 hY
  go_enter Tryz.func4, Tryz.ntmps4
  go_wp2_with fail
  exact bodyPost_ret (results_of rfl _ _ w.heap.size _ _ _ _ rfl (by simpa using HY.out) rfl) rfl ⟨rfl, HO.out⟩
set_option maxRecDepth 100000 in
set_option maxHeartbeats 4000000 in
theorem of_inf (b v : Int) (w : World) (hb : Flt.I64 b) (hv : v = 64 ∨ v = 32) (hf : Flt.fin b v = false) : Calls Tryz.prog 4 #[.int .i64 b, .int .i64 v] w (OfBad w 6) := by
  have v1 : (v != 64 && v != 32) = false := by rcases hv with rfl | rfl <;> rfl
  have HP := Lib.hid (fun w => Tells.only (parts_any b v hb) w)
  have hY := heap_alloc_new w (.cells #[.bool false, .slice none 0 0, .int .i64 0] 24)
  have HO := Lib.hid (Only.alloc (Only.refl w (fun _ => False)) (.cells #[.bool false, .slice none 0 0, .int .i64 0] 24))
  have HY := Lib.hid hY
  have HV := Lib.hid hv
  clear hv hY hb
  go_enter Tryz.func4, Tryz.ntmps4
  go_upto_region 1 with (fail)
  go_cut [15] (fun s wx => s = .bool false ∧ wx = w.alloc (.cells #[.bool false, .slice none 0 0, .int .i64 0] 24))
  case first =>
    rcases HV.out with rfl | rfl
    · go_wp2_with fail
      go_meet
      exact ⟨rfl, rfl⟩
    · go_wp2_with fail
      go_meet
      exact ⟨rfl, rfl⟩
  case rest =>
  obtain ⟨rfl, hwc⟩ := hcut
  rw [← hwc] at HO HY
  clear hwc v1 HV
  go_wp2_with fail
  refine (HP.out wc).mono ?_
  rintro en w2 ⟨rfl, ho2⟩
  have hY2 := (ho2.kept _ (blk_lt HY.out) (fun h => h)).trans HY.out
  have y0 : w2.cell? ⟨w.heap.size, 0, none⟩ = some (.bool false) := blk_cell hY2 0
  have y1 : w2.cell? ⟨w.heap.size, 1, none⟩ = some (.slice none 0 0) := blk_cell hY2 1
  have y2 : w2.cell? ⟨w.heap.size, 2, none⟩ = some (.int .i64 0) := blk_cell hY2 2
  have fy0 := blk_frozen hY2 0
  have fy1 := blk_frozen hY2 1
  have fy2 := blk_frozen hY2 2
  have hs : ∀ a b c : Value, (((w2.setCell ⟨w.heap.size, 0, none⟩ a).setCell ⟨w.heap.size, 1, none⟩ b).setCell ⟨w.heap.size, 2, none⟩ c).heap[w.heap.size]? = some (.cells #[a, b, c] 24 (0, 0)) ∧ Only w (((w2.setCell ⟨w.heap.size, 0, none⟩ a).setCell ⟨w.heap.size, 1, none⟩ b).setCell ⟨w.heap.size, 2, none⟩ c) (fun _ => False) := fun a b c =>
    ⟨by simpa using blk_set (blk_set (blk_set hY2 0 a) 1 b) 2 c, (((HO.out.trans ho2).set (.inl (Nat.le_refl _)) _).set (.inl (Nat.le_refl _)) _).set (.inl (Nat.le_refl _)) _⟩
  have HS := Lib.hid hs
  clear hs hY2 ho2 HO HY HP
  unfold partsV at *
  go_wp2_with fail
  obtain ⟨s1, s2⟩ := HS.out (.bool false) (.slice none 0 0) (.int .i64 0)
  exact bodyPost_ret (results_of rfl _ _ w.heap.size _ _ _ _ rfl s1 rfl) rfl ⟨rfl, s2⟩
/-- a finite float's number -/
def OfFin (w : World) (b v : Int) (en : Ending) (w' : World) : Prop := Only w w' (fun _ => False) ∧ ((Flt.mag b v = 0 ∧ en = .returned (.tuple #[.agg #[.bool false, .slice none 0 0, .int .i64 0], .int .i64 0])) ∨
  (0 < Flt.mag b v ∧ ∃ (t : Nat) (q : Int) (A : Option Addr) (ds : List Int) (c : Nat), Flt.mag b v = q * 2 ^ t ∧ q % 2 = 1 ∧ 0 < q ∧ en = .returned (.tuple #[.agg #[.bool (Flt.neg b v), .slice A ds.length c, .int .i64 (Flt.exp b v + t)], .int .i64 0]) ∧ w'.ownsRow w.heap.size 3 1 (.slice A ds.length c) ds.length (nums .i64 ds) ∧ val ds = q ∧ Nm ds))
theorem parts_range (b v : Int) (hv : v = 64 ∨ v = 32) : 0 ≤ Flt.mag b v ∧ Flt.mag b v < 9007199254740992 ∧ -1074 ≤ Flt.exp b v ∧ Flt.exp b v ≤ 973 := by
  rcases hv with rfl | rfl
  · show 0 ≤ Flt.mag64 b ∧ Flt.mag64 b < _ ∧ _ ≤ Flt.exp64 b ∧ Flt.exp64 b ≤ _
    unfold Flt.mag64 Flt.exp64
    split <;> omega
  · show 0 ≤ Flt.mag32 b ∧ Flt.mag32 b < _ ∧ _ ≤ Flt.exp32 b ∧ Flt.exp32 b ≤ _
    unfold Flt.mag32 Flt.exp32
    split <;> omega
set_option maxRecDepth 100000 in
set_option maxHeartbeats 8000000 in
theorem of_fin (b v : Int) (w : World) (hb : Flt.I64 b) (hv : v = 64 ∨ v = 32) (hf : Flt.fin b v = true) (hT : Tab w) : Calls Tryz.prog 4 #[.int .i64 b, .int .i64 v] w (OfFin w b v) := by
  have v1 : (v != 64 && v != 32) = false := by rcases hv with rfl | rfl <;> rfl
  obtain ⟨m0, m1, e0, e1⟩ := parts_range b v hv
  have hp := parts_any b v hb
  unfold partsV Flt.pneg Flt.pmag Flt.pexp at hp
  rw [hf, if_pos rfl, if_pos rfl, Bool.true_and] at hp
  have HP := Lib.hid (fun w => Tells.only hp w)
  have hY := heap_alloc_new w (.cells #[.bool false, .slice none 0 0, .int .i64 0] 24)
  have HO := Lib.hid (Only.alloc (Only.refl w (fun _ => False)) (.cells #[.bool false, .slice none 0 0, .int .i64 0] 24))
  have HY := Lib.hid hY
  have HV := Lib.hid hv
  have HZ : Hid (∃ z, z = if Flt.neg b v = true then -Flt.mag b v else Flt.mag b v) := Lib.hid ⟨_, rfl⟩
  clear hv hY hb hp hf
  obtain ⟨z, hz⟩ := HZ.out
  have HZ2 := Lib.hid hz
  have hzr : -9007199254740992 < z ∧ z < 9007199254740992 ∧ ((Int.natAbs z : Nat) : Int) = Flt.mag b v ∧ (0 < Flt.mag b v → decide (z < 0) = Flt.neg b v) := by
    rw [hz]
    cases Flt.neg b v
    · refine ⟨by simp; omega, by simp; omega, by simp; omega, fun h => ?_⟩
      rw [decide_eq_false_iff_not]; simp; omega
    · refine ⟨by simp; omega, by simp; omega, by simp; omega, fun h => ?_⟩
      rw [decide_eq_true_eq]; simp; omega
  have HZR := Lib.hid hzr
  clear hz HZ hzr
  generalize hN : Flt.neg b v = ng at *
  generalize hM : Flt.mag b v = mg at *
  generalize hE : Flt.exp b v = ex at *
  have HNM := Lib.hid (And.intro hN (And.intro hM hE))
  clear hN hM hE
  go_enter Tryz.func4, Tryz.ntmps4
  go_upto_region 1 with (fail)
  go_cut [15] (fun s wx => s = .bool false ∧ wx = w.alloc (.cells #[.bool false, .slice none 0 0, .int .i64 0] 24))
  case first =>
    rcases HV.out with rfl | rfl
    · go_wp2_with fail
      go_meet
      exact ⟨rfl, rfl⟩
    · go_wp2_with fail
      go_meet
      exact ⟨rfl, rfl⟩
  case rest =>
  obtain ⟨rfl, hwc⟩ := hcut
  rw [← hwc] at HO HY
  clear hwc v1
  go_wp2_with fail
  refine (HP.out wc).mono ?_
  rintro en w2 ⟨rfl, ho2⟩
  have hY2 := (ho2.kept _ (blk_lt HY.out) (fun h => h)).trans HY.out
  have HO2 := Lib.hid (HO.out.trans ho2)
  have HY2 := Lib.hid hY2
  clear hY2 ho2 HO HY HP
  have hn1 : wrap64 (-mg) = -mg := by unfold wrap64; omega
  have hn2 : IntKind.i64.wrap (-mg) = -mg := by rw [IntKind.wrap_i64]; omega
  go_upto_if 28 with (fail)
  go_cut [7] (fun s wx => s = .int .i64 z ∧ w2 = wx)
  case first =>
    cases ng
    · go_wp2_with fail
      go_meet
      exact ⟨by rw [HZ2.out]; rfl, rfl⟩
    · go_wp2_with fail
      go_meet
      exact ⟨by rw [HZ2.out]; rfl, rfl⟩
  case rest =>
  obtain ⟨rfl, rfl⟩ := hcut
  have hz0 := HZR.out.1
  have hz1 := HZR.out.2.1
  go_wp2_with fail
  refine (newInt_all z w2 (by omega) (by omega)).mono ?_
  rintro en w3 ⟨g, rfl, ⟨o, hi, hgB, hoB⟩, ho3⟩
  have HO3 := Lib.hid (HO2.out.trans ho3)
  have hY3 := (ho3.kept _ (blk_lt HY2.out) (fun h => h)).trans HY2.out
  have HY3 := Lib.hid hY3
  have hsz : w.heap.size < w3.heap.size := blk_lt hY3
  clear hY3 ho3
  go_wp2_with fail
  have hfit : Fits ((Int.natAbs z : Nat) : Int) := Fits.of (k := 53) (by rw [show (2 : Int) ^ 53 = 9007199254740992 by decide]; omega) (by omega)
  refine (told_any g o z ex w3 hi hfit (hT.only HO3.out) (by omega) (by omega)).mono ?_
  rintro en w7 ⟨ho7, hcase⟩
  have hY7 := (ho7.kept _ (blk_lt HY3.out) (fun h => h)).trans HY3.out
  have y0 : w7.cell? ⟨w.heap.size, 0, none⟩ = some (.bool false) := blk_cell hY7 0
  have y1 : w7.cell? ⟨w.heap.size, 1, none⟩ = some (.slice none 0 0) := blk_cell hY7 1
  have y2 : w7.cell? ⟨w.heap.size, 2, none⟩ = some (.int .i64 0) := blk_cell hY7 2
  have fy0 := blk_frozen hY7 0
  have fy1 := blk_frozen hY7 1
  have fy2 := blk_frozen hY7 2
  have HOW := Lib.hid (HO3.out.trans ho7)
  have hst : ∀ a b c : Value, (((w7.setCell ⟨w.heap.size, 0, none⟩ a).setCell ⟨w.heap.size, 1, none⟩ b).setCell ⟨w.heap.size, 2, none⟩ c).heap[w.heap.size]? = some (.cells #[a, b, c] 24 (0, 0)) ∧ Only w7 (((w7.setCell ⟨w.heap.size, 0, none⟩ a).setCell ⟨w.heap.size, 1, none⟩ b).setCell ⟨w.heap.size, 2, none⟩ c) (fun k => k = w.heap.size) := fun a b c =>
    ⟨by simpa using blk_set (blk_set (blk_set hY7 0 a) 1 b) 2 c, (((Only.refl w7 (fun k => k = w.heap.size)).set (.inr rfl) _).set (.inr rfl) _).set (.inr rfl) _⟩
  have HST := Lib.hid (And.intro hY7 hst)
  clear hst hY7
  rcases hcase with ⟨hz, rfl⟩ | ⟨hz, t, k, q, a1, a2, a3, a4, hb⟩
  · have HZ := Lib.hid hz
    clear hz
    go_wp2_with fail
    obtain ⟨s1, s3⟩ := HST.out.2 (.bool false) (.slice none 0 0) (.int .i64 0)
    refine bodyPost_ret (results_of rfl _ _ w.heap.size _ _ _ _ rfl s1 rfl) rfl ⟨HOW.out.step s3 (by rintro i hi rfl; omega), .inl ⟨?_, rfl⟩⟩
    rw [HNM.out.2.1, ← HZR.out.2.2.1, HZ.out]; rfl
  · have hP : (0 : Int) < 2 ^ t := Int.pow_pos (by omega)
    have hzm := HZR.out.2.2.1
    have htn : (2 : Int) ^ t ≤ ((Int.natAbs z : Nat) : Int) := by
      rw [a1]
      have := Int.mul_le_mul_of_nonneg_right (show (1 : Int) ≤ q by omega) (Int.le_of_lt hP)
      omega
    have hqn : q ≤ ((Int.natAbs z : Nat) : Int) := by
      rw [a1]
      have := Int.mul_le_mul_of_nonneg_left (show (1 : Int) ≤ 2 ^ t by omega) (Int.le_of_lt a3)
      omega
    have ht : t < 53 := pow_lt (Int.lt_of_le_of_lt htn (by rw [show (2 : Int) ^ 53 = 9007199254740992 by decide]; omega))
    have hk : k ≤ 53 := by
      rcases Nat.eq_zero_or_pos k with h | h
      · omega
      · have := pow_lt (Int.lt_of_le_of_lt (a4.2 h) (show q < 2 ^ 53 by rw [show (2 : Int) ^ 53 = 9007199254740992 by decide]; omega))
        omega
    rcases hb with ⟨hbad, rfl⟩ | ⟨b1, b2, b3, A7, ds7, c7, rfl, hown, hval, hnm⟩
    · exact absurd hbad (by omega)
    · have HA := Lib.hid (And.intro hz (And.intro a1 (And.intro a2 (And.intro a3 (And.intro hown (And.intro hval (And.intro hnm hzm)))))))
      clear hz a1 a2 a3 a4 hown hval hnm hP hqn htn hzm
      go_wp2_with fail
      obtain ⟨s1, s3⟩ := HST.out.2 (.bool (decide (z < 0))) (.slice A7 ds7.length c7) (.int .i64 (ex + t))
      obtain ⟨g1, g2, g3, g4, g6, g7, g8, g9⟩ := HA.out
      have hpos : 0 < mg := by omega
      refine bodyPost_ret (results_of rfl _ _ w.heap.size _ _ _ _ rfl s1 rfl) rfl ⟨HOW.out.step s3 (by rintro i hi rfl; omega), .inr ⟨by rw [HNM.out.2.1]; exact hpos, t, q, A7, ds7, c7, by rw [HNM.out.2.1, ← g9]; exact g2, g3, g4, by rw [HNM.out.1, HNM.out.2.2, HZR.out.2.2.2 hpos]; rfl, own_weaken (own_other_num g6 HST.out.1 s3) ?_, g7, g8⟩⟩
      have := HO3.out.base.size
      omega
end Go.Proofs.YtgbpglojbgicjaaGreatFmt
