/- BitsBack's own walk. -/
import Derived.Test.YtjogbiopbobifaaBackA
import Derived.Test.YtjogbiopbobifaaRefA
namespace Go.Proofs.Ytjogbiopbobifaa
open Go.RowKit

set_option maxRecDepth 100000 in
set_option maxHeartbeats 2000000 in
theorem back_fin (b0 w0 b v m e k n : Int) (neg : Bool) (hE : Hid (Tells 22 #[.int .i64 w0] (.int .i64 v))) (hPB : Hid (Tells 23 #[.int .i64 b0, .int .i64 v] (.int .i64 b))) (hP : Hid (Tells 43 #[.int .i64 b, .int .i64 v] (.tuple #[.bool neg, .int .i64 m, .int .i64 e, .bool true]))) (hJ : Hid (Tells 44 #[.bool neg, .int .i64 m, .int .i64 e, .int .i64 v] (.tuple #[.int .i64 b, .bool true]))) (hC : Hid (Tells 28 #[.int .i64 b, .int .i64 v] (.int .i64 k))) (hN : Hid (Tells 45 #[.int .i64 b, .int .i64 v] (.int .i64 n))) (hM : Hid (Tells 45 #[.int .i64 n, .int .i64 v] (.int .i64 b))) (c3 : decide (k < 3) = true) (c4 : (k == 4) = false) : Tells 13 #[.int .i64 b0, .int .i64 w0] (.bool true) := by
  intro w
  have HB : Below w.heap.size w w := Below.refl _ _
  go_enter Try.func13, Try.ntmps13
  go_wp2_with fail
  refine (hE.out _).mono ?_
  rintro e w1 ⟨rfl, hb1⟩
  replace HB := below_on HB hb1
  clear hb1
  go_wp2_with fail
  refine (hPB.out _).mono ?_
  rintro e w1 ⟨rfl, hb1⟩
  replace HB := below_on HB hb1
  clear hb1
  go_wp2_with fail
  refine (hP.out _).mono ?_
  rintro e w1 ⟨rfl, hb1⟩
  replace HB := below_on HB hb1
  clear hb1
  go_wp2_with fail
  refine (hJ.out _).mono ?_
  rintro e w1 ⟨rfl, hb1⟩
  replace HB := below_on HB hb1
  clear hb1
  go_wp2_with fail
  refine (hC.out _).mono ?_
  rintro e w1 ⟨rfl, hb1⟩
  replace HB := below_on HB hb1
  clear hb1
  go_wp2_with fail
  refine (alive_any _).mono ?_
  rintro e w1 ⟨rfl, hb1⟩
  replace HB := below_on HB hb1
  clear hb1
  go_wp2_with fail
  refine (hN.out _).mono ?_
  rintro e w1 ⟨rfl, hb1⟩
  replace HB := below_on HB hb1
  clear hb1
  go_wp2_with fail
  refine (hM.out _).mono ?_
  rintro e w1 ⟨rfl, hb1⟩
  replace HB := below_on HB hb1
  clear hb1
  go_wp2_with fail
  go_ret
  exact ⟨rfl, HB⟩
set_option maxRecDepth 100000 in
set_option maxHeartbeats 2000000 in
theorem back_inf (b0 w0 b v k n : Int) (hE : Hid (Tells 22 #[.int .i64 w0] (.int .i64 v))) (hPB : Hid (Tells 23 #[.int .i64 b0, .int .i64 v] (.int .i64 b))) (hP : Hid (Tells 43 #[.int .i64 b, .int .i64 v] (.tuple #[.bool false, .int .i64 0, .int .i64 0, .bool false]))) (hJ : Hid (Tells 44 #[.bool false, .int .i64 0, .int .i64 0, .int .i64 v] (.tuple #[.int .i64 0, .bool true]))) (hC : Hid (Tells 28 #[.int .i64 b, .int .i64 v] (.int .i64 k))) (hN : Hid (Tells 45 #[.int .i64 b, .int .i64 v] (.int .i64 n))) (hM : Hid (Tells 45 #[.int .i64 n, .int .i64 v] (.int .i64 b))) (c3 : decide (k < 3) = false) (c4 : (k == 4) = false) : Tells 13 #[.int .i64 b0, .int .i64 w0] (.bool true) := by
  intro w
  have HB : Below w.heap.size w w := Below.refl _ _
  go_enter Try.func13, Try.ntmps13
  go_wp2_with fail
  refine (hE.out _).mono ?_
  rintro e w1 ⟨rfl, hb1⟩
  replace HB := below_on HB hb1
  clear hb1
  go_wp2_with fail
  refine (hPB.out _).mono ?_
  rintro e w1 ⟨rfl, hb1⟩
  replace HB := below_on HB hb1
  clear hb1
  go_wp2_with fail
  refine (hP.out _).mono ?_
  rintro e w1 ⟨rfl, hb1⟩
  replace HB := below_on HB hb1
  clear hb1
  go_wp2_with fail
  refine (hJ.out _).mono ?_
  rintro e w1 ⟨rfl, hb1⟩
  replace HB := below_on HB hb1
  clear hb1
  go_wp2_with fail
  refine (hC.out _).mono ?_
  rintro e w1 ⟨rfl, hb1⟩
  replace HB := below_on HB hb1
  clear hb1
  go_wp2_with fail
  refine (alive_any _).mono ?_
  rintro e w1 ⟨rfl, hb1⟩
  replace HB := below_on HB hb1
  clear hb1
  go_wp2_with fail
  refine (hN.out _).mono ?_
  rintro e w1 ⟨rfl, hb1⟩
  replace HB := below_on HB hb1
  clear hb1
  go_wp2_with fail
  refine (hM.out _).mono ?_
  rintro e w1 ⟨rfl, hb1⟩
  replace HB := below_on HB hb1
  clear hb1
  go_wp2_with fail
  go_ret
  exact ⟨rfl, HB⟩
set_option maxRecDepth 100000 in
set_option maxHeartbeats 2000000 in
theorem back_nan (b0 w0 b v k : Int) (hE : Hid (Tells 22 #[.int .i64 w0] (.int .i64 v))) (hPB : Hid (Tells 23 #[.int .i64 b0, .int .i64 v] (.int .i64 b))) (hP : Hid (Tells 43 #[.int .i64 b, .int .i64 v] (.tuple #[.bool false, .int .i64 0, .int .i64 0, .bool false]))) (hJ : Hid (Tells 44 #[.bool false, .int .i64 0, .int .i64 0, .int .i64 v] (.tuple #[.int .i64 0, .bool true]))) (hC : Hid (Tells 28 #[.int .i64 b, .int .i64 v] (.int .i64 k))) (c3 : decide (k < 3) = false) (c4 : (k == 4) = true) : Tells 13 #[.int .i64 b0, .int .i64 w0] (.bool true) := by
  intro w
  have HB : Below w.heap.size w w := Below.refl _ _
  go_enter Try.func13, Try.ntmps13
  go_wp2_with fail
  refine (hE.out _).mono ?_
  rintro e w1 ⟨rfl, hb1⟩
  replace HB := below_on HB hb1
  clear hb1
  go_wp2_with fail
  refine (hPB.out _).mono ?_
  rintro e w1 ⟨rfl, hb1⟩
  replace HB := below_on HB hb1
  clear hb1
  go_wp2_with fail
  refine (hP.out _).mono ?_
  rintro e w1 ⟨rfl, hb1⟩
  replace HB := below_on HB hb1
  clear hb1
  go_wp2_with fail
  refine (hJ.out _).mono ?_
  rintro e w1 ⟨rfl, hb1⟩
  replace HB := below_on HB hb1
  clear hb1
  go_wp2_with fail
  refine (hC.out _).mono ?_
  rintro e w1 ⟨rfl, hb1⟩
  replace HB := below_on HB hb1
  clear hb1
  go_wp2_with fail
  refine (alive_any _).mono ?_
  rintro e w1 ⟨rfl, hb1⟩
  replace HB := below_on HB hb1
  clear hb1
  go_wp2_with fail
  go_ret
  exact ⟨rfl, HB⟩
theorem bitsBack_walk (b0 w0 : Int) (hb : Flt.I64 b0) : Tells 13 #[.int .i64 b0, .int .i64 w0] (.bool true) := by
  have hE := either_any w0
  have pb := Flt.pat_pat b0 w0 hb
  have hPB := pattern_any b0 (Flt.eit w0)
  generalize Flt.eit w0 = v at *
  generalize Flt.pat b0 v = b at *
  have ib := pb.i64
  have hP := parts_any b v ib
  have hC := class_any b v
  have hN := neg_any b v ib
  have hM := neg_any (Flt.nneg b v) v (Flt.I64_nneg b v ib)
  have hle : Flt.cls b v ≤ 4 := by
    unfold Flt.cls Flt.cls64 Flt.cls32
    (repeat' split) <;> omega
  have hfin : Flt.fin b v = decide (Flt.cls b v ≤ 2) := by
    unfold Flt.fin
    rcases pb.wide with rfl | rfl <;> simp
  by_cases f : Flt.fin b v = true
  · have f2 := f
    rw [hfin, decide_eq_true_iff] at f2
    rw [Flt.nneg_nneg pb (by omega)] at hM
    unfold partsV Flt.pneg Flt.pmag Flt.pexp at hP
    rw [f, if_pos rfl, if_pos rfl, Bool.true_and] at hP
    refine back_fin b0 w0 b v (Flt.mag b v) (Flt.exp b v) (Flt.cls b v) _ (Flt.neg b v) (Lib.hid hE) (Lib.hid hPB) (Lib.hid hP) (Lib.hid ?_) (Lib.hid hC) (Lib.hid hN) (Lib.hid hM) (decide_eq_true (by omega)) (beq_eq_false_iff_ne.2 (by omega))
    rcases pb with ⟨rfl, h⟩ | ⟨rfl, h⟩
    · exact join_back64 b h f
    · exact join_back32 b h f
  · have f2 := f
    rw [hfin, decide_eq_true_iff] at f2
    have f3 : Flt.fin b v = false := Bool.eq_false_iff.2 f
    unfold partsV Flt.pneg Flt.pmag Flt.pexp at hP
    rw [f3, if_neg (by decide), if_neg (by decide), Bool.false_and] at hP
    have hJ : Tells 44 #[.bool false, .int .i64 0, .int .i64 0, .int .i64 v] (.tuple #[.int .i64 0, .bool true]) := by
      rcases pb.wide with rfl | rfl
      · exact join64_zero_false 0
      · exact join32_zero_false 0
    by_cases c : Flt.cls b v = 4
    · exact back_nan b0 w0 b v (Flt.cls b v) (Lib.hid hE) (Lib.hid hPB) (Lib.hid hP) (Lib.hid hJ) (Lib.hid hC) (decide_eq_false (by omega)) (beq_iff_eq.2 c)
    · rw [Flt.nneg_nneg pb c] at hM
      exact back_inf b0 w0 b v (Flt.cls b v) _ (Lib.hid hE) (Lib.hid hPB) (Lib.hid hP) (Lib.hid hJ) (Lib.hid hC) (Lib.hid hN) (Lib.hid hM) (decide_eq_false (by omega)) (beq_eq_false_iff_ne.2 c)
end Go.Proofs.Ytjogbiopbobifaa
