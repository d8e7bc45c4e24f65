/- Part 9 of the walk of ExactOnes: FPupillaw2Samenum ExC ExD ExE ExF ExG. -/
import Derived.Test.YtflhdplfkpdejaaGreatFmtPart07
import Derived.Test.YtflhdplfkpdejaaGreatFmtPart08
import Derived.Test.YtflhdplfkpdejaaGreatFmtPart06
import Derived.Recover
namespace Go.Proofs.YtflhdplfkpdejaaGreatFmt.F
open Go.RowKit Go.Proofs.YtflhdplfkpdejaaGreatFmtW.PrintWords Go.Proofs.YtflhdplfkpdejaaGreatFmtW.PrintLast Go.Proofs.YtflhdplfkpdejaaGreatFmtW.PrintMore
attribute [local go_sem] max2_int min2_int max_two min_two max_three min_three max_four min_four   -- for this text's walks alone
set_option linter.unusedVariables false
set_option linter.unusedSimpArgs false
def pupillaw2_SameNum.f (k : Nat) (a0_0 : Bool) (l0_1 : List Int) (a0_2 : Int) (a1_0 : Bool) (l1_1 : List Int) (a1_2 : Int) : Option (Bool) := if (a0_0 == a1_0) = true then (if a0_2 = a1_2 then ((pupillaw2_Same.f k l0_1 l1_1).bind fun t337 => (some t337)) else (some false)) else (some false)
theorem pupillaw2_SameNum.mono : ∀ a0 a1 a2 a3 a4 a5 k, LeO (pupillaw2_SameNum.f k a0 a1 a2 a3 a4 a5) (pupillaw2_SameNum.f (k + 1) a0 a1 a2 a3 a4 a5) := by
  intro a0 a1 a2 a3 a4 a5 k
  unfold pupillaw2_SameNum.f
  repeat' first
      | (with_reducible exact pupillaw2_Same.mono _ _ _)
      | (with_reducible exact LeO.refl _)
      | (with_reducible exact LeO.none _)
      | (with_reducible refine LeO.ite ?_ ?_)
      | (with_reducible refine LeO.bind ?_ (fun _ => ?_))
      | exact pupillaw2_Same.mono _ _ _
      | exact LeO.none _
      | refine LeO.ite ?_ ?_
      | refine LeO.bind ?_ (fun _ => ?_)
set_option maxHeartbeats 8000000 in
set_option maxRecDepth 100000 in
theorem pupillaw2_SameNum.calls (k : Nat) (a0_0 : Bool) (A0_1 : Option Addr) (c0_1 : Nat) (l0_1 : List Int) (a0_2 : Int) (a1_0 : Bool) (A1_1 : Option Addr) (c1_1 : Nat) (l1_1 : List Int) (a1_2 : Int) (r : Bool) (w : World) (hr0_1 : Kd.C (Kd.int .i64) w A0_1 l0_1.length l0_1) (hc0_1 : l0_1.length ≤ c0_1) (hr1_1 : Kd.C (Kd.int .i64) w A1_1 l1_1.length l1_1) (hc1_1 : l1_1.length ≤ c1_1) (h : pupillaw2_SameNum.f k a0_0 l0_1 a0_2 a1_0 l1_1 a1_2 = some r) :
    Calls Tryz.prog 11 #[.agg #[.bool a0_0, .slice A0_1 l0_1.length c0_1, .int .i64 a0_2], .agg #[.bool a1_0, .slice A1_1 l1_1.length c1_1, .int .i64 a1_2]] w fun e w' => e = .returned (.bool r) ∧ Below w.heap.size w w' := by
  have hu24 := Tryz.underlying24
  have HR0_1 := Aside0.mk hr0_1
  have HC0_1 := Aside0.mk hc0_1
  clear hr0_1 hc0_1
  have HR1_1 := Aside0.mk hr1_1
  have HC1_1 := Aside0.mk hc1_1
  clear hr1_1 hc1_1
  have HB := Aside0.mk (Below.refl w.heap.size w)
  have H : (if (a0_0 == a1_0) = true then (if a0_2 = a1_2 then ((pupillaw2_Same.f k l0_1 l1_1).bind fun t337 => (some t337)) else (some false)) else (some false)) = some r := h
  clear h
  by_cases c3 : (a0_0 == a1_0) = true
  · rw [if_pos c3] at H
    have c3b0 : (a0_0 == a1_0) = true := c3
    (try (have c3b1 : decide (a0_0 = a1_0) = true := by simpa using c3))
    (try (have c3b2 : (a0_0 == a1_0) = true := by simpa using c3))
    clear c3
    by_cases c4 : a0_2 = a1_2
    · rw [if_pos c4] at H
      have c4b0 : (a0_2 == a1_2) = true := beq_iff_eq.mpr c4
      have c4b1 : (a0_2 != a1_2) = false := bne_eq_false_iff_eq.mpr c4
      clear c4
      replace H := Option.bind_eq_some_iff.mp H
      obtain ⟨t337, A50, H⟩ := H
      replace H : (some t337) = some r := H
      have A5 := Aside0.mk A50
      clear A50
      obtain rfl := Option.some.inj H
      go_enter Tryz.func11, Tryz.ntmps11
      go_wp2_with (first | ((with_reducible refine gate_dst (N := 2) rfl ?_); refine box_event ?hg (N := 2) ?hd (cs := #[.bool a0_0, .slice A0_1 l0_1.length c0_1, .int .i64 a0_2]) (t := 24) ?hr ?_; (case hd => rfl); (case hg => rfl); (case hr => first | (go_simp; done) | (go_simp; rfl)); intro gb335 hg w6 hbox hb; have n0_ := Aside0.mk (below_step (by repeat (first | (with_reducible first | exact HB.out | apply below_alloc | apply pw_below_drewN | apply below_drew1) | exact HB.out)) hb); have n1_ := Aside0.mk (hbox); have n2_ := Aside0.mk ((by rw [hg]; exact (below_size (by repeat (first | (with_reducible first | exact HB.out | apply below_alloc | apply pw_below_drewN | apply below_drew1) | exact HB.out))) : w.heap.size ≤ gb335)); have n3_ := Aside0.mk ((by rw [hg]; exact (below_size (by repeat (first | (with_reducible first | exact HB.out | apply below_alloc | apply pw_below_drewN | apply below_drew1) | exact HB.out))) : w.heap.size ≤ gb335)); clear HB; have HB := n0_; have BK335 := n1_; have GW335 := n2_; have GE335 := n3_; clear n0_ n1_ n2_ n3_; clear hb hbox hg) | ((with_reducible refine gate_dst (N := 3) rfl ?_); refine box_event ?hg (N := 3) ?hd (cs := #[.bool a1_0, .slice A1_1 l1_1.length c1_1, .int .i64 a1_2]) (t := 24) ?hr ?_; (case hd => rfl); (case hg => rfl); (case hr => first | (go_simp; done) | (go_simp; rfl)); intro gb336 hg w7 hbox hb; have n0_ := Aside0.mk (blk_below (g := gb335) (o := .cells #[.bool a0_0, .slice A0_1 l0_1.length c0_1, .int .i64 a0_2] 24 (0, 0)) (by (with_reducible repeat (first | refine blk_drewN ?_ _ | refine blk_drew ?_ | refine blk_alloc ?_ _)); exact BK335.out) hb); have n1_ := Aside0.mk (below_step (by repeat (first | (with_reducible first | exact HB.out | apply below_alloc | apply pw_below_drewN | apply below_drew1 | refine below_set ?_ GE335.out) | exact HB.out)) hb); have n2_ := Aside0.mk (hbox); have n3_ := Aside0.mk ((by rw [hg]; exact (below_size (by repeat (first | (with_reducible first | exact HB.out | apply below_alloc | apply pw_below_drewN | apply below_drew1 | refine below_set ?_ GE335.out) | exact HB.out))) : w.heap.size ≤ gb336)); have n4_ := Aside0.mk ((by rw [hg]; exact (below_size (by repeat (first | (with_reducible first | exact HB.out | apply below_alloc | apply pw_below_drewN | apply below_drew1 | refine below_set ?_ GE335.out) | exact HB.out))) : w.heap.size ≤ gb336)); have n5_ := Aside0.mk ((by rw [hg]; exact Nat.ne_of_lt (blk_lt (g := gb335) (o := .cells #[.bool a0_0, .slice A0_1 l0_1.length c0_1, .int .i64 a0_2] 24 (0, 0)) (by (with_reducible repeat (first | refine blk_drewN ?_ _ | refine blk_drew ?_ | refine blk_alloc ?_ _)); exact BK335.out)) : gb335 ≠ gb336)); have n6_ := Aside0.mk ((by rw [hg]; exact Nat.ne_of_gt (blk_lt (g := gb335) (o := .cells #[.bool a0_0, .slice A0_1 l0_1.length c0_1, .int .i64 a0_2] 24 (0, 0)) (by (with_reducible repeat (first | refine blk_drewN ?_ _ | refine blk_drew ?_ | refine blk_alloc ?_ _)); exact BK335.out)) : gb336 ≠ gb335)); clear BK335; clear HB; have BK335 := n0_; have HB := n1_; have BK336 := n2_; have GW336 := n3_; have GE336 := n4_; have NB335_336 := n5_; have NB336_335 := n6_; clear n0_ n1_ n2_ n3_ n4_ n5_ n6_; clear hb hbox hg; have hnb8 := NB335_336.out; have hnc8 := NB336_335.out; have hcz9_0 : w7.cell? ⟨gb335, 0, none⟩ = some (.bool a0_0) := (blk_cell BK335.out 0).trans rfl; have hcz9_1 : w7.cell? ⟨gb335, 1, none⟩ = some (.slice A0_1 l0_1.length c0_1) := (blk_cell BK335.out 1).trans rfl; have hcz9_2 : w7.cell? ⟨gb335, 2, none⟩ = some (.int .i64 a0_2) := (blk_cell BK335.out 2).trans rfl; have hfz9_0 := blk_frozen BK335.out 0; have hfz9_1 := blk_frozen BK335.out 1; have hfz9_2 := blk_frozen BK335.out 2; have hcz10_0 : w7.cell? ⟨gb336, 0, none⟩ = some (.bool a1_0) := (blk_cell BK336.out 0).trans rfl; have hcz10_1 : w7.cell? ⟨gb336, 1, none⟩ = some (.slice A1_1 l1_1.length c1_1) := (blk_cell BK336.out 1).trans rfl; have hcz10_2 : w7.cell? ⟨gb336, 2, none⟩ = some (.int .i64 a1_2) := (blk_cell BK336.out 2).trans rfl; have hfz10_0 := blk_frozen BK336.out 0; have hfz10_1 := blk_frozen BK336.out 1; have hfz10_2 := blk_frozen BK336.out 2) | (go_at_call 24; (with_reducible refine (pupillaw2_Same.calls k _ _ l0_1 _ _ l1_1 t337 _ ?side1 ?side2 ?side3 ?side4 A5.out).mono ?_); (case side1 => repeat (first | exact (Kd.C_below HR0_1.out HB.out) | (with_reducible refine Kd.C_alloc ?_ _) | (with_reducible refine Kd.C_drewN ?_ _) | (with_reducible refine Kd.C_drew ?_))); (case side2 => exact HC0_1.out); (case side3 => repeat (first | exact (Kd.C_below HR1_1.out HB.out) | (with_reducible refine Kd.C_alloc ?_ _) | (with_reducible refine Kd.C_drewN ?_ _) | (with_reducible refine Kd.C_drew ?_))); (case side4 => exact HC1_1.out); rintro e w' ⟨rfl, ⟨nd, rfl⟩⟩))
      go_ret
      exact ⟨by first | rfl | (simp [errW_none, errW_some] <;> rfl) | (simp [*, errW_none, errW_some] <;> rfl), by repeat (first | (with_reducible first | exact HB.out | apply below_alloc | apply pw_below_drewN | apply below_drew1 | refine below_set ?_ GE335.out | refine below_set ?_ GE336.out) | exact HB.out)⟩
    · rw [if_neg c4] at H
      have c4b0 : (a0_2 == a1_2) = false := beq_eq_false_iff_ne.mpr c4
      have c4b1 : (a0_2 != a1_2) = true := bne_iff_ne.mpr c4
      obtain rfl := Option.some.inj H
      go_enter Tryz.func11, Tryz.ntmps11
      go_wp2_with (first | ((with_reducible refine gate_dst (N := 2) rfl ?_); refine box_event ?hg (N := 2) ?hd (cs := #[.bool a0_0, .slice A0_1 l0_1.length c0_1, .int .i64 a0_2]) (t := 24) ?hr ?_; (case hd => rfl); (case hg => rfl); (case hr => first | (go_simp; done) | (go_simp; rfl)); intro gb335 hg w11 hbox hb; have n0_ := Aside0.mk (below_step (by repeat (first | (with_reducible first | exact HB.out | apply below_alloc | apply pw_below_drewN | apply below_drew1) | exact HB.out)) hb); have n1_ := Aside0.mk (hbox); have n2_ := Aside0.mk ((by rw [hg]; exact (below_size (by repeat (first | (with_reducible first | exact HB.out | apply below_alloc | apply pw_below_drewN | apply below_drew1) | exact HB.out))) : w.heap.size ≤ gb335)); have n3_ := Aside0.mk ((by rw [hg]; exact (below_size (by repeat (first | (with_reducible first | exact HB.out | apply below_alloc | apply pw_below_drewN | apply below_drew1) | exact HB.out))) : w.heap.size ≤ gb335)); clear HB; have HB := n0_; have BK335 := n1_; have GW335 := n2_; have GE335 := n3_; clear n0_ n1_ n2_ n3_; clear hb hbox hg) | ((with_reducible refine gate_dst (N := 3) rfl ?_); refine box_event ?hg (N := 3) ?hd (cs := #[.bool a1_0, .slice A1_1 l1_1.length c1_1, .int .i64 a1_2]) (t := 24) ?hr ?_; (case hd => rfl); (case hg => rfl); (case hr => first | (go_simp; done) | (go_simp; rfl)); intro gb336 hg w12 hbox hb; have n0_ := Aside0.mk (blk_below (g := gb335) (o := .cells #[.bool a0_0, .slice A0_1 l0_1.length c0_1, .int .i64 a0_2] 24 (0, 0)) (by (with_reducible repeat (first | refine blk_drewN ?_ _ | refine blk_drew ?_ | refine blk_alloc ?_ _)); exact BK335.out) hb); have n1_ := Aside0.mk (below_step (by repeat (first | (with_reducible first | exact HB.out | apply below_alloc | apply pw_below_drewN | apply below_drew1 | refine below_set ?_ GE335.out) | exact HB.out)) hb); have n2_ := Aside0.mk (hbox); have n3_ := Aside0.mk ((by rw [hg]; exact (below_size (by repeat (first | (with_reducible first | exact HB.out | apply below_alloc | apply pw_below_drewN | apply below_drew1 | refine below_set ?_ GE335.out) | exact HB.out))) : w.heap.size ≤ gb336)); have n4_ := Aside0.mk ((by rw [hg]; exact (below_size (by repeat (first | (with_reducible first | exact HB.out | apply below_alloc | apply pw_below_drewN | apply below_drew1 | refine below_set ?_ GE335.out) | exact HB.out))) : w.heap.size ≤ gb336)); have n5_ := Aside0.mk ((by rw [hg]; exact Nat.ne_of_lt (blk_lt (g := gb335) (o := .cells #[.bool a0_0, .slice A0_1 l0_1.length c0_1, .int .i64 a0_2] 24 (0, 0)) (by (with_reducible repeat (first | refine blk_drewN ?_ _ | refine blk_drew ?_ | refine blk_alloc ?_ _)); exact BK335.out)) : gb335 ≠ gb336)); have n6_ := Aside0.mk ((by rw [hg]; exact Nat.ne_of_gt (blk_lt (g := gb335) (o := .cells #[.bool a0_0, .slice A0_1 l0_1.length c0_1, .int .i64 a0_2] 24 (0, 0)) (by (with_reducible repeat (first | refine blk_drewN ?_ _ | refine blk_drew ?_ | refine blk_alloc ?_ _)); exact BK335.out)) : gb336 ≠ gb335)); clear BK335; clear HB; have BK335 := n0_; have HB := n1_; have BK336 := n2_; have GW336 := n3_; have GE336 := n4_; have NB335_336 := n5_; have NB336_335 := n6_; clear n0_ n1_ n2_ n3_ n4_ n5_ n6_; clear hb hbox hg; have hnb13 := NB335_336.out; have hnc13 := NB336_335.out; have hcz14_0 : w12.cell? ⟨gb335, 0, none⟩ = some (.bool a0_0) := (blk_cell BK335.out 0).trans rfl; have hcz14_1 : w12.cell? ⟨gb335, 1, none⟩ = some (.slice A0_1 l0_1.length c0_1) := (blk_cell BK335.out 1).trans rfl; have hcz14_2 : w12.cell? ⟨gb335, 2, none⟩ = some (.int .i64 a0_2) := (blk_cell BK335.out 2).trans rfl; have hfz14_0 := blk_frozen BK335.out 0; have hfz14_1 := blk_frozen BK335.out 1; have hfz14_2 := blk_frozen BK335.out 2; have hcz15_0 : w12.cell? ⟨gb336, 0, none⟩ = some (.bool a1_0) := (blk_cell BK336.out 0).trans rfl; have hcz15_1 : w12.cell? ⟨gb336, 1, none⟩ = some (.slice A1_1 l1_1.length c1_1) := (blk_cell BK336.out 1).trans rfl; have hcz15_2 : w12.cell? ⟨gb336, 2, none⟩ = some (.int .i64 a1_2) := (blk_cell BK336.out 2).trans rfl; have hfz15_0 := blk_frozen BK336.out 0; have hfz15_1 := blk_frozen BK336.out 1; have hfz15_2 := blk_frozen BK336.out 2))
      go_ret
      exact ⟨by first | rfl | (simp [errW_none, errW_some] <;> rfl) | (simp [*, errW_none, errW_some] <;> rfl), by repeat (first | (with_reducible first | exact HB.out | apply below_alloc | apply pw_below_drewN | apply below_drew1 | refine below_set ?_ GE335.out | refine below_set ?_ GE336.out) | exact HB.out)⟩
  · rw [if_neg c3] at H
    have c3b0 : (a0_0 == a1_0) = false := by simpa using c3
    (try (have c3b1 : decide (a0_0 = a1_0) = false := by simpa using c3))
    (try (have c3b2 : (a0_0 == a1_0) = false := by simpa using c3))
    (try (have c3b3 : ¬ (a0_0 = a1_0) := by simpa using c3))
    clear c3
    obtain rfl := Option.some.inj H
    go_enter Tryz.func11, Tryz.ntmps11
    go_wp2_with (first | ((with_reducible refine gate_dst (N := 2) rfl ?_); refine box_event ?hg (N := 2) ?hd (cs := #[.bool a0_0, .slice A0_1 l0_1.length c0_1, .int .i64 a0_2]) (t := 24) ?hr ?_; (case hd => rfl); (case hg => rfl); (case hr => first | (go_simp; done) | (go_simp; rfl)); intro gb335 hg w16 hbox hb; have n0_ := Aside0.mk (below_step (by repeat (first | (with_reducible first | exact HB.out | apply below_alloc | apply pw_below_drewN | apply below_drew1) | exact HB.out)) hb); have n1_ := Aside0.mk (hbox); have n2_ := Aside0.mk ((by rw [hg]; exact (below_size (by repeat (first | (with_reducible first | exact HB.out | apply below_alloc | apply pw_below_drewN | apply below_drew1) | exact HB.out))) : w.heap.size ≤ gb335)); have n3_ := Aside0.mk ((by rw [hg]; exact (below_size (by repeat (first | (with_reducible first | exact HB.out | apply below_alloc | apply pw_below_drewN | apply below_drew1) | exact HB.out))) : w.heap.size ≤ gb335)); clear HB; have HB := n0_; have BK335 := n1_; have GW335 := n2_; have GE335 := n3_; clear n0_ n1_ n2_ n3_; clear hb hbox hg) | ((with_reducible refine gate_dst (N := 3) rfl ?_); refine box_event ?hg (N := 3) ?hd (cs := #[.bool a1_0, .slice A1_1 l1_1.length c1_1, .int .i64 a1_2]) (t := 24) ?hr ?_; (case hd => rfl); (case hg => rfl); (case hr => first | (go_simp; done) | (go_simp; rfl)); intro gb336 hg w17 hbox hb; have n0_ := Aside0.mk (blk_below (g := gb335) (o := .cells #[.bool a0_0, .slice A0_1 l0_1.length c0_1, .int .i64 a0_2] 24 (0, 0)) (by (with_reducible repeat (first | refine blk_drewN ?_ _ | refine blk_drew ?_ | refine blk_alloc ?_ _)); exact BK335.out) hb); have n1_ := Aside0.mk (below_step (by repeat (first | (with_reducible first | exact HB.out | apply below_alloc | apply pw_below_drewN | apply below_drew1 | refine below_set ?_ GE335.out) | exact HB.out)) hb); have n2_ := Aside0.mk (hbox); have n3_ := Aside0.mk ((by rw [hg]; exact (below_size (by repeat (first | (with_reducible first | exact HB.out | apply below_alloc | apply pw_below_drewN | apply below_drew1 | refine below_set ?_ GE335.out) | exact HB.out))) : w.heap.size ≤ gb336)); have n4_ := Aside0.mk ((by rw [hg]; exact (below_size (by repeat (first | (with_reducible first | exact HB.out | apply below_alloc | apply pw_below_drewN | apply below_drew1 | refine below_set ?_ GE335.out) | exact HB.out))) : w.heap.size ≤ gb336)); have n5_ := Aside0.mk ((by rw [hg]; exact Nat.ne_of_lt (blk_lt (g := gb335) (o := .cells #[.bool a0_0, .slice A0_1 l0_1.length c0_1, .int .i64 a0_2] 24 (0, 0)) (by (with_reducible repeat (first | refine blk_drewN ?_ _ | refine blk_drew ?_ | refine blk_alloc ?_ _)); exact BK335.out)) : gb335 ≠ gb336)); have n6_ := Aside0.mk ((by rw [hg]; exact Nat.ne_of_gt (blk_lt (g := gb335) (o := .cells #[.bool a0_0, .slice A0_1 l0_1.length c0_1, .int .i64 a0_2] 24 (0, 0)) (by (with_reducible repeat (first | refine blk_drewN ?_ _ | refine blk_drew ?_ | refine blk_alloc ?_ _)); exact BK335.out)) : gb336 ≠ gb335)); clear BK335; clear HB; have BK335 := n0_; have HB := n1_; have BK336 := n2_; have GW336 := n3_; have GE336 := n4_; have NB335_336 := n5_; have NB336_335 := n6_; clear n0_ n1_ n2_ n3_ n4_ n5_ n6_; clear hb hbox hg; have hnb18 := NB335_336.out; have hnc18 := NB336_335.out; have hcz19_0 : w17.cell? ⟨gb335, 0, none⟩ = some (.bool a0_0) := (blk_cell BK335.out 0).trans rfl; have hcz19_1 : w17.cell? ⟨gb335, 1, none⟩ = some (.slice A0_1 l0_1.length c0_1) := (blk_cell BK335.out 1).trans rfl; have hcz19_2 : w17.cell? ⟨gb335, 2, none⟩ = some (.int .i64 a0_2) := (blk_cell BK335.out 2).trans rfl; have hfz19_0 := blk_frozen BK335.out 0; have hfz19_1 := blk_frozen BK335.out 1; have hfz19_2 := blk_frozen BK335.out 2; have hcz20_0 : w17.cell? ⟨gb336, 0, none⟩ = some (.bool a1_0) := (blk_cell BK336.out 0).trans rfl; have hcz20_1 : w17.cell? ⟨gb336, 1, none⟩ = some (.slice A1_1 l1_1.length c1_1) := (blk_cell BK336.out 1).trans rfl; have hcz20_2 : w17.cell? ⟨gb336, 2, none⟩ = some (.int .i64 a1_2) := (blk_cell BK336.out 2).trans rfl; have hfz20_0 := blk_frozen BK336.out 0; have hfz20_1 := blk_frozen BK336.out 1; have hfz20_2 := blk_frozen BK336.out 2))
    go_ret
    exact ⟨by first | rfl | (simp [errW_none, errW_some] <;> rfl) | (simp [*, errW_none, errW_some] <;> rfl), by repeat (first | (with_reducible first | exact HB.out | apply below_alloc | apply pw_below_drewN | apply below_drew1 | refine below_set ?_ GE335.out | refine below_set ?_ GE336.out) | exact HB.out)⟩
end Go.Proofs.YtflhdplfkpdejaaGreatFmt.F
namespace Go.Proofs.YtflhdplfkpdejaaGreatFmt
open Go.RowKit Go.Proofs.YtflhdplfkpdejaaGreatFmtW.PrintWords
theorem Only.of_drawn {w w' : World} (h : Drawn0 w w') : Only w w' (fun _ => False) := by
  obtain ⟨n, rfl⟩ := h.out
  exact (Only.refl _ _).drewN n
theorem kd_ints {w : World} {A : Option Addr} {ds : List Int} (h : ReadsInt w .i64 A ds.length ds) : Kd.C (Kd.int .i64) w A ds.length ds := by
  refine Kd.C_of_reads (d := 0) ⟨h.1, h.2.1, fun hn => ?_⟩
  obtain ⟨ad, e, hc⟩ := h.2.2 hn
  exact ⟨ad, e, fun j hj => hc j hj⟩
def digB (d : Int) : Bool := decide (0 ≤ d) && decide (d < 1073741824)
theorem digB_yes {d : Int} (h0 : ¬ d < 0) (h1 : ¬ d ≥ 1073741824) : digB d = true := by
  rw [digB, decide_eq_true (show 0 ≤ d by omega), decide_eq_true (show d < 1073741824 by omega)]; rfl
theorem digB_low {d : Int} (h0 : d < 0) : digB d = false := by
  rw [digB, decide_eq_false (show ¬ 0 ≤ d by omega)]; rfl
theorem digB_high {d : Int} (h0 : d ≥ 1073741824) : digB d = false := by
  rw [digB, decide_eq_false (show ¬ d < 1073741824 by omega), Bool.and_false]
def vB (neg : Bool) (ds : List Int) (e : Int) : Bool :=
  if ds.length = 0 then !neg && e == 0
  else ds.all digB && decide (ds.length ≤ 2000) && !(ds.getD (ds.length - 1) 0 == 0) && ds.getD 0 0 % 2 == 1 && decide (-1048576 ≤ e) && decide (e ≤ 1048576)
theorem all_digs {ds : List Int} : ds.all digB = true ↔ Digs ds := by
  rw [List.all_eq_true]
  constructor
  · intro h d hd
    have := h d hd
    simpa [digB] using this
  · intro h d hd
    simpa [digB] using h d hd
theorem wrap_near (n : Nat) (h : n < 4611686018427387904) : wrap64 ((n : Int) + 1) = ((n + 1 : Nat) : Int) := by
  rw [IntWalk.wrap64_in _ ⟨by omega, by omega⟩]; rfl
theorem rd_at (ds : List Int) (n : Nat) : rd ds (n : Int) = ds.getD n 0 := by simp [rd]
theorem digits_l0 (ds : List Int) (hl : ds.length < 4611686018427387904) : ∀ (k i : Nat), i ≤ ds.length → ds.length - i < k → F.exact_digits.l0 k ds ds (ds.length : Int) (i : Int) = some ((ds.drop i).all digB && decide (ds.length ≤ 2000))
  | 0, i, _, h => by omega
  | k + 1, i, hi, h => by
    unfold F.exact_digits.l0
    by_cases hlt : i < ds.length
    · rw [if_pos (by omega), if_pos (by omega), if_pos (by omega), drop_cons ds i hlt, rd_at, List.all_cons]
      by_cases h0 : ds.getD i 0 < 0
      · rw [if_pos h0]
        rw [digB_low h0]; rfl
      · rw [if_neg h0]
        by_cases h1 : ds.getD i 0 ≥ 1073741824
        · rw [if_pos h1]
          rw [digB_high h1]; rfl
        · rw [if_neg h1, wrap_near i (by omega), digits_l0 ds hl k (i + 1) (by omega) (by omega)]
          rw [digB_yes h0 h1]; rfl
    · rw [if_neg (by omega), List.drop_of_length_le (by omega), List.all_nil, Bool.true_and]
      exact congrArg some (decide_eq_decide.2 (by omega))
theorem and_one (d : Int) (h0 : 0 ≤ d) (h1 : d < 1073741824) : Go.bits .and .i64 d 1 = d % 2 := by
  obtain ⟨x, rfl⟩ : ∃ x : Nat, d = x := ⟨d.toNat, by omega⟩
  have h := bits_mask .i64 63 (by decide) (fun n h0 h1 => by rw [IntKind.wrap_i64]; omega) 1 (by decide) (x : Int) (by omega) (by omega)
  simpa using h
set_option linter.unusedSimpArgs false in
theorem valid_f (neg : Bool) (ds : List Int) (e : Int) (hl : ds.length < 4611686018427387904) : F.exact_Valid.f (ds.length + 1) neg ds e = some (vB neg ds e) := by
  unfold F.exact_Valid.f vB
  by_cases h0 : ds.length = 0
  · rw [if_pos (by omega), if_pos h0]
    cases neg <;> simp
  · rw [if_neg (by omega), if_neg h0, F.exact_digits.f]
    have hd := digits_l0 ds hl (ds.length + 1) 0 (Nat.zero_le _) (by omega)
    rw [Int.natCast_zero] at hd
    rw [hd, List.drop_zero, Option.bind_some]
    have hw : wrap64 ((ds.length : Int) - 1) = ((ds.length - 1 : Nat) : Int) := by
      rw [IntWalk.wrap64_in _ ⟨by omega, by omega⟩]; omega
    have e0 : rd ds 0 = ds.getD 0 0 := by simp [rd]
    by_cases h1 : (ds.all digB && decide (ds.length ≤ 2000)) = true
    · rw [if_pos h1, hw, if_pos (by omega), if_pos (by omega), rd_at, e0]
      have hdg := all_digs.1 (Bool.and_eq_true_iff.1 h1).1
      have hx := hdg.at 0 (by omega)
      rw [and_one _ hx.1 hx.2, h1]
      by_cases h2 : ds.getD (ds.length - 1) 0 = 0
      · have e2 : (ds.getD (ds.length - 1) 0 == 0) = true := by rw [h2]; rfl
        rw [if_pos h2, e2]
        simp only [Bool.not_true, Bool.not_false, Bool.and_false, Bool.false_and, Bool.and_true, Bool.true_and]
      · rw [if_neg h2, if_pos (by omega)]
        have e2 : (ds.getD (ds.length - 1) 0 == 0) = false := by rw [beq_eq_false_iff_ne]; exact h2
        rw [e2]
        by_cases h3 : ds.getD 0 0 % 2 = 1
        · rw [if_pos h3, h3]
          by_cases h4 : e ≥ -1048576
          · rw [if_pos h4, decide_eq_true h4]
            simp only [Bool.not_true, Bool.not_false, Bool.and_false, Bool.false_and, Bool.and_true, Bool.true_and, beq_self_eq_true]
          · rw [if_neg h4, decide_eq_false h4]
            simp only [Bool.not_true, Bool.not_false, Bool.and_false, Bool.false_and, Bool.and_true, Bool.true_and]
        · rw [if_neg h3]
          have e3 : (ds.getD 0 0 % 2 == 1) = false := by rw [beq_eq_false_iff_ne]; exact h3
          rw [e3]
          simp only [Bool.not_true, Bool.not_false, Bool.and_false, Bool.false_and, Bool.and_true, Bool.true_and]
    · rw [if_neg h1]
      have e1 : (ds.all digB && decide (ds.length ≤ 2000)) = false := by simpa using h1
      rw [e1]
      simp only [Bool.not_true, Bool.not_false, Bool.and_false, Bool.false_and, Bool.and_true, Bool.true_and]
theorem nat_l0 (ds : List Int) (hl : ds.length < 4611686018427387904) : ∀ (k i : Nat), i ≤ ds.length → ds.length - i < k → F.pupilref1_NatValid.l0 k ds (i : Int) = some ((ds.drop i).all digB)
  | 0, i, _, h => by omega
  | k + 1, i, hi, h => by
    unfold F.pupilref1_NatValid.l0
    by_cases hlt : i < ds.length
    · rw [if_pos (by omega), if_pos (by omega), drop_cons ds i hlt, rd_at, List.all_cons]
      by_cases h0 : ds.getD i 0 < 0
      · rw [if_pos h0]
        rw [digB_low h0]; rfl
      · rw [if_neg h0]
        by_cases h1 : ds.getD i 0 ≥ 1073741824
        · rw [if_pos h1]
          rw [digB_high h1]; rfl
        · rw [if_neg h1, wrap_near i (by omega), nat_l0 ds hl k (i + 1) (by omega) (by omega)]
          rw [digB_yes h0 h1]; rfl
    · rw [if_neg (by omega), List.drop_of_length_le (by omega)]
      simp
set_option linter.unusedSimpArgs false in
theorem ref_f (neg : Bool) (ds : List Int) (e : Int) (hl : ds.length < 4611686018427387904) : F.pupilref2_Valid.f (ds.length + 2) neg ds e = some (vB neg ds e) := by
  unfold F.pupilref2_Valid.f F.pupilref1_NumValid.f vB
  by_cases h0 : ds.length = 0
  · rw [if_pos (by omega), if_pos h0]
    cases neg <;> simp
  · rw [if_neg (by omega), if_neg h0, F.pupilref1_NatValid.f]
    have hw : wrap64 ((ds.length : Int) - 1) = ((ds.length - 1 : Nat) : Int) := by
      rw [IntWalk.wrap64_in _ ⟨by omega, by omega⟩]; omega
    have e0 : rd ds 0 = ds.getD 0 0 := by simp [rd]
    have hj : ∀ b, F.pupilref1_NatValid.j0 (ds.length + 2) ds b = if b = true then some false else F.pupilref1_NatValid.l0 (ds.length + 1) ds 0 := fun b => rfl
    by_cases hlen : ds.length ≤ 2000
    · rw [if_neg (by omega), if_pos (by omega), hw, if_pos (by omega), if_pos (by omega), rd_at, hj]
      by_cases h2 : ds.getD (ds.length - 1) 0 = 0
      · have e2 : (ds.getD (ds.length - 1) 0 == 0) = true := by rw [h2]; rfl
        rw [e2]
        simp only [Bool.not_true, Bool.not_false, Bool.and_false, Bool.false_and, Bool.and_true, Bool.true_and, Option.bind_some, if_true, if_false, Bool.false_eq_true]
      · have e2 : (ds.getD (ds.length - 1) 0 == 0) = false := by rw [beq_eq_false_iff_ne]; exact h2
        have hd := nat_l0 ds hl (ds.length + 1) 0 (Nat.zero_le _) (by omega)
        rw [Int.natCast_zero] at hd
        rw [e2, if_neg (by simp), hd, List.drop_zero, Option.bind_some, decide_eq_true hlen]
        by_cases h1 : ds.all digB = true
        · rw [if_pos h1, if_pos (by omega), h1, e0]
          have hx := (all_digs.1 h1).at 0 (by omega)
          rw [Int.tmod_eq_emod_of_nonneg hx.1]
          by_cases h3 : ds.getD 0 0 % 2 = 1
          · rw [if_pos h3, h3]
            by_cases h4 : e ≥ -1048576
            · rw [if_pos h4, decide_eq_true h4]
              simp only [Bool.not_true, Bool.not_false, Bool.and_false, Bool.false_and, Bool.and_true, Bool.true_and, Option.bind_some, if_true, if_false, Bool.false_eq_true, beq_self_eq_true]
            · rw [if_neg h4, decide_eq_false h4]
              simp only [Bool.not_true, Bool.not_false, Bool.and_false, Bool.false_and, Bool.and_true, Bool.true_and, Option.bind_some, if_true, if_false, Bool.false_eq_true]
          · rw [if_neg h3]
            have e3 : (ds.getD 0 0 % 2 == 1) = false := by rw [beq_eq_false_iff_ne]; exact h3
            rw [e3]
            simp only [Bool.not_true, Bool.not_false, Bool.and_false, Bool.false_and, Bool.and_true, Bool.true_and, Option.bind_some, if_true, if_false, Bool.false_eq_true]
        · rw [if_neg h1]
          have e1 : ds.all digB = false := by simpa using h1
          rw [e1]
          simp only [Bool.not_true, Bool.not_false, Bool.and_false, Bool.false_and, Bool.and_true, Bool.true_and, Option.bind_some, if_true, if_false, Bool.false_eq_true]
    · rw [if_pos (by omega), hj, decide_eq_false hlen]
      simp
theorem valid_calls (neg : Bool) (A : Option Addr) (c : Nat) (ds : List Int) (e : Int) (w : World) (hr : ReadsInt w .i64 A ds.length ds) (hc : ds.length ≤ c) (hl : ds.length < 4611686018427387904) :
    Calls Tryz.prog 17 #[.agg #[.bool neg, .slice A ds.length c, .int .i64 e]] w fun en w' => en = .returned (.bool (vB neg ds e)) ∧ Only w w' (fun _ => False) :=
  (F.exact_Valid.calls (ds.length + 1) neg A c ds e (vB neg ds e) w (kd_ints hr) hc (valid_f neg ds e hl)).mono fun _ _ ⟨h1, h2⟩ => ⟨h1, Only.of_below h2⟩
theorem refValid_calls (neg : Bool) (A : Option Addr) (c : Nat) (ds : List Int) (e : Int) (w : World) (hr : ReadsInt w .i64 A ds.length ds) (hc : ds.length ≤ c) (hl : ds.length < 4611686018427387904) :
    Calls Tryz.prog 13 #[.agg #[.bool neg, .slice A ds.length c, .int .i64 e]] w fun en w' => en = .returned (.bool (vB neg ds e)) ∧ Only w w' (fun _ => False) :=
  (F.pupilref2_Valid.calls (ds.length + 2) neg A c ds e (vB neg ds e) w (kd_ints hr) hc (ref_f neg ds e hl)).mono fun _ _ ⟨h1, h2⟩ => ⟨h1, Only.of_below h2⟩
theorem vB_some {neg : Bool} {ds : List Int} {e : Int} (h : vB neg ds e = true) (h0 : ds.length ≠ 0) : Nm ds ∧ ds.length ≤ 2000 ∧ ds.getD 0 0 % 2 = 1 ∧ -1048576 ≤ e ∧ e ≤ 1048576 := by
  rw [vB, if_neg h0] at h
  simp only [Bool.and_eq_true, decide_eq_true_eq, Bool.not_eq_true', beq_eq_false_iff_ne, beq_iff_eq] at h
  obtain ⟨⟨⟨⟨⟨h1, h2⟩, h3⟩, h4⟩, h5⟩, h6⟩ := h
  exact ⟨⟨all_digs.1 h1, fun _ => h3⟩, h2, h4, h5, h6⟩
theorem vB_none {neg : Bool} {ds : List Int} {e : Int} (h : vB neg ds e = true) (h0 : ds.length = 0) : neg = false ∧ e = 0 := by
  rw [vB, if_pos h0] at h
  simpa using h
end Go.Proofs.YtflhdplfkpdejaaGreatFmt
namespace Go.Proofs.YtflhdplfkpdejaaGreatFmt
open Go.RowKit Go.Proofs.YtflhdplfkpdejaaGreatFmtW.PrintWords
theorem reads_only {w w1 : World} {S : Nat → Prop} {k : IntKind} {A : Option Addr} {n : Nat} {xs : List Int} (h : ReadsInt w k A n xs) (hw : Only w w1 S) (hs : ∀ ad, A = some ad → ¬ S ad.block) : ReadsInt w1 k A n xs :=
  ⟨h.1, h.2.1, fun hn => by
    obtain ⟨ad, e, hc⟩ := h.2.2 hn
    refine ⟨ad, e, fun j hj => ?_⟩
    have hb : (ad.add j).block = ad.block := by unfold Addr.add; split <;> rfl
    refine (World.cell?_of_block (hw.kept _ (World.block_lt_of_cell? w _ (hc j hj)) ?_)).trans (hc j hj)
    rw [hb]; exact hs ad e⟩
theorem num62 : (Tryz.prog.info? 62).map (fun i => (i.zero, i.size, i.bytes)) = some (some (.agg #[.pointer none, .int .i64 0]), 2, 16) := by kernel_rfl
theorem make_nums (n : Nat) (w : World) (hm : n < 1099511627776) :
    (Instr.makeSlice 64 (.int .i64 (n : Int)) (.int .i64 (n : Int))).run Tryz.prog w = .ok (.slice (some ⟨w.heap.size, 0, none⟩) n n) (w.alloc (.cells (madeCells (Value.agg #[.pointer none, .int .i64 0]).cells (n * 2)) 62)) := by
  obtain ⟨i, hi, h2⟩ := Option.map_eq_some_iff.1 num62
  simp only [Prod.mk.injEq] at h2
  obtain ⟨hz, hs, hb⟩ := h2
  have := run_make (P := Tryz.prog) w 64 62 i (.agg #[.pointer none, .int .i64 0]) Tryz.underlying64 hi hz .i64 .i64 (n : Int) (n : Int) (by omega) (by omega) (by rw [hb]; omega) (by omega)
  rw [this, Int.toNat_natCast, hs]
theorem made2 : madeCells #[Value.pointer none, .int .i64 0] 2 = #[.pointer none, .int .i64 0] := by
  apply Array.ext
  · simp [madeCells]
  · intro i h1 h2
    have : i = 0 ∨ i = 1 := by simp at h2; omega
    rcases this with rfl | rfl <;> simp [madeCells]
theorem made4 : madeCells #[Value.pointer none, .int .i64 0] 4 = #[.pointer none, .int .i64 0, .pointer none, .int .i64 0] := by
  apply Array.ext
  · simp [madeCells]
  · intro i h1 h2
    have : i = 0 ∨ i = 1 ∨ i = 2 ∨ i = 3 := by simp at h2; omega
    rcases this with rfl | rfl | rfl | rfl <;> simp [madeCells]
theorem New.far {B B' : Nat} {w w' : World} {S : Nat → Prop} {g : Nat} {z : Int} (h : New B w g z) (hB : B' ≤ B) (hw : Only w w' S) (hS : ∀ k, S k → k < B) : New B' w' g z := by
  obtain ⟨o, hi, hg, ho⟩ := h
  exact ⟨o, hi.only hw (fun e => by have := hS g e; omega) (fun b hb e => by have := hS b e; have := ho b hb; omega), by omega, fun b hb => by have := ho b hb; omega⟩
def numCells (neg : Bool) (A : Option Addr) (n c : Nat) (e : Int) : Array Value := #[.bool neg, .slice A n c, .int .i64 e]
set_option maxRecDepth 100000 in
set_option maxHeartbeats 4000000 in
theorem open1_bad (b : Nat) (neg : Bool) (A : Option Addr) (c : Nat) (ds : List Int) (e : Int) (w : World) (hb : w.heap[b]? = some (.cells (numCells neg A ds.length c e) 24 (0, 0))) (hr : ReadsInt w .i64 A ds.length ds) (hc : ds.length ≤ c) (hl : ds.length < 4611686018427387904) (hv : vB neg ds e = false) :
    Calls Tryz.prog 30 #[.slice (some ⟨b, 0, none⟩) 1 1] w fun en w' => en = gaveUp 7 ∧ Only w w' (fun _ => False) := by
  have hmk : ∀ w, (Instr.makeSlice 64 (.int .i64 1) (.int .i64 1)).run Tryz.prog w = .ok (.slice (some ⟨w.heap.size, 0, none⟩) 1 1) (w.alloc (.cells (madeCells (Value.agg #[.pointer none, .int .i64 0]).cells 2) 62)) := fun w => make_nums 1 w (by omega)
  have c0 : w.cell? ⟨b, 0, none⟩ = some (.bool neg) := blk_cell hb 0
  have c1 : w.cell? ⟨b, 1, none⟩ = some (.slice A ds.length c) := blk_cell hb 1
  have c2 : w.cell? ⟨b, 2, none⟩ = some (.int .i64 e) := blk_cell hb 2
  have hlt : b < w.heap.size := blk_lt hb
  go_enter Tryz.func30, Tryz.ntmps30
  go_wp2_with fail
  refine wp_loop_rounds 1 ?_
  rw [rounds_succ]
  go_wp2_with fail
  refine (valid_calls neg A c ds e _ (reads_only hr (((Only.refl w (fun _ => False)).alloc _).alloc _) (fun _ _ h => h)) hc hl).mono ?_
  rw [hv]
  rintro en w1 ⟨rfl, ho⟩
  go_wp2_with fail
  exact ⟨rfl, rfl, (((Only.refl w (fun _ => False)).alloc _).alloc _).trans ho⟩
def sval (neg : Bool) (ds : List Int) : Int := if neg then -val ds else val ds
theorem vB_digs {neg : Bool} {ds : List Int} {e : Int} (h : vB neg ds e = true) : Digs ds ∧ ds.length ≤ 2000 ∧ -1048576 ≤ e ∧ e ≤ 1048576 := by
  by_cases h0 : ds.length = 0
  · obtain ⟨_, rfl⟩ := vB_none h h0
    have : ds = [] := List.length_eq_zero_iff.1 h0
    subst this
    exact ⟨fun d hd => by simp at hd, by simp, by omega, by omega⟩
  · obtain ⟨h1, h2, _, h3, h4⟩ := vB_some h h0
    exact ⟨h1.1, h2, h3, h4⟩
set_option maxRecDepth 100000 in
set_option maxHeartbeats 4000000 in
theorem open1_ok (b : Nat) (neg : Bool) (A : Option Addr) (c : Nat) (ds : List Int) (e : Int) (w : World) (hb : w.heap[b]? = some (.cells (numCells neg A ds.length c e) 24 (0, 0))) (hr : ReadsInt w .i64 A ds.length ds) (hc : ds.length ≤ c) (hv : vB neg ds e = true) :
    Calls Tryz.prog 30 #[.slice (some ⟨b, 0, none⟩) 1 1] w fun en w' => en = .returned (.slice (some ⟨w.heap.size, 0, none⟩) 1 1) ∧ Only w w' (fun _ => False) ∧ ∃ g, w'.heap[w.heap.size]? = some (.cells #[.pointer (some ⟨g, 0, none⟩), .int .i64 e] 62 (0, 0)) ∧ New w.heap.size w' g (sval neg ds) := by
  obtain ⟨hdg, hlen, _, _⟩ := vB_digs hv
  have hmk : ∀ w, (Instr.makeSlice 64 (.int .i64 1) (.int .i64 1)).run Tryz.prog w = .ok (.slice (some ⟨w.heap.size, 0, none⟩) 1 1) (w.alloc (.cells (madeCells (Value.agg #[.pointer none, .int .i64 0]).cells 2) 62)) := fun w => make_nums 1 w (by omega)
  have c0 : w.cell? ⟨b, 0, none⟩ = some (.bool neg) := blk_cell hb 0
  have c1 : w.cell? ⟨b, 1, none⟩ = some (.slice A ds.length c) := blk_cell hb 1
  have c2 : w.cell? ⟨b, 2, none⟩ = some (.int .i64 e) := blk_cell hb 2
  have hlt : b < w.heap.size := blk_lt hb
  have HV := Lib.hid hv
  go_enter Tryz.func30, Tryz.ntmps30
  go_wp2_with fail
  refine wp_loop_rounds 2 ?_
  rw [rounds_succ]
  go_wp2_with fail
  obtain ⟨w1, hw1⟩ : ∃ w1 : World, w1 = (w.alloc (.cells (madeCells #[.pointer none, .int .i64 0] 2) 62)).alloc (.cells (numCells neg A ds.length c e) 24) := ⟨_, rfl⟩
  have ho1 : Only w w1 (fun _ => False) := by rw [hw1]; exact ((Only.refl w _).alloc _).alloc _
  have hO : w1.heap[w.heap.size]? = some (.cells (madeCells #[.pointer none, .int .i64 0] 2) 62 (0, 0)) := by rw [hw1]; exact heap_two' w _ _
  have hX : w1.heap[w.heap.size + 1]? = some (.cells (numCells neg A ds.length c e) 24 (0, 0)) := by rw [hw1]; exact heap_two w _ _
  have hsz1 : w.heap.size + 2 = w1.heap.size := by rw [hw1]; simp
  have HS := Lib.hid hsz1
  clear hsz1
  change Calls _ _ _ ((w.alloc (.cells (madeCells #[.pointer none, .int .i64 0] 2) 62)).alloc (.cells (numCells neg A ds.length c e) 24)) _
  rw [← hw1]
  clear hw1 c0 c1 c2
  refine (valid_calls neg A c ds e w1 (reads_only hr ho1 (fun _ _ h => h)) hc (by omega)).mono ?_
  rw [HV.out]
  rintro en w2 ⟨rfl, ho2⟩
  have hO2 := (ho2.kept _ (blk_lt hO) (fun h => h)).trans hO
  have hX2 := (ho2.kept _ (blk_lt hX) (fun h => h)).trans hX
  have x0 : w2.cell? ⟨w.heap.size + 1, 0, none⟩ = some (.bool neg) := blk_cell hX2 0
  have x1 : w2.cell? ⟨w.heap.size + 1, 1, none⟩ = some (.slice A ds.length c) := blk_cell hX2 1
  have x2 : w2.cell? ⟨w.heap.size + 1, 2, none⟩ = some (.int .i64 e) := blk_cell hX2 2
  have hr2 := reads_only hr (ho1.trans ho2) (fun _ _ h => h)
  have K : ∀ w3, Only w2.drew w3 (fun _ => False) → w3.cell? ⟨w.heap.size + 1, 0, none⟩ = some (.bool neg) ∧ w3.cell? ⟨w.heap.size + 1, 1, none⟩ = some (.slice A ds.length c) ∧ w3.cell? ⟨w.heap.size + 1, 2, none⟩ = some (.int .i64 e) ∧ w3.cell? ⟨w.heap.size, 0, none⟩ = some (.pointer none) ∧ w3.cell? ⟨w.heap.size, 1, none⟩ = some (.int .i64 0) ∧ w3.frozen? ⟨w.heap.size, 0, none⟩ = false ∧ w3.frozen? ⟨w.heap.size, 1, none⟩ = false ∧ w3.heap[w.heap.size]? = some (.cells #[.pointer none, .int .i64 0] 62 (0, 0)) := fun w3 h => by
    have h1 := (h.kept _ (blk_lt hO2) (fun h => h)).trans hO2
    rw [made2] at h1
    have h2 := (h.kept _ (blk_lt hX2) (fun h => h)).trans hX2
    exact ⟨blk_cell h2 0, blk_cell h2 1, blk_cell h2 2, blk_cell h1 0, blk_cell h1 1, blk_frozen h1 0, blk_frozen h1 1, h1⟩
  have HK := Lib.hid K
  have hW := whole_calls neg A c ds w2.drew (reads_only hr2 (Only.refl _ (fun _ => False)).drew (fun _ _ h => h)) hdg (by omega)
  have HW := Lib.hid hW
  have hsz : w.heap.size < w2.heap.size := blk_lt hO2
  clear K hW
  go_wp2_with fail
  go_region_held3 (fun w' => w'.cell? ⟨w.heap.size + 1, 0, none⟩ = some (.bool neg) ∧ w'.cell? ⟨w.heap.size + 1, 1, none⟩ = some (.slice A ds.length c) ∧ w'.cell? ⟨w.heap.size + 1, 2, none⟩ = some (.int .i64 e)) (first | go_keep | (refine ⟨?_, ?_, ?_⟩ <;> assumption))
    (first | (go_at_call 28; refine HW.out.mono ?_; rintro en w3 ⟨g, rfl, hg, ho3⟩; obtain ⟨y0, y1, y2, o0, o1, f0, f1, hO3⟩ := HK.out _ ho3))
  all_goals
    go_wp2_with fail
    rw [rounds_succ]
    go_wp2_with fail
    go_ret
    have hO4 := blk_set (blk_set hO3 0 (.pointer (some ⟨g, 0, none⟩))) 1 (.int .i64 e)
    refine ⟨rfl, (((ho1.trans ho2).drew.trans ho3).set (.inl (Nat.le_refl _)) _).set (.inl (Nat.le_refl _)) _, g, ?_, ?_⟩
    · simpa using hO4
    · refine hg.far (Nat.le_of_lt hsz) (S := fun k => k = w.heap.size) (((Only.refl w3 (fun k => k = w.heap.size)).set (.inr rfl) _).set (.inr rfl) _) ?_
      rintro k rfl
      exact hsz
end Go.Proofs.YtflhdplfkpdejaaGreatFmt
namespace Go.Proofs.YtflhdplfkpdejaaGreatFmt
open Go.RowKit Go.Proofs.YtflhdplfkpdejaaGreatFmtW.PrintWords
set_option maxRecDepth 100000 in
set_option maxHeartbeats 2000000 in
theorem caught_idle (p : Addr) (w : World) :
    CallsD Tryz.prog 25 #[.pointer (some p)] .returning w fun e u' w' => e = .returned (.tuple #[]) ∧ u' = .returning ∧ w' = w := by
  refine callsD_of_wpS Tryz.func25 rfl fun c₀ cs hu => ?_
  apply wpS_seq
  apply wpS_region
  simp [wpOpsS, go_sem, recoverD, hu, Tryz.ntmps25, Exit.thenS]
  apply wpS_seq
  apply wpS_seq
  apply wpS_region
  simp [wpOpsS, go_sem, Exit.thenS]
  refine wpS_cond (t := true) (by simp [Act.eval, Array.replicate]) ?_
  simp only [if_true]
  refine wpS_of_wp (wp_ret ?_)
  cases c₀
  simp_all [bodyPostS, results, Tryz.results25, Exit.thenS]
set_option maxRecDepth 100000 in
set_option maxHeartbeats 2000000 in
theorem caught_some (E : Nat) (n x : Int) (older : List PanicEntry) (w : World) (hc : w.cell? ⟨E, 0, none⟩ = some (.int .i64 x)) (hz : w.frozen? ⟨E, 0, none⟩ = false) :
    CallsD Tryz.prog 25 #[.pointer (some ⟨E, 0, none⟩)] (.panicking ({ v := .iface 57 (.agg #[.int .i64 n]), recovered := false } :: older)) w fun e u' w' =>
      e = .returned (.tuple #[]) ∧ u' = .panicking ({ v := .iface 57 (.agg #[.int .i64 n]), recovered := true } :: older) ∧ w' = (w.alloc (.cells #[.int .i64 n] 57)).setCell ⟨E, 0, none⟩ (.int .i64 n) := by
  have hlt : E < w.heap.size := World.block_lt_of_cell? w _ hc
  have hne : ¬ E = w.heap.size := by omega
  refine callsD_of_wpS Tryz.func25 rfl fun c₀ cs hu => ?_
  apply wpS_seq
  apply wpS_region
  simp [wpOpsS, go_sem, recoverD, hu, Tryz.ntmps25, Exit.thenS]
  apply wpS_seq
  apply wpS_seq
  apply wpS_region
  simp [wpOpsS, go_sem, Exit.thenS]
  refine wpS_cond (t := false) (by simp [Act.eval, Array.replicate]) ?_
  simp only [Bool.false_eq_true, if_false]
  refine wpS_of_wp (wp_skip ?_)
  simp only [Exit.thenS]
  refine wpS_of_wp (Code.wp_mono (Q := fun e a w' => e = .normal ∧ a.defers = [] ∧ w' = (w.alloc (.cells #[.int .i64 n] 57)).setCell ⟨E, 0, none⟩ (.int .i64 n)) ?_ ?_)
  · rintro e a w' ⟨rfl, hd, rfl⟩
    cases c₀
    simp_all [bodyPostS, results, Tryz.results25]
  · clear hu
    have hta : ∀ w, (Instr.typeAssert (.iface 57 (.agg #[.int .i64 n])) 20 57 true).run Tryz.prog w = .ok (.tuple #[.agg #[.int .i64 n], .bool true]) w := fun w => by kernel_rfl
    have et : (#[Value.pointer (some ⟨E, 0, none⟩)] ++ ((((Array.replicate 19 undef).setIfInBounds 4 (Value.iface 57 (.agg #[.int .i64 n]))).setIfInBounds 1 (.iface 57 (.agg #[.int .i64 n]))).setIfInBounds 5 (.iface 57 (.agg #[.int .i64 n]))).setIfInBounds 6 (.bool false)) = #[.pointer (some ⟨E, 0, none⟩), undef, .iface 57 (.agg #[.int .i64 n]), undef, undef, .iface 57 (.agg #[.int .i64 n]), .iface 57 (.agg #[.int .i64 n]), .bool false, undef, undef, undef, undef, undef, undef, undef, undef, undef, undef, undef, undef] := by rfl
    rw [et]
    clear et
    go_wp2_with fail
end Go.Proofs.YtflhdplfkpdejaaGreatFmt
namespace Go.Proofs.YtflhdplfkpdejaaGreatFmt
open Go.RowKit Go.Proofs.YtflhdplfkpdejaaGreatFmtW.PrintWords
theorem results_num {fn : Func} {p q : Tmp} (h : fn.results = #[.cell p 24, .cell q 32]) (tmps : Array Value) (w : World) (Y E : Nat) (a b c : Value) (n : Int)
    (hp : tmps.getD p undef = .pointer (some ⟨Y, 0, none⟩)) (hg : w.heap[Y]? = some (.cells #[a, b, c] 24 (0, 0))) (hq : tmps.getD q undef = .pointer (some ⟨E, 0, none⟩)) (hv : w.cell? ⟨E, 0, none⟩ = some (.int .i64 n)) :
    (results fn tmps).run Tryz.prog w = .ok (.tuple #[.agg #[a, b, c], .int .i64 n]) w := by
  have hp' : tmps[p]?.getD undef = .pointer (some ⟨Y, 0, none⟩) := by simpa using hp
  have hq' : tmps[q]?.getD undef = .pointer (some ⟨E, 0, none⟩) := by simpa using hq
  have h0 : w.cell? ⟨Y, 0, none⟩ = some a := blk_cell hg 0
  have h1 : w.cell? ⟨Y, 1, none⟩ = some b := blk_cell hg 1
  have h2 : w.cell? ⟨Y, 2, none⟩ = some c := blk_cell hg 2
  simp [results, h, hp', hq', asAddr, go_sem, h0, h1, h2, hv]
theorem heap_three (w : World) (a b c : Obj) : (((w.alloc a).alloc b).alloc c).heap[w.heap.size]? = some a ∧ (((w.alloc a).alloc b).alloc c).heap[w.heap.size + 1]? = some b ∧ (((w.alloc a).alloc b).alloc c).heap[w.heap.size + 2]? = some c := by
  have h := heap_two (w.alloc a) b c
  have h' := heap_two' (w.alloc a) b c
  have e : (w.alloc a).heap.size = w.heap.size + 1 := by simp
  rw [e] at h h'
  refine ⟨?_, h', h⟩
  exact (Below.heap_alloc _ c w.heap.size (by simp; omega)).trans (heap_two' w a b)
def errNum (n : Int) : Ending := .returned (.tuple #[.agg #[.bool false, .slice none 0 0, .int .i64 0], .int .i64 n])
def Ans (w : World) (z e : Int) (en : Ending) (w' : World) : Prop := Only w w' (fun _ => False) ∧
  ((z = 0 ∧ en = errNum 0) ∨
    (z ≠ 0 ∧ ∃ (t k : Nat) (q : Int), ((Int.natAbs z : Nat) : Int) = q * 2 ^ t ∧ q % 2 = 1 ∧ 0 < q ∧ BLen q k ∧
      (((60000 < k ∨ e + t < -1048576 ∨ 1048576 < e + t) ∧ en = errNum 2) ∨
        (k ≤ 60000 ∧ -1048576 ≤ e + t ∧ e + t ≤ 1048576 ∧ ∃ v ds, en = .returned (.tuple #[.agg #[.bool (decide (z < 0)), v, .int .i64 (e + t)], .int .i64 0]) ∧ w'.ownsRow w.heap.size 3 1 v ds.length (nums .i64 ds) ∧ val ds = q ∧ Nm ds))))
theorem door_panic {fn : Func} {p q : Tmp} (h : fn.results = #[.cell p 24, .cell q 32]) (tmps : Array Value) (w : World) (Y E : Nat) (n : Int) (R : Ending → World → Prop)
    (hp : tmps.getD p undef = .pointer (some ⟨Y, 0, none⟩)) (hq : tmps.getD q undef = .pointer (some ⟨E, 0, none⟩)) (hY : w.heap[Y]? = some (.cells #[.bool false, .slice none 0 0, .int .i64 0] 24 (0, 0))) (hE : w.heap[E]? = some (.cells #[.int .i64 0] 32 (0, 0)))
    (hR : ∀ w', Only w w' (fun k => k = E) → R (errNum n) w') :
    Leaves Tryz.prog fn tmps R [{ target := .fn (.func 25) #[], args := #[.pointer (some ⟨E, 0, none⟩)] }] (.panicking [{ v := .iface 57 (.agg #[.int .i64 n]), recovered := false }]) w := by
  have hne : Y ≠ E := blk_ne hY hE (by decide)
  refine leaves_cons (f := 25) (args := #[.pointer (some ⟨E, 0, none⟩)]) (by simp) (by simp [go_sem]) ?_
  refine (caught_some E n 0 [] w (blk_cell hE 0) (blk_frozen hE 0)).mono ?_
  rintro e u' w' ⟨rfl, rfl, rfl⟩
  have hE1 := blk_set (blk_alloc hE (.cells #[.int .i64 n] 57)) 0 (.int .i64 n)
  have hY1 := blk_far (blk_alloc hY (.cells #[.int .i64 n] 57)) (p := ⟨E, 0, none⟩) hne (.int .i64 n)
  refine ⟨_, results_num h tmps _ Y E _ _ _ n hp hY1 hq (by simpa using blk_cell hE1 0), hR _ ?_⟩
  exact ((Only.refl w (fun k => k = E)).alloc _).set (.inr rfl) _
theorem door_ok {fn : Func} {p q : Tmp} (h : fn.results = #[.cell p 24, .cell q 32]) (tmps : Array Value) (w : World) (Y E : Nat) (a b c : Value) (n : Int) (R : Ending → World → Prop)
    (hp : tmps.getD p undef = .pointer (some ⟨Y, 0, none⟩)) (hq : tmps.getD q undef = .pointer (some ⟨E, 0, none⟩)) (hY : w.heap[Y]? = some (.cells #[a, b, c] 24 (0, 0))) (hE : w.cell? ⟨E, 0, none⟩ = some (.int .i64 n))
    (hR : R (.returned (.tuple #[.agg #[a, b, c], .int .i64 n])) w) :
    Leaves Tryz.prog fn tmps R [{ target := .fn (.func 25) #[], args := #[.pointer (some ⟨E, 0, none⟩)] }] .returning w := by
  refine leaves_cons (f := 25) (args := #[.pointer (some ⟨E, 0, none⟩)]) (by simp) (by simp [go_sem]) ?_
  refine (caught_idle ⟨E, 0, none⟩ w).mono ?_
  rintro e u' w' ⟨rfl, rfl, rfl⟩
  exact ⟨_, results_num h tmps _ Y E _ _ _ n hp hY hq hE, hR⟩
theorem heap_four (w : World) (a b c d : Obj) : ((((w.alloc a).alloc b).alloc c).alloc d).heap[w.heap.size]? = some a ∧ ((((w.alloc a).alloc b).alloc c).alloc d).heap[w.heap.size + 1]? = some b ∧ ((((w.alloc a).alloc b).alloc c).alloc d).heap[w.heap.size + 1 + 1]? = some c ∧ ((((w.alloc a).alloc b).alloc c).alloc d).heap[w.heap.size + 1 + 1 + 1]? = some d := by
  obtain ⟨h1, h2, h3⟩ := heap_three w a b c
  have e : (((w.alloc a).alloc b).alloc c).heap.size = w.heap.size + 1 + 1 + 1 := by simp
  have g : ∀ i, i < w.heap.size + 1 + 1 + 1 → ((((w.alloc a).alloc b).alloc c).alloc d).heap[i]? = (((w.alloc a).alloc b).alloc c).heap[i]? := fun i hi => Below.heap_alloc _ d i (by rw [e]; exact hi)
  refine ⟨(g _ (by omega)).trans h1, (g _ (by omega)).trans h2, (g _ (by omega)).trans h3, ?_⟩
  rw [← e]; exact heap_alloc_new _ _
set_option maxRecDepth 100000 in
set_option maxHeartbeats 4000000 in
theorem neg_bad (neg : Bool) (A : Option Addr) (c : Nat) (ds : List Int) (e : Int) (w : World) (hr : ReadsInt w .i64 A ds.length ds) (hc : ds.length ≤ c) (hl : ds.length < 4611686018427387904) (hv : vB neg ds e = false) :
    Calls Tryz.prog 14 #[.agg #[.bool neg, .slice A ds.length c, .int .i64 e]] w fun en w' => en = errNum 7 ∧ Only w w' (fun _ => False) := by
  have HV := Lib.hid hv
  have ho4 : ∀ a b c d : Obj, Only w ((((w.alloc a).alloc b).alloc c).alloc d) (fun _ => False) := fun a b c d => ((((Only.refl w _).alloc a).alloc b).alloc c).alloc d
  have HO := Lib.hid ho4
  clear hv ho4
  go_enter_defers Tryz.func14, Tryz.ntmps14
  go_wp2_with fail
  obtain ⟨h1, h2, h3, h4⟩ := heap_four w (.cells #[.bool neg, .slice A ds.length c, .int .i64 e] 24) (.cells #[.bool false, .slice none 0 0, .int .i64 0] 24) (.cells #[.int .i64 0] 32) (.cells #[.bool neg, .slice A ds.length c, .int .i64 e] 24)
  refine (open1_bad (w.heap.size + 1 + 1 + 1) neg A c ds e _ h4 (reads_only hr (HO.out _ _ _ _) (fun _ _ h => h)) hc hl HV.out).mono ?_
  rintro en w1 ⟨rfl, ho⟩
  refine door_panic rfl _ w1 (w.heap.size + 1) (w.heap.size + 1 + 1) 7 _ rfl rfl ((ho.kept _ (blk_lt h2) (fun h => h)).trans h2) ((ho.kept _ (blk_lt h3) (fun h => h)).trans h3) (fun w' hw' => ⟨rfl, ?_⟩)
  exact ((HO.out _ _ _ _).trans ho).step hw' (by rintro i hi rfl; omega)
end Go.Proofs.YtflhdplfkpdejaaGreatFmt
namespace Go.Proofs.YtflhdplfkpdejaaGreatFmt
open Go.RowKit Go.Proofs.YtflhdplfkpdejaaGreatFmtW.PrintWords
def ToldA (w : World) (z e : Int) (en : Ending) (w' : World) : Prop := Only w w' (fun _ => False) ∧
  ((z = 0 ∧ en = .returned (.agg #[.bool false, .slice none 0 0, .int .i64 0])) ∨
    (z ≠ 0 ∧ ∃ (t k : Nat) (q : Int), ((Int.natAbs z : Nat) : Int) = q * 2 ^ t ∧ q % 2 = 1 ∧ 0 < q ∧ BLen q k ∧
      (((60000 < k ∨ e + t < -1048576 ∨ 1048576 < e + t) ∧ en = gaveUp 2) ∨
        (k ≤ 60000 ∧ -1048576 ≤ e + t ∧ e + t ≤ 1048576 ∧ ∃ A ds c, en = .returned (.agg #[.bool (decide (z < 0)), .slice A ds.length c, .int .i64 (e + t)]) ∧ w'.ownsRow w.heap.size 3 1 (.slice A ds.length c) ds.length (nums .i64 ds) ∧ val ds = q ∧ Nm ds))))
theorem told_any (g : Nat) (o : Option Nat) (z e : Int) (w : World) (hi : IsInt w g o z) (hf : Fits (Int.natAbs z)) (hT : Tab w) (he : -2305843009213693952 ≤ e) (he2 : e ≤ 2305843009213693952) :
    Calls Tryz.prog 27 #[.agg #[.pointer (some ⟨g, 0, none⟩), .int .i64 e]] w (ToldA w z e) := by
  by_cases hz : z = 0
  · subst hz
    refine (told_zero g o e w hi).mono ?_
    rintro en w' ⟨rfl, h⟩
    exact ⟨h, .inl ⟨rfl, rfl⟩⟩
  · refine (told_some g o z e w hi hz hf hT he he2).mono ?_
    rintro en w' ⟨t, k, q, h1, h2, h3, h4, h5, h6⟩
    refine ⟨h5, .inr ⟨hz, t, k, q, h1, h2, h3, h4, ?_⟩⟩
    rcases h6 with h6 | ⟨a, b, c, v, ds, d, e, f⟩
    · exact .inl h6
    · obtain ⟨A, cp, rfl⟩ := own_slice e
      exact .inr ⟨a, b, c, A, ds, cp, d, e, f⟩
theorem Ans.zero {w w1 w' : World} {e : Int} (h1 : Only w w1 (fun _ => False)) (h2 : Only w1 w' (fun k => w.heap.size ≤ k)) : Ans w 0 e (errNum 0) w' :=
  ⟨h1.step h2 (fun i hi h => by omega), .inl ⟨rfl, rfl⟩⟩
theorem Ans.long {w w1 w' : World} {z e : Int} {t k : Nat} {q : Int} (hz : z ≠ 0) (a : ((Int.natAbs z : Nat) : Int) = q * 2 ^ t) (b : q % 2 = 1) (c : 0 < q) (d : BLen q k) (f : 60000 < k ∨ e + t < -1048576 ∨ 1048576 < e + t) (h1 : Only w w1 (fun _ => False)) (h2 : Only w1 w' (fun k => w.heap.size ≤ k)) : Ans w z e (errNum 2) w' :=
  ⟨h1.step h2 (fun i hi h => by omega), .inr ⟨hz, t, k, q, a, b, c, d, .inl ⟨f, rfl⟩⟩⟩
theorem Ans.some_ {w w1 w' : World} {z e : Int} {t k : Nat} {q : Int} {A : Option Addr} {ds : List Int} {cp B : Nat} (hz : z ≠ 0) (a : ((Int.natAbs z : Nat) : Int) = q * 2 ^ t) (b : q % 2 = 1) (c : 0 < q) (d : BLen q k) (f1 : k ≤ 60000) (f2 : -1048576 ≤ e + t) (f3 : e + t ≤ 1048576) (h1 : Only w w1 (fun _ => False)) (h2 : Only w1 w' (fun k => w.heap.size ≤ k)) (hown : w'.ownsRow B 3 1 (.slice A ds.length cp) ds.length (nums .i64 ds)) (hB : w.heap.size ≤ B) (hv : val ds = q) (hn : Nm ds) :
    Ans w z e (.returned (.tuple #[.agg #[.bool (decide (z < 0)), .slice A ds.length cp, .int .i64 (e + t)], .int .i64 0])) w' :=
  ⟨h1.step h2 (fun i hi h => by omega), .inr ⟨hz, t, k, q, a, b, c, d, .inr ⟨f1, f2, f3, _, ds, rfl, own_weaken hown hB, hv, hn⟩⟩⟩
theorem stored {w : World} {Y E : Nat} {x y z u : Value} (hY : w.heap[Y]? = some (.cells #[x, y, z] 24 (0, 0))) (hE : w.heap[E]? = some (.cells #[u] 32 (0, 0))) (a b c d : Value) :
    ((((w.setCell ⟨Y, 0, none⟩ a).setCell ⟨Y, 1, none⟩ b).setCell ⟨Y, 2, none⟩ c).setCell ⟨E, 0, none⟩ d).heap[Y]? = some (.cells #[a, b, c] 24 (0, 0)) ∧ ((((w.setCell ⟨Y, 0, none⟩ a).setCell ⟨Y, 1, none⟩ b).setCell ⟨Y, 2, none⟩ c).setCell ⟨E, 0, none⟩ d).cell? ⟨E, 0, none⟩ = some d ∧
      Only w ((((w.setCell ⟨Y, 0, none⟩ a).setCell ⟨Y, 1, none⟩ b).setCell ⟨Y, 2, none⟩ c).setCell ⟨E, 0, none⟩ d) (fun k => k = Y ∨ k = E) := by
  have hne : Y ≠ E := blk_ne hY hE (by decide)
  have h1 := blk_set (blk_set (blk_set hY 0 a) 1 b) 2 c
  have h2 := blk_far (blk_far (blk_far hE (p := ⟨Y, 0, none⟩) (Ne.symm hne) a) (p := ⟨Y, 1, none⟩) (Ne.symm hne) b) (p := ⟨Y, 2, none⟩) (Ne.symm hne) c
  refine ⟨?_, ?_, ?_⟩
  · simpa using blk_far h1 (p := ⟨E, 0, none⟩) hne d
  · simpa using blk_cell (blk_set h2 0 d) 0
  · exact ((((Only.refl w _).set (.inr (.inl rfl)) _).set (.inr (.inl rfl)) _).set (.inr (.inl rfl)) _).set (.inr (.inr rfl)) _
theorem own_two {w w' : World} {Y E base n : Nat} {v : Value} {xs : List Value} {cy ce : Array Value} (h : w.ownsRow base 3 1 v n xs) (hY : w.heap[Y]? = some (.cells cy 24 (0, 0))) (hE : w.heap[E]? = some (.cells ce 32 (0, 0))) (ho : Only w w' (fun k => k = Y ∨ k = E)) : w'.ownsRow base 3 1 v n xs := by
  refine own_move h (fun b hb => ho.kept b (own_lt h b hb) ?_)
  obtain ⟨cells, hc⟩ := own_typed h b hb
  rintro (rfl | rfl)
  · exact blk_ne hY hc (by decide) rfl
  · exact blk_ne hE hc (by decide) rfl
theorem Tab.only {w w' : World} (h : Tab w) (ho : Only w w' (fun _ => False)) : Tab w' := h.of (ho.kept _ h.lt (fun h => h))
theorem sval_abs (neg : Bool) {ds : List Int} (h : Digs ds) : ((Int.natAbs (sval neg ds) : Nat) : Int) = val ds := by
  have := (val_range ds h).1
  unfold sval
  cases neg <;> simp <;> omega
set_option maxRecDepth 100000 in
set_option maxHeartbeats 4000000 in
theorem neg_ok (neg : Bool) (A : Option Addr) (c : Nat) (ds : List Int) (e : Int) (w : World) (hr : ReadsInt w .i64 A ds.length ds) (hc : ds.length ≤ c) (hT : Tab w) (hv : vB neg ds e = true) :
    Calls Tryz.prog 14 #[.agg #[.bool neg, .slice A ds.length c, .int .i64 e]] w (Ans w (-sval neg ds) e) := by
  obtain ⟨hdg, hlen, he, he2⟩ := vB_digs hv
  have HV := Lib.hid hv
  have HO := Lib.hid (fun a b c d : Obj => (((((Only.refl w (fun _ => False)).alloc a).alloc b).alloc c).alloc d))
  clear hv
  go_enter_defers Tryz.func14, Tryz.ntmps14
  go_wp2_with fail
  obtain ⟨h1, h2, h3, h4⟩ := heap_four w (.cells #[.bool neg, .slice A ds.length c, .int .i64 e] 24) (.cells #[.bool false, .slice none 0 0, .int .i64 0] 24) (.cells #[.int .i64 0] 32) (.cells #[.bool neg, .slice A ds.length c, .int .i64 e] 24)
  have ho4 := HO.out (.cells #[.bool neg, .slice A ds.length c, .int .i64 e] 24) (.cells #[.bool false, .slice none 0 0, .int .i64 0] 24) (.cells #[.int .i64 0] 32) (.cells #[.bool neg, .slice A ds.length c, .int .i64 e] 24)
  generalize hw4 : ((((w.alloc (.cells #[.bool neg, .slice A ds.length c, .int .i64 e] 24)).alloc (.cells #[.bool false, .slice none 0 0, .int .i64 0] 24)).alloc (.cells #[.int .i64 0] 32)).alloc (.cells #[.bool neg, .slice A ds.length c, .int .i64 e] 24)) = w4 at *
  clear hw4
  refine (open1_ok (w.heap.size + 1 + 1 + 1) neg A c ds e w4 h4 (reads_only hr ho4 (fun _ _ h => h)) hc HV.out).mono ?_
  rintro en w5 ⟨rfl, ho5, g, hout, og, hig, hgB, hogB⟩
  have hYlt := blk_lt h2
  have hElt := blk_lt h3
  have h45 := ho5.base.size
  have hY5 := (ho5.kept _ hYlt (fun h => h)).trans h2
  have hE5 := (ho5.kept _ hElt (fun h => h)).trans h3
  have o0 : w5.cell? ⟨w4.heap.size, 0, none⟩ = some (.pointer (some ⟨g, 0, none⟩)) := blk_cell hout 0
  have o1 : w5.cell? ⟨w4.heap.size, 1, none⟩ = some (.int .i64 e) := blk_cell hout 1
  have HNG := Lib.hid (neg_int g og (sval neg ds) w5.drew (hig.only (Only.refl w5 (fun _ => False)).drew (fun h => h) (fun _ _ h => h)))
  have K : ∀ w6, Put w5.drew w6 g og (-sval neg ds) → w6.cell? ⟨w4.heap.size, 0, none⟩ = some (.pointer (some ⟨g, 0, none⟩)) ∧ w6.cell? ⟨w4.heap.size, 1, none⟩ = some (.int .i64 e) := by
    rintro w6 ⟨o', _, h, _⟩
    have hk := (h.kept w4.heap.size (blk_lt hout) (by
      obtain ⟨v, hg1, hn1⟩ := hig
      rintro (h | h)
      · exact blk_ne hout hg1 (by decide) h
      · obtain ⟨cells, hc⟩ := hn1.typed _ h
        exact blk_ne hout hc (by decide) rfl)).trans hout
    exact ⟨blk_cell hk 0, blk_cell hk 1⟩
  have HK := Lib.hid K
  clear K
  go_wp2_with fail
  go_region_held3 (fun w' => w'.cell? ⟨w4.heap.size, 0, none⟩ = some (.pointer (some ⟨g, 0, none⟩))) (first | go_keep | assumption)
    (first | (go_at_call 40; refine HNG.out.mono ?_; rintro en w6 ⟨rfl, hp6⟩; obtain ⟨k0, k1⟩ := HK.out _ hp6))
  all_goals
    obtain ⟨o6, hi6, ho6, _⟩ := hp6
    have ho46 : Only w4 w6 (fun _ => False) := (ho5.drew).step ho6 (by
      rintro i hi (h | h)
      · omega
      · have := hogB i h; omega)
    have hY6 := (ho46.kept _ hYlt (fun h => h)).trans h2
    have hE6 := (ho46.kept _ hElt (fun h => h)).trans h3
    have hfit : Fits ((Int.natAbs (-sval neg ds) : Nat) : Int) := by rw [Int.natAbs_neg, sval_abs neg hdg]; exact fits_val hdg (by omega)
    generalize -sval neg ds = Z at *
    have HTL := Lib.hid (told_any g o6 Z e w6 hi6 hfit (hT.only (ho4.trans ho46)) (by omega) (by omega))
    clear hfit hig
    go_wp2_with fail
    refine HTL.out.mono ?_
    rintro en w7 ⟨ho7, hcase⟩
    have hY7 := (ho7.kept _ (blk_lt hY6) (fun h => h)).trans hY6
    have hE7 := (ho7.kept _ (blk_lt hE6) (fun h => h)).trans hE6
    have y0 : w7.cell? ⟨w.heap.size + 1, 0, none⟩ = some (.bool false) := blk_cell hY7 0
    have y1 : w7.cell? ⟨w.heap.size + 1, 1, none⟩ = some (.slice none 0 0) := blk_cell hY7 1
    have y2 : w7.cell? ⟨w.heap.size + 1, 2, none⟩ = some (.int .i64 0) := blk_cell hY7 2
    have e0 : w7.cell? ⟨w.heap.size + 1 + 1, 0, none⟩ = some (.int .i64 0) := blk_cell hE7 0
    have fy0 := blk_frozen hY7 0
    have fy1 := blk_frozen hY7 1
    have fy2 := blk_frozen hY7 2
    have fe0 := blk_frozen hE7 0
    have HST := Lib.hid (stored hY7 hE7)
    have HOW := Lib.hid ((ho4.trans ho46).trans ho7)
    rcases hcase with ⟨hz, rfl⟩ | ⟨hz, t, k, q, a1, a2, a3, a4, ⟨hbad, rfl⟩ | ⟨b1, b2, b3, A7, ds7, c7, rfl, hown, hval, hnm⟩⟩
    · have HZ := Lib.hid hz
      clear hz
      go_wp2_with fail
      obtain ⟨s1, s2, s3⟩ := HST.out (.bool false) (.slice none 0 0) (.int .i64 0) (.int .i64 0)
      refine door_ok rfl _ _ (w.heap.size + 1) (w.heap.size + 1 + 1) _ _ _ 0 _ rfl rfl s1 s2 ?_
      rw [HZ.out]
      exact Ans.zero HOW.out (s3.mono (by rintro i hi (rfl | rfl) <;> omega))
    · refine door_panic rfl _ w7 (w.heap.size + 1) (w.heap.size + 1 + 1) 2 _ rfl rfl hY7 hE7 (fun w' hw' => ?_)
      exact Ans.long hz a1 a2 a3 a4 hbad HOW.out (hw'.mono (by rintro i hi rfl; omega))
    · have HA := Lib.hid (And.intro hz (And.intro a1 (And.intro a2 (And.intro a3 (And.intro a4 (And.intro hown (And.intro hval hnm)))))))
      clear hz a1 a2 a3 a4 hown hval hnm
      go_wp2_with fail
      obtain ⟨s1, s2, s3⟩ := HST.out (.bool (decide (Z < 0))) (.slice A7 ds7.length c7) (.int .i64 (e + t)) (.int .i64 0)
      obtain ⟨g1, g2, g3, g4, g5, g6, g7, g8⟩ := HA.out
      refine door_ok rfl _ _ (w.heap.size + 1) (w.heap.size + 1 + 1) _ _ _ 0 _ rfl rfl s1 s2 ?_
      refine Ans.some_ g1 g2 g3 g4 g5 b1 b2 b3 HOW.out (s3.mono (by rintro i hi (rfl | rfl) <;> omega)) (own_two g6 hY7 hE7 s3) ?_ g7 g8
      have := (ho4.trans ho46).base.size
      exact this
end Go.Proofs.YtflhdplfkpdejaaGreatFmt
