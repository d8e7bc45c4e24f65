/- Part 10 of the walk: FPupillaw2Samenum ExC FltE RndJ RndK RndL RndP. -/
import Derived.Test.YtlfmgdpbjapdjaaGreatFmtBesafterPt07
import Derived.Test.YtlfmgdpbjapdjaaGreatFmtBesafterPt09
import Derived.Test.YtlfmgdpbjapdjaaGreatFmtBesafterPt08
import Derived.Laws.FloatArith
import Derived.Deep.DeepCutAuto
import Derived.Deep.CutBlock
namespace Go.Proofs.YtlfmgdpbjapdjaaGreatFmtBesafter.F
open Go.RowKit Go.Proofs.YtlfmgdpbjapdjaaGreatFmtBesafterW.PrintWords Go.Proofs.YtlfmgdpbjapdjaaGreatFmtBesafterW.PrintLast Go.Proofs.YtlfmgdpbjapdjaaGreatFmtBesafterW.PrintMore
attribute [local go_sem] max2_int min2_int max_two min_two max_three min_three max_four min_four   -- for this text's walks alone
set_option linter.unusedVariables false
set_option linter.unusedSimpArgs false
def pupillaw2_SameNum.f (k : Nat) (a0_0 : Bool) (l0_1 : List Int) (a0_2 : Int) (a1_0 : Bool) (l1_1 : List Int) (a1_2 : Int) : Option (Bool) := if (a0_0 == a1_0) = true then (if a0_2 = a1_2 then ((pupillaw2_Same.f k l0_1 l1_1).bind fun t349 => (some t349)) else (some false)) else (some false)
theorem pupillaw2_SameNum.mono : ∀ a0 a1 a2 a3 a4 a5 k, LeO (pupillaw2_SameNum.f k a0 a1 a2 a3 a4 a5) (pupillaw2_SameNum.f (k + 1) a0 a1 a2 a3 a4 a5) := by
  intro a0 a1 a2 a3 a4 a5 k
  unfold pupillaw2_SameNum.f
  repeat' first
      | (with_reducible exact pupillaw2_Same.mono _ _ _)
      | (with_reducible exact LeO.refl _)
      | (with_reducible exact LeO.none _)
      | (with_reducible refine LeO.ite ?_ ?_)
      | (with_reducible refine LeO.bind ?_ (fun _ => ?_))
      | exact pupillaw2_Same.mono _ _ _
      | exact LeO.none _
      | refine LeO.ite ?_ ?_
      | refine LeO.bind ?_ (fun _ => ?_)
set_option maxHeartbeats 8000000 in
set_option maxRecDepth 100000 in
theorem pupillaw2_SameNum.calls (k : Nat) (a0_0 : Bool) (A0_1 : Option Addr) (c0_1 : Nat) (l0_1 : List Int) (a0_2 : Int) (a1_0 : Bool) (A1_1 : Option Addr) (c1_1 : Nat) (l1_1 : List Int) (a1_2 : Int) (r : Bool) (w : World) (hr0_1 : Kd.C (Kd.int .i64) w A0_1 l0_1.length l0_1) (hc0_1 : l0_1.length ≤ c0_1) (hr1_1 : Kd.C (Kd.int .i64) w A1_1 l1_1.length l1_1) (hc1_1 : l1_1.length ≤ c1_1) (h : pupillaw2_SameNum.f k a0_0 l0_1 a0_2 a1_0 l1_1 a1_2 = some r) :
    Calls Tryz.prog 20 #[.agg #[.bool a0_0, .slice A0_1 l0_1.length c0_1, .int .i64 a0_2], .agg #[.bool a1_0, .slice A1_1 l1_1.length c1_1, .int .i64 a1_2]] w fun e w' => e = .returned (.bool r) ∧ Below w.heap.size w w' := by
  have hu24 := Tryz.underlying24
  have HR0_1 := Aside0.mk hr0_1
  have HC0_1 := Aside0.mk hc0_1
  clear hr0_1 hc0_1
  have HR1_1 := Aside0.mk hr1_1
  have HC1_1 := Aside0.mk hc1_1
  clear hr1_1 hc1_1
  have HB := Aside0.mk (Below.refl w.heap.size w)
  have H : (if (a0_0 == a1_0) = true then (if a0_2 = a1_2 then ((pupillaw2_Same.f k l0_1 l1_1).bind fun t349 => (some t349)) else (some false)) else (some false)) = some r := h
  clear h
  by_cases c3 : (a0_0 == a1_0) = true
  · rw [if_pos c3] at H
    have c3b0 : (a0_0 == a1_0) = true := c3
    (try (have c3b1 : decide (a0_0 = a1_0) = true := by simpa using c3))
    (try (have c3b2 : (a0_0 == a1_0) = true := by simpa using c3))
    clear c3
    by_cases c4 : a0_2 = a1_2
    · rw [if_pos c4] at H
      have c4b0 : (a0_2 == a1_2) = true := beq_iff_eq.mpr c4
      have c4b1 : (a0_2 != a1_2) = false := bne_eq_false_iff_eq.mpr c4
      clear c4
      replace H := Option.bind_eq_some_iff.mp H
      obtain ⟨t349, A50, H⟩ := H
      replace H : (some t349) = some r := H
      have A5 := Aside0.mk A50
      clear A50
      obtain rfl := Option.some.inj H
      go_enter Tryz.func20, Tryz.ntmps20
      go_wp2_with (first | ((with_reducible refine gate_dst (N := 2) rfl ?_); refine box_event ?hg (N := 2) ?hd (cs := #[.bool a0_0, .slice A0_1 l0_1.length c0_1, .int .i64 a0_2]) (t := 24) ?hr ?_; (case hd => rfl); (case hg => rfl); (case hr => first | (go_simp; done) | (go_simp; rfl)); intro gb347 hg w6 hbox hb; have n0_ := Aside0.mk (below_step (by repeat (first | (with_reducible first | exact HB.out | apply below_alloc | apply pw_below_drewN | apply below_drew1) | exact HB.out)) hb); have n1_ := Aside0.mk (hbox); have n2_ := Aside0.mk ((by rw [hg]; exact (below_size (by repeat (first | (with_reducible first | exact HB.out | apply below_alloc | apply pw_below_drewN | apply below_drew1) | exact HB.out))) : w.heap.size ≤ gb347)); have n3_ := Aside0.mk ((by rw [hg]; exact (below_size (by repeat (first | (with_reducible first | exact HB.out | apply below_alloc | apply pw_below_drewN | apply below_drew1) | exact HB.out))) : w.heap.size ≤ gb347)); clear HB; have HB := n0_; have BK347 := n1_; have GW347 := n2_; have GE347 := n3_; clear n0_ n1_ n2_ n3_; clear hb hbox hg) | ((with_reducible refine gate_dst (N := 3) rfl ?_); refine box_event ?hg (N := 3) ?hd (cs := #[.bool a1_0, .slice A1_1 l1_1.length c1_1, .int .i64 a1_2]) (t := 24) ?hr ?_; (case hd => rfl); (case hg => rfl); (case hr => first | (go_simp; done) | (go_simp; rfl)); intro gb348 hg w7 hbox hb; have n0_ := Aside0.mk (blk_below (g := gb347) (o := .cells #[.bool a0_0, .slice A0_1 l0_1.length c0_1, .int .i64 a0_2] 24 (0, 0)) (by (with_reducible repeat (first | refine blk_drewN ?_ _ | refine blk_drew ?_ | refine blk_alloc ?_ _)); exact BK347.out) hb); have n1_ := Aside0.mk (below_step (by repeat (first | (with_reducible first | exact HB.out | apply below_alloc | apply pw_below_drewN | apply below_drew1 | refine below_set ?_ GE347.out) | exact HB.out)) hb); have n2_ := Aside0.mk (hbox); have n3_ := Aside0.mk ((by rw [hg]; exact (below_size (by repeat (first | (with_reducible first | exact HB.out | apply below_alloc | apply pw_below_drewN | apply below_drew1 | refine below_set ?_ GE347.out) | exact HB.out))) : w.heap.size ≤ gb348)); have n4_ := Aside0.mk ((by rw [hg]; exact (below_size (by repeat (first | (with_reducible first | exact HB.out | apply below_alloc | apply pw_below_drewN | apply below_drew1 | refine below_set ?_ GE347.out) | exact HB.out))) : w.heap.size ≤ gb348)); have n5_ := Aside0.mk ((by rw [hg]; exact Nat.ne_of_lt (blk_lt (g := gb347) (o := .cells #[.bool a0_0, .slice A0_1 l0_1.length c0_1, .int .i64 a0_2] 24 (0, 0)) (by (with_reducible repeat (first | refine blk_drewN ?_ _ | refine blk_drew ?_ | refine blk_alloc ?_ _)); exact BK347.out)) : gb347 ≠ gb348)); have n6_ := Aside0.mk ((by rw [hg]; exact Nat.ne_of_gt (blk_lt (g := gb347) (o := .cells #[.bool a0_0, .slice A0_1 l0_1.length c0_1, .int .i64 a0_2] 24 (0, 0)) (by (with_reducible repeat (first | refine blk_drewN ?_ _ | refine blk_drew ?_ | refine blk_alloc ?_ _)); exact BK347.out)) : gb348 ≠ gb347)); clear BK347; clear HB; have BK347 := n0_; have HB := n1_; have BK348 := n2_; have GW348 := n3_; have GE348 := n4_; have NB347_348 := n5_; have NB348_347 := n6_; clear n0_ n1_ n2_ n3_ n4_ n5_ n6_; clear hb hbox hg; have hnb8 := NB347_348.out; have hnc8 := NB348_347.out; have hcz9_0 : w7.cell? ⟨gb347, 0, none⟩ = some (.bool a0_0) := (blk_cell BK347.out 0).trans rfl; have hcz9_1 : w7.cell? ⟨gb347, 1, none⟩ = some (.slice A0_1 l0_1.length c0_1) := (blk_cell BK347.out 1).trans rfl; have hcz9_2 : w7.cell? ⟨gb347, 2, none⟩ = some (.int .i64 a0_2) := (blk_cell BK347.out 2).trans rfl; have hfz9_0 := blk_frozen BK347.out 0; have hfz9_1 := blk_frozen BK347.out 1; have hfz9_2 := blk_frozen BK347.out 2; have hcz10_0 : w7.cell? ⟨gb348, 0, none⟩ = some (.bool a1_0) := (blk_cell BK348.out 0).trans rfl; have hcz10_1 : w7.cell? ⟨gb348, 1, none⟩ = some (.slice A1_1 l1_1.length c1_1) := (blk_cell BK348.out 1).trans rfl; have hcz10_2 : w7.cell? ⟨gb348, 2, none⟩ = some (.int .i64 a1_2) := (blk_cell BK348.out 2).trans rfl; have hfz10_0 := blk_frozen BK348.out 0; have hfz10_1 := blk_frozen BK348.out 1; have hfz10_2 := blk_frozen BK348.out 2) | (go_at_call 47; (with_reducible refine (pupillaw2_Same.calls k _ _ l0_1 _ _ l1_1 t349 _ ?side1 ?side2 ?side3 ?side4 A5.out).mono ?_); (case side1 => repeat (first | exact (Kd.C_below HR0_1.out HB.out) | (with_reducible refine Kd.C_alloc ?_ _) | (with_reducible refine Kd.C_drewN ?_ _) | (with_reducible refine Kd.C_drew ?_))); (case side2 => exact HC0_1.out); (case side3 => repeat (first | exact (Kd.C_below HR1_1.out HB.out) | (with_reducible refine Kd.C_alloc ?_ _) | (with_reducible refine Kd.C_drewN ?_ _) | (with_reducible refine Kd.C_drew ?_))); (case side4 => exact HC1_1.out); rintro e w' ⟨rfl, ⟨nd, rfl⟩⟩))
      go_ret
      exact ⟨by first | rfl | (simp [errW_none, errW_some] <;> rfl) | (simp [*, errW_none, errW_some] <;> rfl), by repeat (first | (with_reducible first | exact HB.out | apply below_alloc | apply pw_below_drewN | apply below_drew1 | refine below_set ?_ GE347.out | refine below_set ?_ GE348.out) | exact HB.out)⟩
    · rw [if_neg c4] at H
      have c4b0 : (a0_2 == a1_2) = false := beq_eq_false_iff_ne.mpr c4
      have c4b1 : (a0_2 != a1_2) = true := bne_iff_ne.mpr c4
      obtain rfl := Option.some.inj H
      go_enter Tryz.func20, Tryz.ntmps20
      go_wp2_with (first | ((with_reducible refine gate_dst (N := 2) rfl ?_); refine box_event ?hg (N := 2) ?hd (cs := #[.bool a0_0, .slice A0_1 l0_1.length c0_1, .int .i64 a0_2]) (t := 24) ?hr ?_; (case hd => rfl); (case hg => rfl); (case hr => first | (go_simp; done) | (go_simp; rfl)); intro gb347 hg w11 hbox hb; have n0_ := Aside0.mk (below_step (by repeat (first | (with_reducible first | exact HB.out | apply below_alloc | apply pw_below_drewN | apply below_drew1) | exact HB.out)) hb); have n1_ := Aside0.mk (hbox); have n2_ := Aside0.mk ((by rw [hg]; exact (below_size (by repeat (first | (with_reducible first | exact HB.out | apply below_alloc | apply pw_below_drewN | apply below_drew1) | exact HB.out))) : w.heap.size ≤ gb347)); have n3_ := Aside0.mk ((by rw [hg]; exact (below_size (by repeat (first | (with_reducible first | exact HB.out | apply below_alloc | apply pw_below_drewN | apply below_drew1) | exact HB.out))) : w.heap.size ≤ gb347)); clear HB; have HB := n0_; have BK347 := n1_; have GW347 := n2_; have GE347 := n3_; clear n0_ n1_ n2_ n3_; clear hb hbox hg) | ((with_reducible refine gate_dst (N := 3) rfl ?_); refine box_event ?hg (N := 3) ?hd (cs := #[.bool a1_0, .slice A1_1 l1_1.length c1_1, .int .i64 a1_2]) (t := 24) ?hr ?_; (case hd => rfl); (case hg => rfl); (case hr => first | (go_simp; done) | (go_simp; rfl)); intro gb348 hg w12 hbox hb; have n0_ := Aside0.mk (blk_below (g := gb347) (o := .cells #[.bool a0_0, .slice A0_1 l0_1.length c0_1, .int .i64 a0_2] 24 (0, 0)) (by (with_reducible repeat (first | refine blk_drewN ?_ _ | refine blk_drew ?_ | refine blk_alloc ?_ _)); exact BK347.out) hb); have n1_ := Aside0.mk (below_step (by repeat (first | (with_reducible first | exact HB.out | apply below_alloc | apply pw_below_drewN | apply below_drew1 | refine below_set ?_ GE347.out) | exact HB.out)) hb); have n2_ := Aside0.mk (hbox); have n3_ := Aside0.mk ((by rw [hg]; exact (below_size (by repeat (first | (with_reducible first | exact HB.out | apply below_alloc | apply pw_below_drewN | apply below_drew1 | refine below_set ?_ GE347.out) | exact HB.out))) : w.heap.size ≤ gb348)); have n4_ := Aside0.mk ((by rw [hg]; exact (below_size (by repeat (first | (with_reducible first | exact HB.out | apply below_alloc | apply pw_below_drewN | apply below_drew1 | refine below_set ?_ GE347.out) | exact HB.out))) : w.heap.size ≤ gb348)); have n5_ := Aside0.mk ((by rw [hg]; exact Nat.ne_of_lt (blk_lt (g := gb347) (o := .cells #[.bool a0_0, .slice A0_1 l0_1.length c0_1, .int .i64 a0_2] 24 (0, 0)) (by (with_reducible repeat (first | refine blk_drewN ?_ _ | refine blk_drew ?_ | refine blk_alloc ?_ _)); exact BK347.out)) : gb347 ≠ gb348)); have n6_ := Aside0.mk ((by rw [hg]; exact Nat.ne_of_gt (blk_lt (g := gb347) (o := .cells #[.bool a0_0, .slice A0_1 l0_1.length c0_1, .int .i64 a0_2] 24 (0, 0)) (by (with_reducible repeat (first | refine blk_drewN ?_ _ | refine blk_drew ?_ | refine blk_alloc ?_ _)); exact BK347.out)) : gb348 ≠ gb347)); clear BK347; clear HB; have BK347 := n0_; have HB := n1_; have BK348 := n2_; have GW348 := n3_; have GE348 := n4_; have NB347_348 := n5_; have NB348_347 := n6_; clear n0_ n1_ n2_ n3_ n4_ n5_ n6_; clear hb hbox hg; have hnb13 := NB347_348.out; have hnc13 := NB348_347.out; have hcz14_0 : w12.cell? ⟨gb347, 0, none⟩ = some (.bool a0_0) := (blk_cell BK347.out 0).trans rfl; have hcz14_1 : w12.cell? ⟨gb347, 1, none⟩ = some (.slice A0_1 l0_1.length c0_1) := (blk_cell BK347.out 1).trans rfl; have hcz14_2 : w12.cell? ⟨gb347, 2, none⟩ = some (.int .i64 a0_2) := (blk_cell BK347.out 2).trans rfl; have hfz14_0 := blk_frozen BK347.out 0; have hfz14_1 := blk_frozen BK347.out 1; have hfz14_2 := blk_frozen BK347.out 2; have hcz15_0 : w12.cell? ⟨gb348, 0, none⟩ = some (.bool a1_0) := (blk_cell BK348.out 0).trans rfl; have hcz15_1 : w12.cell? ⟨gb348, 1, none⟩ = some (.slice A1_1 l1_1.length c1_1) := (blk_cell BK348.out 1).trans rfl; have hcz15_2 : w12.cell? ⟨gb348, 2, none⟩ = some (.int .i64 a1_2) := (blk_cell BK348.out 2).trans rfl; have hfz15_0 := blk_frozen BK348.out 0; have hfz15_1 := blk_frozen BK348.out 1; have hfz15_2 := blk_frozen BK348.out 2))
      go_ret
      exact ⟨by first | rfl | (simp [errW_none, errW_some] <;> rfl) | (simp [*, errW_none, errW_some] <;> rfl), by repeat (first | (with_reducible first | exact HB.out | apply below_alloc | apply pw_below_drewN | apply below_drew1 | refine below_set ?_ GE347.out | refine below_set ?_ GE348.out) | exact HB.out)⟩
  · rw [if_neg c3] at H
    have c3b0 : (a0_0 == a1_0) = false := by simpa using c3
    (try (have c3b1 : decide (a0_0 = a1_0) = false := by simpa using c3))
    (try (have c3b2 : (a0_0 == a1_0) = false := by simpa using c3))
    (try (have c3b3 : ¬ (a0_0 = a1_0) := by simpa using c3))
    clear c3
    obtain rfl := Option.some.inj H
    go_enter Tryz.func20, Tryz.ntmps20
    go_wp2_with (first | ((with_reducible refine gate_dst (N := 2) rfl ?_); refine box_event ?hg (N := 2) ?hd (cs := #[.bool a0_0, .slice A0_1 l0_1.length c0_1, .int .i64 a0_2]) (t := 24) ?hr ?_; (case hd => rfl); (case hg => rfl); (case hr => first | (go_simp; done) | (go_simp; rfl)); intro gb347 hg w16 hbox hb; have n0_ := Aside0.mk (below_step (by repeat (first | (with_reducible first | exact HB.out | apply below_alloc | apply pw_below_drewN | apply below_drew1) | exact HB.out)) hb); have n1_ := Aside0.mk (hbox); have n2_ := Aside0.mk ((by rw [hg]; exact (below_size (by repeat (first | (with_reducible first | exact HB.out | apply below_alloc | apply pw_below_drewN | apply below_drew1) | exact HB.out))) : w.heap.size ≤ gb347)); have n3_ := Aside0.mk ((by rw [hg]; exact (below_size (by repeat (first | (with_reducible first | exact HB.out | apply below_alloc | apply pw_below_drewN | apply below_drew1) | exact HB.out))) : w.heap.size ≤ gb347)); clear HB; have HB := n0_; have BK347 := n1_; have GW347 := n2_; have GE347 := n3_; clear n0_ n1_ n2_ n3_; clear hb hbox hg) | ((with_reducible refine gate_dst (N := 3) rfl ?_); refine box_event ?hg (N := 3) ?hd (cs := #[.bool a1_0, .slice A1_1 l1_1.length c1_1, .int .i64 a1_2]) (t := 24) ?hr ?_; (case hd => rfl); (case hg => rfl); (case hr => first | (go_simp; done) | (go_simp; rfl)); intro gb348 hg w17 hbox hb; have n0_ := Aside0.mk (blk_below (g := gb347) (o := .cells #[.bool a0_0, .slice A0_1 l0_1.length c0_1, .int .i64 a0_2] 24 (0, 0)) (by (with_reducible repeat (first | refine blk_drewN ?_ _ | refine blk_drew ?_ | refine blk_alloc ?_ _)); exact BK347.out) hb); have n1_ := Aside0.mk (below_step (by repeat (first | (with_reducible first | exact HB.out | apply below_alloc | apply pw_below_drewN | apply below_drew1 | refine below_set ?_ GE347.out) | exact HB.out)) hb); have n2_ := Aside0.mk (hbox); have n3_ := Aside0.mk ((by rw [hg]; exact (below_size (by repeat (first | (with_reducible first | exact HB.out | apply below_alloc | apply pw_below_drewN | apply below_drew1 | refine below_set ?_ GE347.out) | exact HB.out))) : w.heap.size ≤ gb348)); have n4_ := Aside0.mk ((by rw [hg]; exact (below_size (by repeat (first | (with_reducible first | exact HB.out | apply below_alloc | apply pw_below_drewN | apply below_drew1 | refine below_set ?_ GE347.out) | exact HB.out))) : w.heap.size ≤ gb348)); have n5_ := Aside0.mk ((by rw [hg]; exact Nat.ne_of_lt (blk_lt (g := gb347) (o := .cells #[.bool a0_0, .slice A0_1 l0_1.length c0_1, .int .i64 a0_2] 24 (0, 0)) (by (with_reducible repeat (first | refine blk_drewN ?_ _ | refine blk_drew ?_ | refine blk_alloc ?_ _)); exact BK347.out)) : gb347 ≠ gb348)); have n6_ := Aside0.mk ((by rw [hg]; exact Nat.ne_of_gt (blk_lt (g := gb347) (o := .cells #[.bool a0_0, .slice A0_1 l0_1.length c0_1, .int .i64 a0_2] 24 (0, 0)) (by (with_reducible repeat (first | refine blk_drewN ?_ _ | refine blk_drew ?_ | refine blk_alloc ?_ _)); exact BK347.out)) : gb348 ≠ gb347)); clear BK347; clear HB; have BK347 := n0_; have HB := n1_; have BK348 := n2_; have GW348 := n3_; have GE348 := n4_; have NB347_348 := n5_; have NB348_347 := n6_; clear n0_ n1_ n2_ n3_ n4_ n5_ n6_; clear hb hbox hg; have hnb18 := NB347_348.out; have hnc18 := NB348_347.out; have hcz19_0 : w17.cell? ⟨gb347, 0, none⟩ = some (.bool a0_0) := (blk_cell BK347.out 0).trans rfl; have hcz19_1 : w17.cell? ⟨gb347, 1, none⟩ = some (.slice A0_1 l0_1.length c0_1) := (blk_cell BK347.out 1).trans rfl; have hcz19_2 : w17.cell? ⟨gb347, 2, none⟩ = some (.int .i64 a0_2) := (blk_cell BK347.out 2).trans rfl; have hfz19_0 := blk_frozen BK347.out 0; have hfz19_1 := blk_frozen BK347.out 1; have hfz19_2 := blk_frozen BK347.out 2; have hcz20_0 : w17.cell? ⟨gb348, 0, none⟩ = some (.bool a1_0) := (blk_cell BK348.out 0).trans rfl; have hcz20_1 : w17.cell? ⟨gb348, 1, none⟩ = some (.slice A1_1 l1_1.length c1_1) := (blk_cell BK348.out 1).trans rfl; have hcz20_2 : w17.cell? ⟨gb348, 2, none⟩ = some (.int .i64 a1_2) := (blk_cell BK348.out 2).trans rfl; have hfz20_0 := blk_frozen BK348.out 0; have hfz20_1 := blk_frozen BK348.out 1; have hfz20_2 := blk_frozen BK348.out 2))
    go_ret
    exact ⟨by first | rfl | (simp [errW_none, errW_some] <;> rfl) | (simp [*, errW_none, errW_some] <;> rfl), by repeat (first | (with_reducible first | exact HB.out | apply below_alloc | apply pw_below_drewN | apply below_drew1 | refine below_set ?_ GE347.out | refine below_set ?_ GE348.out) | exact HB.out)⟩
end Go.Proofs.YtlfmgdpbjapdjaaGreatFmtBesafter.F
namespace Go.Proofs.YtlfmgdpbjapdjaaGreatFmtBesafter
open Go.RowKit Go.Proofs.YtlfmgdpbjapdjaaGreatFmtBesafterW.PrintWords
theorem Only.of_drawn {w w' : World} (h : Drawn0 w w') : Only w w' (fun _ => False) := by
  obtain ⟨n, rfl⟩ := h.out
  exact (Only.refl _ _).drewN n
theorem kd_ints {w : World} {A : Option Addr} {ds : List Int} (h : ReadsInt w .i64 A ds.length ds) : Kd.C (Kd.int .i64) w A ds.length ds := by
  refine Kd.C_of_reads (d := 0) ⟨h.1, h.2.1, fun hn => ?_⟩
  obtain ⟨ad, e, hc⟩ := h.2.2 hn
  exact ⟨ad, e, fun j hj => hc j hj⟩
def digB (d : Int) : Bool := decide (0 ≤ d) && decide (d < 1073741824)
theorem digB_yes {d : Int} (h0 : ¬ d < 0) (h1 : ¬ d ≥ 1073741824) : digB d = true := by
  rw [digB, decide_eq_true (show 0 ≤ d by omega), decide_eq_true (show d < 1073741824 by omega)]; rfl
theorem digB_low {d : Int} (h0 : d < 0) : digB d = false := by
  rw [digB, decide_eq_false (show ¬ 0 ≤ d by omega)]; rfl
theorem digB_high {d : Int} (h0 : d ≥ 1073741824) : digB d = false := by
  rw [digB, decide_eq_false (show ¬ d < 1073741824 by omega), Bool.and_false]
def vB (neg : Bool) (ds : List Int) (e : Int) : Bool :=
  if ds.length = 0 then !neg && e == 0
  else ds.all digB && decide (ds.length ≤ 2000) && !(ds.getD (ds.length - 1) 0 == 0) && ds.getD 0 0 % 2 == 1 && decide (-1048576 ≤ e) && decide (e ≤ 1048576)
theorem all_digs {ds : List Int} : ds.all digB = true ↔ Digs ds := by
  rw [List.all_eq_true]
  constructor
  · intro h d hd
    have := h d hd
    simpa [digB] using this
  · intro h d hd
    simpa [digB] using h d hd
theorem wrap_near (n : Nat) (h : n < 4611686018427387904) : wrap64 ((n : Int) + 1) = ((n + 1 : Nat) : Int) := by
  rw [IntWalk.wrap64_in _ ⟨by omega, by omega⟩]; rfl
theorem rd_at (ds : List Int) (n : Nat) : rd ds (n : Int) = ds.getD n 0 := by simp [rd]
theorem digits_l0 (ds : List Int) (hl : ds.length < 4611686018427387904) : ∀ (k i : Nat), i ≤ ds.length → ds.length - i < k → F.exact_digits.l0 k ds ds (ds.length : Int) (i : Int) = some ((ds.drop i).all digB && decide (ds.length ≤ 2000))
  | 0, i, _, h => by omega
  | k + 1, i, hi, h => by
    unfold F.exact_digits.l0
    by_cases hlt : i < ds.length
    · rw [if_pos (by omega), if_pos (by omega), if_pos (by omega), drop_cons ds i hlt, rd_at, List.all_cons]
      by_cases h0 : ds.getD i 0 < 0
      · rw [if_pos h0]
        rw [digB_low h0]; rfl
      · rw [if_neg h0]
        by_cases h1 : ds.getD i 0 ≥ 1073741824
        · rw [if_pos h1]
          rw [digB_high h1]; rfl
        · rw [if_neg h1, wrap_near i (by omega), digits_l0 ds hl k (i + 1) (by omega) (by omega)]
          rw [digB_yes h0 h1]; rfl
    · rw [if_neg (by omega), List.drop_of_length_le (by omega), List.all_nil, Bool.true_and]
      exact congrArg some (decide_eq_decide.2 (by omega))
theorem and_one (d : Int) (h0 : 0 ≤ d) (h1 : d < 1073741824) : Go.bits .and .i64 d 1 = d % 2 := by
  obtain ⟨x, rfl⟩ : ∃ x : Nat, d = x := ⟨d.toNat, by omega⟩
  have h := bits_mask .i64 63 (by decide) (fun n h0 h1 => by rw [IntKind.wrap_i64]; omega) 1 (by decide) (x : Int) (by omega) (by omega)
  simpa using h
set_option linter.unusedSimpArgs false in
theorem valid_f (neg : Bool) (ds : List Int) (e : Int) (hl : ds.length < 4611686018427387904) : F.exact_Valid.f (ds.length + 1) neg ds e = some (vB neg ds e) := by
  unfold F.exact_Valid.f vB
  by_cases h0 : ds.length = 0
  · rw [if_pos (by omega), if_pos h0]
    cases neg <;> simp
  · rw [if_neg (by omega), if_neg h0, F.exact_digits.f]
    have hd := digits_l0 ds hl (ds.length + 1) 0 (Nat.zero_le _) (by omega)
    rw [Int.natCast_zero] at hd
    rw [hd, List.drop_zero, Option.bind_some]
    have hw : wrap64 ((ds.length : Int) - 1) = ((ds.length - 1 : Nat) : Int) := by
      rw [IntWalk.wrap64_in _ ⟨by omega, by omega⟩]; omega
    have e0 : rd ds 0 = ds.getD 0 0 := by simp [rd]
    by_cases h1 : (ds.all digB && decide (ds.length ≤ 2000)) = true
    · rw [if_pos h1, hw, if_pos (by omega), if_pos (by omega), rd_at, e0]
      have hdg := all_digs.1 (Bool.and_eq_true_iff.1 h1).1
      have hx := hdg.at 0 (by omega)
      rw [and_one _ hx.1 hx.2, h1]
      by_cases h2 : ds.getD (ds.length - 1) 0 = 0
      · have e2 : (ds.getD (ds.length - 1) 0 == 0) = true := by rw [h2]; rfl
        rw [if_pos h2, e2]
        simp only [Bool.not_true, Bool.not_false, Bool.and_false, Bool.false_and, Bool.and_true, Bool.true_and]
      · rw [if_neg h2, if_pos (by omega)]
        have e2 : (ds.getD (ds.length - 1) 0 == 0) = false := by rw [beq_eq_false_iff_ne]; exact h2
        rw [e2]
        by_cases h3 : ds.getD 0 0 % 2 = 1
        · rw [if_pos h3, h3]
          by_cases h4 : e ≥ -1048576
          · rw [if_pos h4, decide_eq_true h4]
            simp only [Bool.not_true, Bool.not_false, Bool.and_false, Bool.false_and, Bool.and_true, Bool.true_and, beq_self_eq_true]
          · rw [if_neg h4, decide_eq_false h4]
            simp only [Bool.not_true, Bool.not_false, Bool.and_false, Bool.false_and, Bool.and_true, Bool.true_and]
        · rw [if_neg h3]
          have e3 : (ds.getD 0 0 % 2 == 1) = false := by rw [beq_eq_false_iff_ne]; exact h3
          rw [e3]
          simp only [Bool.not_true, Bool.not_false, Bool.and_false, Bool.false_and, Bool.and_true, Bool.true_and]
    · rw [if_neg h1]
      have e1 : (ds.all digB && decide (ds.length ≤ 2000)) = false := by simpa using h1
      rw [e1]
      simp only [Bool.not_true, Bool.not_false, Bool.and_false, Bool.false_and, Bool.and_true, Bool.true_and]
theorem valid_calls (neg : Bool) (A : Option Addr) (c : Nat) (ds : List Int) (e : Int) (w : World) (hr : ReadsInt w .i64 A ds.length ds) (hc : ds.length ≤ c) (hl : ds.length < 4611686018427387904) :
    Calls Tryz.prog 69 #[.agg #[.bool neg, .slice A ds.length c, .int .i64 e]] w fun en w' => en = .returned (.bool (vB neg ds e)) ∧ Only w w' (fun _ => False) :=
  (F.exact_Valid.calls (ds.length + 1) neg A c ds e (vB neg ds e) w (kd_ints hr) hc (valid_f neg ds e hl)).mono fun _ _ ⟨h1, h2⟩ => ⟨h1, Only.of_below h2⟩
theorem vB_some {neg : Bool} {ds : List Int} {e : Int} (h : vB neg ds e = true) (h0 : ds.length ≠ 0) : Nm ds ∧ ds.length ≤ 2000 ∧ ds.getD 0 0 % 2 = 1 ∧ -1048576 ≤ e ∧ e ≤ 1048576 := by
  rw [vB, if_neg h0] at h
  simp only [Bool.and_eq_true, decide_eq_true_eq, Bool.not_eq_true', beq_eq_false_iff_ne, beq_iff_eq] at h
  obtain ⟨⟨⟨⟨⟨h1, h2⟩, h3⟩, h4⟩, h5⟩, h6⟩ := h
  exact ⟨⟨all_digs.1 h1, fun _ => h3⟩, h2, h4, h5, h6⟩
theorem vB_none {neg : Bool} {ds : List Int} {e : Int} (h : vB neg ds e = true) (h0 : ds.length = 0) : neg = false ∧ e = 0 := by
  rw [vB, if_pos h0] at h
  simpa using h
@[go_sem] theorem Tryz.frombits64 (n : Int) (w : World) : (callFunc 55 #[.int .u64 n]).run Tryz.prog w = .ok (.value (.float .f64 n.toNat)) w := by
  rw [run_callFunc_extern (e := Extern.MathFloatBits.float64frombits) Tryz.func55 (by kernel_rfl) (by kernel_rfl) (by kernel_rfl) (by kernel_rfl)]
  rfl
@[go_sem] theorem Tryz.bits64 (n : Nat) (w : World) : (callFunc 51 #[.float .f64 n]).run Tryz.prog w = .ok (.value (.int .u64 n)) w := by
  rw [run_callFunc_extern (e := Extern.MathFloatBits.float64bits) Tryz.func51 (by kernel_rfl) (by kernel_rfl) (by kernel_rfl) (by kernel_rfl)]
  rfl
set_option maxRecDepth 100000 in
set_option maxHeartbeats 400000 in
theorem of_num (n : Nat) (w : World) (h : (FloatKind.f64.format.order n n != some .eq) = false) :
    Calls Tryz.prog 24 #[.float .f64 n] w fun e w' => e = .returned (.int .i64 (wrap64 n)) ∧ w = w' := by
  go_enter Tryz.func24, Tryz.ntmps24
  go_wp2
  go_ret
  exact ⟨rfl, rfl⟩
theorem of_third (w : World) : Calls Tryz.prog 24 #[.float .f64 4599676419421066581] w fun e w' => e = .returned (.int .i64 4599676419421066581) ∧ w' = w := by
  refine (of_num 4599676419421066581 w (by decide +kernel)).mono ?_
  rintro e w' ⟨rfl, rfl⟩
  exact ⟨ret_int (by decide +kernel), rfl⟩
theorem canon_third (w : World) : Calls Tryz.prog 8 #[.int .i64 4599676419421066581, .int .i64 64] w fun e w' => e = .returned (.int .i64 4599676419421066581) ∧ Only w w' (fun _ => False) := by
  refine (F.bits_Canon.calls 2 4599676419421066581 64 4599676419421066581 w (by decide +kernel)).mono ?_
  rintro e w' ⟨rfl, h⟩
  exact ⟨rfl, Only.of_below h⟩
set_option maxRecDepth 100000 in
set_option maxHeartbeats 4000000 in
theorem float64_lit (x b c : Nat) (ys : List Int) (w : World) (hx : w.heap[x]? = some (.cells (fl 65 0 1 false (.slice (some ⟨b, 0, none⟩) 2 c) (-1)) 119 (0, 0))) (hb : Blk w b ys) (hn : 2 ≤ ys.length) (h0 : ys.getD 0 0 = 9223372036854775808) (h1 : ys.getD 1 0 = 12297829382473034410) :
    Calls Tryz.prog 76 #[.pointer (some ⟨x, 0, none⟩)] w fun en w' => en = .returned (.tuple #[.float .f64 4599676419421066581, .int .i8 (-1)]) ∧ Only w w' (fun _ => False) := by
  have hW : ∀ n, IntKind.u64.wrap n = n % 18446744073709551616 := IntKind.wrap_u64
  have hW3 : ∀ n, IntKind.u32.wrap n = n % 4294967296 := IntKind.wrap_u32
  have b1 : bits .and .u64 6004799503160661 4503599627370495 = 1501199875790165 := by decide +kernel
  have b2 : bits .or .u64 0 4598175219545276416 = 4598175219545276416 := by decide +kernel
  have b3 : bits .or .u64 4598175219545276416 1501199875790165 = 4599676419421066581 := by decide +kernel
  have x3 : w.cell? ⟨x, 3, none⟩ = some (.int .u8 1) := blk_cell hx 3
  have x4 : w.cell? ⟨x, 4, none⟩ = some (.bool false) := blk_cell hx 4
  have x6 : w.cell? ⟨x, 6, none⟩ = some (.int .i32 (-1)) := blk_cell hx 6
  go_enter Tryz.func76, Tryz.ntmps76
  go_wp2_with fail
  refine (set_lit w.heap.size x b c ys _ (heap_alloc_new w _) ((Below.heap_alloc _ _ x (blk_lt hx)).trans hx) (((Only.refl w (fun _ => False)).alloc _).blk hb (fun h => h)) hn h0 h1 (by have := blk_lt hx; omega)).mono ?_
  rintro en w2 ⟨rfl, b', c', zs, hf2, hb2, hl2, y0, ho2, hbb⟩
  have hxx : w2.heap[x]? = some (.cells (fl 65 0 1 false (.slice (some ⟨b, 0, none⟩) 2 c) (-1)) 119 (0, 0)) := (ho2.kept x (by have := blk_lt hx; simp; omega) (by have := blk_lt hx; omega)).trans ((Below.heap_alloc _ _ x (blk_lt hx)).trans hx)
  have hoA : Only w w2 (fun _ => False) := ((Only.refl w (fun _ => False)).alloc _).step ho2 (by rintro i hi rfl; omega)
  have HO := Lib.hid hoA
  clear hoA ho2 hbb hx hb h0 h1 x3 x4 x6
  generalize w.heap.size = r at *
  have x4 : w2.cell? ⟨x, 4, none⟩ = some (.bool false) := blk_cell hxx 4
  have r2 : w2.cell? ⟨r, 2, none⟩ = some (.int .i8 (-1)) := blk_cell hf2 2
  have r3 : w2.cell? ⟨r, 3, none⟩ = some (.int .u8 1) := blk_cell hf2 3
  have r5 : w2.cell? ⟨r, 5, none⟩ = some (.slice (some ⟨b', 0, none⟩) 1 c') := blk_cell hf2 5
  have r6 : w2.cell? ⟨r, 6, none⟩ = some (.int .i32 (-1)) := blk_cell hf2 6
  have HM := Lib.hid (fun W hb => msb_lit b' c' zs 12297829382473033728 W hb hl2 y0)
  clear hf2 hxx
  go_wp2_with fail
  refine (HM.out _ hb2).mono ?_
  rintro en w' ⟨rfl, hw⟩
  rw [hw]
  clear hw w'
  go_wp2_with fail
  go_quiet (fail)
  go_wp2_with fail
  go_ret2
  exact ⟨rfl, HO.out.drewN nq⟩
def sg (n : Bool) : Int := if n then 9223372036854775808 else 0
theorem and_52 (a : Int) (ha : 0 ≤ a) (ha2 : a < 18446744073709551616) : bits .and .u64 a 4503599627370495 = a % 4503599627370496 := by
  obtain ⟨x, rfl⟩ : ∃ x : Nat, a = x := ⟨a.toNat, by omega⟩
  have h := u64_and_nat x 4503599627370495 (by omega) (by omega)
  have e : ((4503599627370495 : Nat) : Int) = 4503599627370495 := rfl
  rw [e] at h
  rw [h, Nat.and_two_pow_sub_one_eq_mod x 52]
  rfl
theorem sg_cases (n : Bool) : sg n = 0 ∨ sg n = 9223372036854775808 := by cases n <;> simp [sg]
theorem join3 (n : Bool) (B m : Int) (h0 : 0 ≤ B) (h1 : B < 2048) (m0 : 0 ≤ m) (m1 : m < 4503599627370496) : bits .or .u64 (bits .or .u64 (sg n) (B * 4503599627370496)) m = sg n + B * 4503599627370496 + m := by
  have hs := sg_cases n
  have e63 : (2 : Int) ^ 63 = 9223372036854775808 := by decide
  have e52 : (2 : Int) ^ 52 = 4503599627370496 := by decide
  rw [or_mul (sg n) (B * 4503599627370496) 63 (by omega) (by omega) (by omega) (by rw [e63]; omega) (by omega) (by rw [e63]; omega)]
  exact or_mul _ m 52 (by omega) (by omega) (by omega) (by rw [e52]; omega) m0 (by rw [e52]; exact m1)
theorem RoundRel.range {p k : Nat} {T e rb sb : Int} {n : Bool} {a x e' : Int} (h : RoundRel p k T e rb sb n a x e') : e ≤ e' ∧ e' ≤ e + 1 := by
  obtain ⟨_, h | h | h⟩ := h
  · have := h.2.2; omega
  · have := h.2.2.2; omega
  · have := h.2.2.2; omega
theorem RoundRel.word {p k : Nat} {T e rb sb : Int} {n : Bool} {a x e' : Int} (h : RoundRel p k T e rb sb n a x e') (hpk : p + k = 64) (hp : 0 < p) (h0 : 9223372036854775808 ≤ T) (h1 : T < 18446744073709551616) : 9223372036854775808 ≤ x ∧ x < 18446744073709551616 := by
  have ek : (2 : Int) ^ (p - 1) * 2 ^ k = 9223372036854775808 := by rw [← Int.pow_add, show p - 1 + k = 63 by omega]; decide
  have ep : (2 : Int) ^ p * 2 ^ k = 18446744073709551616 := by rw [← Int.pow_add, hpk]; decide
  have hk : (0 : Int) < 2 ^ k := Int.pow_pos (by omega)
  have lo : (2 : Int) ^ (p - 1) ≤ T / 2 ^ k := by
    rw [Int.le_ediv_iff_mul_le hk, ek]; exact h0
  have lo2 : (2 : Int) ^ (p - 1) * 2 ^ k ≤ T / 2 ^ k * 2 ^ k := Int.mul_le_mul_of_nonneg_right lo (Int.le_of_lt hk)
  rw [ek] at lo2
  obtain ⟨_, h | h | h⟩ := h
  · rw [h.2.1]
    have := Int.ediv_mul_le T (Int.ne_of_gt hk)
    omega
  · rw [h.2.2.1]
    have : (T / 2 ^ k + 1) * 2 ^ k < 2 ^ p * 2 ^ k := Int.mul_lt_mul_of_pos_right h.2.1 hk
    rw [ep] at this
    rw [Int.add_mul, Int.one_mul] at this ⊢
    omega
  · rw [h.2.2.1]; omega
def F64Ans (w : World) (p k : Nat) (T E rb sb : Int) (n : Bool) (en : Ending) (w' : World) : Prop := ∃ a x e' v, en = .returned (.tuple #[.float .f64 v, .int .i8 a]) ∧ RoundRel p k T E rb sb n a x e' ∧ Only w w' (fun _ => False) ∧
  ((-1021 ≤ e' ∧ (v : Int) = sg n + (e' + 1021) * 4503599627370496 + x / 2048) ∨ (e' < -1021 ∧ (v : Int) = sg n + x / 2 ^ (64 - (1074 + e').toNat)))
set_option linter.unusedVariables false in
set_option linter.unusedSimpArgs false in
set_option maxRecDepth 100000 in
set_option maxHeartbeats 8000000 in
theorem float64_N (x b c m  P : Nat) (ys : List Int) (E T rb sb : Int) (n : Bool) (w : World) (hx : w.heap[x]? = some (.cells (fl P 0 1 n (.slice (some ⟨b, 0, none⟩) m c) E) 119 (0, 0))) (hb : Blk w b ys) (hm : Mant ys m c) (hP : 64 ≤ P) (hP2 : P < 4294967296) (hT : ys.getD (m - 1) 0 = T) (hE1 : E ≤ 1024) (hE0 : -1021 ≤ E)
    (hrb : T / 2 ^ (11 - 1) % 2 = rb) (hst : (Stk (fun i => ys.getD i 0) (m - 1) (11 - 1) ∧ sb = 0) ∨ (¬ Stk (fun i => ys.getD i 0) (m - 1) (11 - 1) ∧ sb = 1)) (hfin : ∀ a x e', RoundRel 53 11 T E rb sb n a x e' → e' ≤ 1024) :
    Calls Tryz.prog 76 #[.pointer (some ⟨x, 0, none⟩)] w (F64Ans w 53 11 T E rb sb n) := by
  have x3 : w.cell? ⟨x, 3, none⟩ = some (.int .u8 1) := blk_cell hx 3
  have x4 : w.cell? ⟨x, 4, none⟩ = some (.bool n) := blk_cell hx 4
  have x6 : w.cell? ⟨x, 6, none⟩ = some (.int .i32 E) := blk_cell hx 6
  have w1 : IntKind.i32.wrap (E - 1) = E - 1 := by rw [IntKind.wrap_i32]; omega
  have d1 : decide (E - 1 < -1022) = false := by rw [decide_eq_false_iff_not]; omega
  have hxl := blk_lt hx
  have HX := Lib.hid (And.intro hx (And.intro hb (And.intro hm (And.intro hT (And.intro hrb hst)))))
  have HF := Lib.hid hfin
  clear hx hb hm hT hrb hst hfin 
  go_enter Tryz.func76, Tryz.ntmps76
  have HO0 := Lib.hid (Only.refl w (fun _ => False))
  have hxd := HX.out.1
  have hbd := HX.out.2.1
  have HXD := Lib.hid (And.intro hxd hbd)
  clear hxd hbd
  go_upto_region 19 with (fail)
  go_wp2_with fail
  obtain ⟨_, _, hm, hT, hrb, hst⟩ := HX.out
  refine (set_any_flt w.heap.size x b c m 53 11 P ys E T rb sb n _ (heap_alloc_new w _) ((Below.heap_alloc _ _ x hxl).trans HXD.out.1) (((Only.refl w (fun _ => False)).alloc _).blk HXD.out.2 (fun h => h)) hm (by omega) rfl (by omega) (by omega) hP hP2 hT hrb hst (by omega) (by omega)).mono ?_
  rintro en w2 ⟨rfl, ⟨b', c', a, x', e', zs, hf2, hb2, hl2, y0, hbb, hrel⟩, ho2⟩
  have hfin := HF.out a x' e' hrel
  have hxx : w2.heap[x]? = some (.cells (fl P 0 1 n (.slice (some ⟨b, 0, none⟩) m c) E) 119 (0, 0)) := (ho2.kept x (by simp; omega) (by omega)).trans ((Below.heap_alloc _ _ x hxl).trans HXD.out.1)
  have hoA : Only w w2 (fun _ => False) := HO0.out.trans (((Only.refl w (fun _ => False)).alloc _).step ho2 (by rintro i hi rfl; omega))
  have HO := Lib.hid hoA
  have HREL := Lib.hid hrel
  have hr1 := RoundRel.range hrel
  have hTT : 9223372036854775808 ≤ T ∧ T < 18446744073709551616 := by rw [← hT]; exact ⟨hm.2.2.2.2.2.2, (hm.2.2.2.2.2.1 (m - 1) (by have := hm.1; omega)).2⟩
  have hw := RoundRel.word hrel (by omega) (by omega) hTT.1 hTT.2
  clear hoA ho2 hbb hm hT hrb hst x4 hrel HX HXD HF HO0
  generalize w.heap.size = r at *
  have x4 : w2.cell? ⟨x, 4, none⟩ = some (.bool n) := blk_cell hxx 4
  have r2 : w2.cell? ⟨r, 2, none⟩ = some (.int .i8 a) := blk_cell hf2 2
  have r3 : w2.cell? ⟨r, 3, none⟩ = some (.int .u8 1) := blk_cell hf2 3
  have r5 : w2.cell? ⟨r, 5, none⟩ = some (.slice (some ⟨b', 0, none⟩) 1 c') := blk_cell hf2 5
  have r6 : w2.cell? ⟨r, 6, none⟩ = some (.int .i32 e') := blk_cell hf2 6
  have HM := Lib.hid (fun W hb => msb_lit b' c' zs x' W hb hl2 y0)
  clear hf2 hxx
  have v1 : IntKind.i32.wrap (e' - 1) = e' - 1 := by rw [IntKind.wrap_i32]; omega
  have d5 : decide (1023 < e' - 1) = false := by rw [decide_eq_false_iff_not]; omega
  go_upto_if 88 with (fail)
  go_cut [8] (fun s wx => s = .int .u64 (sg n) ∧ w2 = wx)
  case first =>
    cases n
    · go_wp2_with fail
      go_meet
      exact ⟨rfl, rfl⟩
    · go_wp2_with fail
      go_meet
      exact ⟨rfl, rfl⟩
  case rest =>
  obtain ⟨rfl, rfl⟩ := hcut
  by_cases hd : e' < -1021
  · omega
  · have d6 : decide (e' - 1 < -1022) = false := by rw [decide_eq_false_iff_not]; omega
    have v2 : IntKind.i32.wrap (e' - 1 + 1023) = e' + 1022 := by rw [IntKind.wrap_i32]; omega
    have v3 : IntKind.u64.wrap (e' + 1022) = e' + 1022 := by rw [IntKind.wrap_u64]; omega
    go_wp2_with fail
    refine (HM.out _ hb2).mono ?_
    rintro en w' ⟨rfl, hw⟩
    rw [hw]
    clear hw w'
    go_upto_region 33 with (fail)
    go_quiet (fail)
    go_wp2_with fail
    go_ret2
    have hj : bits .or .u64 (bits .or .u64 (sg n) ((e' + 1022) * 4503599627370496)) (bits .and .u64 (x' / 2048) 4503599627370495) = sg n + (e' + 1021) * 4503599627370496 + x' / 2048 := by
      rw [and_52 _ (by omega) (by omega), join3 n _ _ (by omega) (by omega) (by omega) (by omega)]
      omega
    have hs := sg_cases n
    exact ⟨a, x', e', _, rfl, HREL.out, HO.out.drewN _, .inl ⟨by omega, by rw [hj]; omega⟩⟩
set_option linter.unusedVariables false in
set_option linter.unusedSimpArgs false in
set_option maxRecDepth 100000 in
set_option maxHeartbeats 8000000 in
theorem float64_D (x b c m p k P : Nat) (ys : List Int) (E T rb sb : Int) (n : Bool) (w : World) (hx : w.heap[x]? = some (.cells (fl P 0 1 n (.slice (some ⟨b, 0, none⟩) m c) E) 119 (0, 0))) (hb : Blk w b ys) (hm : Mant ys m c) (hP : 64 ≤ P) (hP2 : P < 4294967296) (hT : ys.getD (m - 1) 0 = T) (hE1 : E ≤ 1024) (hE0 : E < -1021) (hpE : 1074 + E = p) (hp0 : 0 < p) (hk : k = 64 - p)
    (hrb : T / 2 ^ (k - 1) % 2 = rb) (hst : (Stk (fun i => ys.getD i 0) (m - 1) (k - 1) ∧ sb = 0) ∨ (¬ Stk (fun i => ys.getD i 0) (m - 1) (k - 1) ∧ sb = 1)) (hfin : ∀ a x e', RoundRel p k T E rb sb n a x e' → e' ≤ 1024) :
    Calls Tryz.prog 76 #[.pointer (some ⟨x, 0, none⟩)] w (F64Ans w p k T E rb sb n) := by
  have x3 : w.cell? ⟨x, 3, none⟩ = some (.int .u8 1) := blk_cell hx 3
  have x4 : w.cell? ⟨x, 4, none⟩ = some (.bool n) := blk_cell hx 4
  have x6 : w.cell? ⟨x, 6, none⟩ = some (.int .i32 E) := blk_cell hx 6
  have w1 : IntKind.i32.wrap (E - 1) = E - 1 := by rw [IntKind.wrap_i32]; omega
  have d1 : decide (E - 1 < -1022) = true := by rw [decide_eq_true_eq]; omega
  have w2 : IntKind.i64.wrap (E - 1) = E - 1 := by rw [IntKind.wrap_i64]; omega
  have w3 : (1075 : Int) + (E - 1) = p := by omega
  have w4 : IntKind.i64.wrap (p : Int) = p := by rw [IntKind.wrap_i64]; omega
  have w5 : IntKind.u32.wrap (p : Int) = p := by rw [IntKind.wrap_u32]; omega
  have d2 : decide ((p : Int) < 0) = false := by rw [decide_eq_false_iff_not]; omega
  have d3 : ((p : Int) == 0) = false := by rw [beq_eq_false_iff_ne]; omega
  have x5 : w.cell? ⟨x, 5, none⟩ = some (.slice (some ⟨b, 0, none⟩) m c) := blk_cell hx 5
  have hxl := blk_lt hx
  have HX := Lib.hid (And.intro hx (And.intro hb (And.intro hm (And.intro hT (And.intro hrb hst)))))
  have HF := Lib.hid hfin
  have HK := Lib.hid (And.intro hk hpE)
  clear hx hb hm hT hrb hst hfin hk hpE
  go_enter Tryz.func76, Tryz.ntmps76
  go_upto_region 8 with (fail)
  go_quiet (fail)
  have HO0 := Lib.hid ((Only.refl w (fun _ => False)).drewN nq)
  have hxd : (w.drewN nq).heap[x]? = some (.cells (fl P 0 1 n (.slice (some ⟨b, 0, none⟩) m c) E) 119 (0, 0)) := (HO0.out.kept x hxl (fun h => h)).trans HX.out.1
  have hbd := HO0.out.blk HX.out.2.1 (fun h => h)
  replace hxl := blk_lt hxd
  clear x3 x4 x5 x6
  generalize w.drewN nq = wd at *
  have x4 : wd.cell? ⟨x, 4, none⟩ = some (.bool n) := blk_cell hxd 4
  have HXD := Lib.hid (And.intro hxd hbd)
  clear hxd hbd
  go_upto_region 19 with (fail)
  go_wp2_with fail
  obtain ⟨_, _, hm, hT, hrb, hst⟩ := HX.out
  refine (set_any_flt wd.heap.size x b c m p k P ys E T rb sb n _ (heap_alloc_new wd _) ((Below.heap_alloc _ _ x hxl).trans HXD.out.1) (((Only.refl wd (fun _ => False)).alloc _).blk HXD.out.2 (fun h => h)) hm (by omega) HK.out.1 (by omega) (by omega) hP hP2 hT hrb hst (by omega) (by omega)).mono ?_
  rintro en w2 ⟨rfl, ⟨b', c', a, x', e', zs, hf2, hb2, hl2, y0, hbb, hrel⟩, ho2⟩
  have hfin := HF.out a x' e' hrel
  have hxx : w2.heap[x]? = some (.cells (fl P 0 1 n (.slice (some ⟨b, 0, none⟩) m c) E) 119 (0, 0)) := (ho2.kept x (by simp; omega) (by omega)).trans ((Below.heap_alloc _ _ x hxl).trans HXD.out.1)
  have hoA : Only w w2 (fun _ => False) := HO0.out.trans (((Only.refl wd (fun _ => False)).alloc _).step ho2 (by rintro i hi rfl; omega))
  have HO := Lib.hid hoA
  have HREL := Lib.hid hrel
  have hr1 := RoundRel.range hrel
  have hTT : 9223372036854775808 ≤ T ∧ T < 18446744073709551616 := by rw [← hT]; exact ⟨hm.2.2.2.2.2.2, (hm.2.2.2.2.2.1 (m - 1) (by have := hm.1; omega)).2⟩
  have hw := RoundRel.word hrel (by have := HK.out.1; omega) (by omega) hTT.1 hTT.2
  clear hoA ho2 hbb hm hT hrb hst x4 hrel HX HXD HF HO0
  generalize wd.heap.size = r at *
  have x4 : w2.cell? ⟨x, 4, none⟩ = some (.bool n) := blk_cell hxx 4
  have r2 : w2.cell? ⟨r, 2, none⟩ = some (.int .i8 a) := blk_cell hf2 2
  have r3 : w2.cell? ⟨r, 3, none⟩ = some (.int .u8 1) := blk_cell hf2 3
  have r5 : w2.cell? ⟨r, 5, none⟩ = some (.slice (some ⟨b', 0, none⟩) 1 c') := blk_cell hf2 5
  have r6 : w2.cell? ⟨r, 6, none⟩ = some (.int .i32 e') := blk_cell hf2 6
  have HM := Lib.hid (fun W hb => msb_lit b' c' zs x' W hb hl2 y0)
  clear hf2 hxx
  have v1 : IntKind.i32.wrap (e' - 1) = e' - 1 := by rw [IntKind.wrap_i32]; omega
  have d5 : decide (1023 < e' - 1) = false := by rw [decide_eq_false_iff_not]; omega
  go_upto_if 88 with (fail)
  go_cut [8] (fun s wx => s = .int .u64 (sg n) ∧ w2 = wx)
  case first =>
    cases n
    · go_wp2_with fail
      go_meet
      exact ⟨rfl, rfl⟩
    · go_wp2_with fail
      go_meet
      exact ⟨rfl, rfl⟩
  case rest =>
  obtain ⟨rfl, rfl⟩ := hcut
  by_cases hd : e' < -1021
  · have d6 : decide (e' - 1 < -1022) = true := by rw [decide_eq_true_eq]; omega
    have v2 : IntKind.i64.wrap (e' - 1) = e' - 1 := by rw [IntKind.wrap_i64]; omega
    obtain ⟨q, hq⟩ : ∃ q : Nat, 1074 + e' = q := ⟨(1074 + e').toNat, by omega⟩
    have v3 : (1075 : Int) + (e' - 1) = q := by omega
    have v4 : IntKind.i64.wrap (q : Int) = q := by rw [IntKind.wrap_i64]; omega
    obtain ⟨t, ht⟩ : ∃ t : Nat, 64 - (q : Int) = t := ⟨(64 - (q : Int)).toNat, by omega⟩
    have v5 : IntKind.i64.wrap (t : Int) = t := by rw [IntKind.wrap_i64]; omega
    have v6 : IntKind.u64.wrap (t : Int) = t := by rw [IntKind.wrap_u64]; omega
    have HQ := Lib.hid hq
    clear hq
    go_wp2_with fail
    refine (HM.out _ hb2).mono ?_
    rintro en w' ⟨rfl, hw⟩
    rw [hw]
    clear hw w'
    go_upto_region 33 with (fail)
    go_quiet (fail)
    go_wp2_with fail
    go_ret2
    have hq := HQ.out
    have hpow : (2 : Int) ^ t = 2 ^ (64 - q) := by rw [show t = 64 - q by omega]
    have hlt : x' / 2 ^ t < 4503599627370496 := by
      have e : (4503599627370496 : Int) * 2 ^ (12 : Nat) = 18446744073709551616 := by decide
      have hp : (0 : Int) < 2 ^ t := Int.pow_pos (by omega)
      rw [Int.ediv_lt_iff_lt_mul hp]
      have : (2 : Int) ^ 12 ≤ 2 ^ t := by
        rw [two_pow_cast, two_pow_cast]
        exact Int.ofNat_le.2 (Nat.pow_le_pow_right (by omega) (by omega))
      have := Int.mul_le_mul_of_nonneg_left this (show (0 : Int) ≤ 4503599627370496 by decide)
      omega
    have h0 : 0 ≤ x' / 2 ^ t := Int.ediv_nonneg (by omega) (Int.le_of_lt (Int.pow_pos (by omega)))
    have hj : bits .or .u64 (bits .or .u64 (sg n) 0) (x' / 2 ^ t) = sg n + x' / 2 ^ t := by
      have := join3 n 0 (x' / 2 ^ t) (by omega) (by omega) h0 hlt
      rw [Int.zero_mul, Int.add_zero] at this
      exact this
    have hs := sg_cases n
    refine ⟨a, x', e', _, rfl, HREL.out, HO.out.drewN _, .inr ⟨hd, ?_⟩⟩
    rw [hj, show (1074 + e').toNat = q by omega, ← hpow]
    omega
  · have d6 : decide (e' - 1 < -1022) = false := by rw [decide_eq_false_iff_not]; omega
    have v2 : IntKind.i32.wrap (e' - 1 + 1023) = e' + 1022 := by rw [IntKind.wrap_i32]; omega
    have v3 : IntKind.u64.wrap (e' + 1022) = e' + 1022 := by rw [IntKind.wrap_u64]; omega
    go_wp2_with fail
    refine (HM.out _ hb2).mono ?_
    rintro en w' ⟨rfl, hw⟩
    rw [hw]
    clear hw w'
    go_upto_region 33 with (fail)
    go_quiet (fail)
    go_wp2_with fail
    go_ret2
    have hj : bits .or .u64 (bits .or .u64 (sg n) ((e' + 1022) * 4503599627370496)) (bits .and .u64 (x' / 2048) 4503599627370495) = sg n + (e' + 1021) * 4503599627370496 + x' / 2048 := by
      rw [and_52 _ (by omega) (by omega), join3 n _ _ (by omega) (by omega) (by omega) (by omega)]
      omega
    have hs := sg_cases n
    exact ⟨a, x', e', _, rfl, HREL.out, HO.out.drewN _, .inl ⟨by omega, by rw [hj]; omega⟩⟩
@[go_sem] theorem Tryz.frombits32 (n : Int) (w : World) : (callFunc 57 #[.int .u32 n]).run Tryz.prog w = .ok (.value (.float .f32 n.toNat)) w := by
  rw [run_callFunc_extern (e := Extern.MathFloatBits.float32frombits) Tryz.func57 (by kernel_rfl) (by kernel_rfl) (by kernel_rfl) (by kernel_rfl)]
  rfl
def sg2 (n : Bool) : Int := if n then 2147483648 else 0
theorem and_23 (a : Int) (ha : 0 ≤ a) (ha2 : a < 4294967296) : bits .and .u32 a 8388607 = a % 8388608 := by
  obtain ⟨x, rfl⟩ : ∃ x : Nat, a = x := ⟨a.toNat, by omega⟩
  have h := u32_and_nat x 8388607 (by omega) (by omega)
  have e : ((8388607 : Nat) : Int) = 8388607 := rfl
  rw [e] at h
  rw [h, Nat.and_two_pow_sub_one_eq_mod x 23]
  rfl
theorem or_mul2 (a b : Int) (k : Nat) (hk : k < 32) (ha : 0 ≤ a) (ha2 : a < 4294967296) (hm : a % 2 ^ k = 0) (hb : 0 ≤ b) (hb2 : b < 2 ^ k) : bits .or .u32 a b = a + b := by
  obtain ⟨x, rfl⟩ : ∃ x : Nat, a = x := ⟨a.toNat, by omega⟩
  obtain ⟨y, rfl⟩ : ∃ y : Nat, b = y := ⟨b.toNat, by omega⟩
  rw [two_pow_cast] at hm hb2
  have h1 : x % 2 ^ k = 0 := by exact_mod_cast hm
  have h2 : y < 2 ^ k := by exact_mod_cast hb2
  have h3 : 2 ^ k < 2 ^ 32 := Nat.pow_lt_pow_right (by omega) hk
  rw [u32_or_nat _ _ (by omega) (by omega), nat_join k x y h1 h2, Int.natCast_add]
theorem sg2_cases (n : Bool) : sg2 n = 0 ∨ sg2 n = 2147483648 := by cases n <;> simp [sg2]
theorem join32 (n : Bool) (B m : Int) (h0 : 0 ≤ B) (h1 : B < 256) (m0 : 0 ≤ m) (m1 : m < 8388608) : bits .or .u32 (bits .or .u32 (sg2 n) (B * 8388608)) m = sg2 n + B * 8388608 + m := by
  have hs := sg2_cases n
  have e63 : (2 : Int) ^ 31 = 2147483648 := by decide
  have e52 : (2 : Int) ^ 23 = 8388608 := by decide
  rw [or_mul2 (sg2 n) (B * 8388608) 31 (by omega) (by omega) (by omega) (by rw [e63]; omega) (by omega) (by rw [e63]; omega)]
  exact or_mul2 _ m 23 (by omega) (by omega) (by omega) (by rw [e52]; omega) m0 (by rw [e52]; exact m1)
set_option maxRecDepth 100000 in
set_option maxHeartbeats 4000000 in
theorem msb32_lit (b c : Nat) (ys : List Int) (x : Int) (w : World) (hb : Blk w b ys) (hn : 1 ≤ ys.length) (h0 : ys.getD 0 0 = x) (hx0 : 0 ≤ x) (hx1 : x < 18446744073709551616) :
    Calls Tryz.prog 100 #[.slice (some ⟨b, 0, none⟩) 1 c] w fun e w' => e = .returned (.int .u32 (x / 4294967296)) ∧ w' = w := by
  have hc : w.cell? ⟨b, 0, none⟩ = some (.int .u64 x) := by rw [hb.cell _ (by omega), h0]
  have h1 : IntKind.u32.wrap (x / 4294967296) = x / 4294967296 := by rw [IntKind.wrap_u32]; omega
  go_enter Tryz.func100, Tryz.ntmps100
  go_wp2_with fail
  go_ret
  exact ⟨rfl, rfl⟩
def F32Ans (w : World) (p k : Nat) (T E rb sb : Int) (n : Bool) (en : Ending) (w' : World) : Prop := ∃ a x e' v, en = .returned (.tuple #[.float .f32 v, .int .i8 a]) ∧ RoundRel p k T E rb sb n a x e' ∧ Only w w' (fun _ => False) ∧
  ((-125 ≤ e' ∧ (v : Int) = sg2 n + (e' + 125) * 8388608 + x / 1099511627776) ∨ (e' < -125 ∧ (v : Int) = sg2 n + x / 2 ^ (64 - (149 + e').toNat)))
set_option linter.unusedVariables false in
set_option linter.unusedSimpArgs false in
set_option maxRecDepth 100000 in
set_option maxHeartbeats 8000000 in
theorem float32_N (x b c m  P : Nat) (ys : List Int) (E T rb sb : Int) (n : Bool) (w : World) (hx : w.heap[x]? = some (.cells (fl P 0 1 n (.slice (some ⟨b, 0, none⟩) m c) E) 119 (0, 0))) (hb : Blk w b ys) (hm : Mant ys m c) (hP : 64 ≤ P) (hP2 : P < 4294967296) (hT : ys.getD (m - 1) 0 = T) (hE1 : E ≤ 128) (hE0 : -125 ≤ E)
    (hrb : T / 2 ^ (40 - 1) % 2 = rb) (hst : (Stk (fun i => ys.getD i 0) (m - 1) (40 - 1) ∧ sb = 0) ∨ (¬ Stk (fun i => ys.getD i 0) (m - 1) (40 - 1) ∧ sb = 1)) (hfin : ∀ a x e', RoundRel 24 40 T E rb sb n a x e' → e' ≤ 128) :
    Calls Tryz.prog 75 #[.pointer (some ⟨x, 0, none⟩)] w (F32Ans w 24 40 T E rb sb n) := by
  have x3 : w.cell? ⟨x, 3, none⟩ = some (.int .u8 1) := blk_cell hx 3
  have x4 : w.cell? ⟨x, 4, none⟩ = some (.bool n) := blk_cell hx 4
  have x6 : w.cell? ⟨x, 6, none⟩ = some (.int .i32 E) := blk_cell hx 6
  have w1 : IntKind.i32.wrap (E - 1) = E - 1 := by rw [IntKind.wrap_i32]; omega
  have d1 : decide (E - 1 < -126) = false := by rw [decide_eq_false_iff_not]; omega
  have hxl := blk_lt hx
  have HX := Lib.hid (And.intro hx (And.intro hb (And.intro hm (And.intro hT (And.intro hrb hst)))))
  have HF := Lib.hid hfin
  clear hx hb hm hT hrb hst hfin 
  go_enter Tryz.func75, Tryz.ntmps75
  have HO0 := Lib.hid (Only.refl w (fun _ => False))
  have hxd := HX.out.1
  have hbd := HX.out.2.1
  have HXD := Lib.hid (And.intro hxd hbd)
  clear hxd hbd
  go_upto_region 19 with (fail)
  go_wp2_with fail
  obtain ⟨_, _, hm, hT, hrb, hst⟩ := HX.out
  refine (set_any_flt w.heap.size x b c m 24 40 P ys E T rb sb n _ (heap_alloc_new w _) ((Below.heap_alloc _ _ x hxl).trans HXD.out.1) (((Only.refl w (fun _ => False)).alloc _).blk HXD.out.2 (fun h => h)) hm (by omega) rfl (by omega) (by omega) hP hP2 hT hrb hst (by omega) (by omega)).mono ?_
  rintro en w2 ⟨rfl, ⟨b', c', a, x', e', zs, hf2, hb2, hl2, y0, hbb, hrel⟩, ho2⟩
  have hfin := HF.out a x' e' hrel
  have hxx : w2.heap[x]? = some (.cells (fl P 0 1 n (.slice (some ⟨b, 0, none⟩) m c) E) 119 (0, 0)) := (ho2.kept x (by simp; omega) (by omega)).trans ((Below.heap_alloc _ _ x hxl).trans HXD.out.1)
  have hoA : Only w w2 (fun _ => False) := HO0.out.trans (((Only.refl w (fun _ => False)).alloc _).step ho2 (by rintro i hi rfl; omega))
  have HO := Lib.hid hoA
  have HREL := Lib.hid hrel
  have hr1 := RoundRel.range hrel
  have hTT : 9223372036854775808 ≤ T ∧ T < 18446744073709551616 := by rw [← hT]; exact ⟨hm.2.2.2.2.2.2, (hm.2.2.2.2.2.1 (m - 1) (by have := hm.1; omega)).2⟩
  have hw := RoundRel.word hrel (by omega) (by omega) hTT.1 hTT.2
  clear hoA ho2 hbb hm hT hrb hst x4 hrel HX HXD HF HO0
  generalize w.heap.size = r at *
  have x4 : w2.cell? ⟨x, 4, none⟩ = some (.bool n) := blk_cell hxx 4
  have r2 : w2.cell? ⟨r, 2, none⟩ = some (.int .i8 a) := blk_cell hf2 2
  have r3 : w2.cell? ⟨r, 3, none⟩ = some (.int .u8 1) := blk_cell hf2 3
  have r5 : w2.cell? ⟨r, 5, none⟩ = some (.slice (some ⟨b', 0, none⟩) 1 c') := blk_cell hf2 5
  have r6 : w2.cell? ⟨r, 6, none⟩ = some (.int .i32 e') := blk_cell hf2 6
  obtain ⟨y', hy'⟩ : ∃ y', y' = x' / 4294967296 := ⟨_, rfl⟩
  have hyr : 2147483648 ≤ y' ∧ y' < 4294967296 := by omega
  have HM : Hid (∀ W, Blk W b' zs → Calls Tryz.prog 100 #[.slice (some ⟨b', 0, none⟩) 1 c'] W fun e w' => e = .returned (.int .u32 y') ∧ w' = W) := Lib.hid (fun W hb => by rw [hy']; exact msb32_lit b' c' zs x' W hb hl2 y0 (by omega) (by omega))
  have HY := Lib.hid hy'
  clear hy'
  clear hf2 hxx
  have v1 : IntKind.i32.wrap (e' - 1) = e' - 1 := by rw [IntKind.wrap_i32]; omega
  have d5 : decide (127 < e' - 1) = false := by rw [decide_eq_false_iff_not]; omega
  go_upto_if 90 with (fail)
  go_cut [8] (fun s wx => s = .int .u32 (sg2 n) ∧ w2 = wx)
  case first =>
    cases n
    · go_wp2_with fail
      go_meet
      exact ⟨rfl, rfl⟩
    · go_wp2_with fail
      go_meet
      exact ⟨rfl, rfl⟩
  case rest =>
  obtain ⟨rfl, rfl⟩ := hcut
  by_cases hd : e' < -125
  · omega
  · have d6 : decide (e' - 1 < -126) = false := by rw [decide_eq_false_iff_not]; omega
    have v2 : IntKind.i32.wrap (e' - 1 + 127) = e' + 126 := by rw [IntKind.wrap_i32]; omega
    have v3 : IntKind.u32.wrap (e' + 126) = e' + 126 := by rw [IntKind.wrap_u32]; omega
    go_wp2_with fail
    refine (HM.out _ hb2).mono ?_
    rintro en w' ⟨rfl, hw⟩
    rw [hw]
    clear hw w'
    go_upto_region 33 with (fail)
    go_quiet (fail)
    go_wp2_with fail
    go_ret2
    have hj : bits .or .u32 (bits .or .u32 (sg2 n) ((e' + 126) * 8388608)) (bits .and .u32 (y' / 256) 8388607) = sg2 n + (e' + 125) * 8388608 + y' / 256 := by
      rw [and_23 _ (by omega) (by omega), join32 n _ _ (by omega) (by omega) (by omega) (by omega)]
      omega
    have hs := sg2_cases n
    exact ⟨a, x', e', _, rfl, HREL.out, HO.out.drewN _, .inl ⟨by omega, by rw [hj]; have := HY.out; omega⟩⟩
set_option linter.unusedVariables false in
set_option linter.unusedSimpArgs false in
set_option maxRecDepth 100000 in
set_option maxHeartbeats 8000000 in
theorem float32_D (x b c m p k P : Nat) (ys : List Int) (E T rb sb : Int) (n : Bool) (w : World) (hx : w.heap[x]? = some (.cells (fl P 0 1 n (.slice (some ⟨b, 0, none⟩) m c) E) 119 (0, 0))) (hb : Blk w b ys) (hm : Mant ys m c) (hP : 64 ≤ P) (hP2 : P < 4294967296) (hT : ys.getD (m - 1) 0 = T) (hE1 : E ≤ 128) (hE0 : E < -125) (hpE : 149 + E = p) (hp0 : 0 < p) (hk : k = 64 - p)
    (hrb : T / 2 ^ (k - 1) % 2 = rb) (hst : (Stk (fun i => ys.getD i 0) (m - 1) (k - 1) ∧ sb = 0) ∨ (¬ Stk (fun i => ys.getD i 0) (m - 1) (k - 1) ∧ sb = 1)) (hfin : ∀ a x e', RoundRel p k T E rb sb n a x e' → e' ≤ 128) :
    Calls Tryz.prog 75 #[.pointer (some ⟨x, 0, none⟩)] w (F32Ans w p k T E rb sb n) := by
  have x3 : w.cell? ⟨x, 3, none⟩ = some (.int .u8 1) := blk_cell hx 3
  have x4 : w.cell? ⟨x, 4, none⟩ = some (.bool n) := blk_cell hx 4
  have x6 : w.cell? ⟨x, 6, none⟩ = some (.int .i32 E) := blk_cell hx 6
  have w1 : IntKind.i32.wrap (E - 1) = E - 1 := by rw [IntKind.wrap_i32]; omega
  have d1 : decide (E - 1 < -126) = true := by rw [decide_eq_true_eq]; omega
  have w2 : IntKind.i64.wrap (E - 1) = E - 1 := by rw [IntKind.wrap_i64]; omega
  have w3 : (150 : Int) + (E - 1) = p := by omega
  have w4 : IntKind.i64.wrap (p : Int) = p := by rw [IntKind.wrap_i64]; omega
  have w5 : IntKind.u32.wrap (p : Int) = p := by rw [IntKind.wrap_u32]; omega
  have d2 : decide ((p : Int) < 0) = false := by rw [decide_eq_false_iff_not]; omega
  have d3 : ((p : Int) == 0) = false := by rw [beq_eq_false_iff_ne]; omega
  have x5 : w.cell? ⟨x, 5, none⟩ = some (.slice (some ⟨b, 0, none⟩) m c) := blk_cell hx 5
  have hxl := blk_lt hx
  have HX := Lib.hid (And.intro hx (And.intro hb (And.intro hm (And.intro hT (And.intro hrb hst)))))
  have HF := Lib.hid hfin
  have HK := Lib.hid (And.intro hk hpE)
  clear hx hb hm hT hrb hst hfin hk hpE
  go_enter Tryz.func75, Tryz.ntmps75
  go_upto_region 8 with (fail)
  go_quiet (fail)
  have HO0 := Lib.hid ((Only.refl w (fun _ => False)).drewN nq)
  have hxd : (w.drewN nq).heap[x]? = some (.cells (fl P 0 1 n (.slice (some ⟨b, 0, none⟩) m c) E) 119 (0, 0)) := (HO0.out.kept x hxl (fun h => h)).trans HX.out.1
  have hbd := HO0.out.blk HX.out.2.1 (fun h => h)
  replace hxl := blk_lt hxd
  clear x3 x4 x5 x6
  generalize w.drewN nq = wd at *
  have x4 : wd.cell? ⟨x, 4, none⟩ = some (.bool n) := blk_cell hxd 4
  have HXD := Lib.hid (And.intro hxd hbd)
  clear hxd hbd
  go_upto_region 19 with (fail)
  go_wp2_with fail
  obtain ⟨_, _, hm, hT, hrb, hst⟩ := HX.out
  refine (set_any_flt wd.heap.size x b c m p k P ys E T rb sb n _ (heap_alloc_new wd _) ((Below.heap_alloc _ _ x hxl).trans HXD.out.1) (((Only.refl wd (fun _ => False)).alloc _).blk HXD.out.2 (fun h => h)) hm (by omega) HK.out.1 (by omega) (by omega) hP hP2 hT hrb hst (by omega) (by omega)).mono ?_
  rintro en w2 ⟨rfl, ⟨b', c', a, x', e', zs, hf2, hb2, hl2, y0, hbb, hrel⟩, ho2⟩
  have hfin := HF.out a x' e' hrel
  have hxx : w2.heap[x]? = some (.cells (fl P 0 1 n (.slice (some ⟨b, 0, none⟩) m c) E) 119 (0, 0)) := (ho2.kept x (by simp; omega) (by omega)).trans ((Below.heap_alloc _ _ x hxl).trans HXD.out.1)
  have hoA : Only w w2 (fun _ => False) := HO0.out.trans (((Only.refl wd (fun _ => False)).alloc _).step ho2 (by rintro i hi rfl; omega))
  have HO := Lib.hid hoA
  have HREL := Lib.hid hrel
  have hr1 := RoundRel.range hrel
  have hTT : 9223372036854775808 ≤ T ∧ T < 18446744073709551616 := by rw [← hT]; exact ⟨hm.2.2.2.2.2.2, (hm.2.2.2.2.2.1 (m - 1) (by have := hm.1; omega)).2⟩
  have hw := RoundRel.word hrel (by have := HK.out.1; omega) (by omega) hTT.1 hTT.2
  clear hoA ho2 hbb hm hT hrb hst x4 hrel HX HXD HF HO0
  generalize wd.heap.size = r at *
  have x4 : w2.cell? ⟨x, 4, none⟩ = some (.bool n) := blk_cell hxx 4
  have r2 : w2.cell? ⟨r, 2, none⟩ = some (.int .i8 a) := blk_cell hf2 2
  have r3 : w2.cell? ⟨r, 3, none⟩ = some (.int .u8 1) := blk_cell hf2 3
  have r5 : w2.cell? ⟨r, 5, none⟩ = some (.slice (some ⟨b', 0, none⟩) 1 c') := blk_cell hf2 5
  have r6 : w2.cell? ⟨r, 6, none⟩ = some (.int .i32 e') := blk_cell hf2 6
  obtain ⟨y', hy'⟩ : ∃ y', y' = x' / 4294967296 := ⟨_, rfl⟩
  have hyr : 2147483648 ≤ y' ∧ y' < 4294967296 := by omega
  have HM : Hid (∀ W, Blk W b' zs → Calls Tryz.prog 100 #[.slice (some ⟨b', 0, none⟩) 1 c'] W fun e w' => e = .returned (.int .u32 y') ∧ w' = W) := Lib.hid (fun W hb => by rw [hy']; exact msb32_lit b' c' zs x' W hb hl2 y0 (by omega) (by omega))
  have HY := Lib.hid hy'
  clear hy'
  clear hf2 hxx
  have v1 : IntKind.i32.wrap (e' - 1) = e' - 1 := by rw [IntKind.wrap_i32]; omega
  have d5 : decide (127 < e' - 1) = false := by rw [decide_eq_false_iff_not]; omega
  go_upto_if 90 with (fail)
  go_cut [8] (fun s wx => s = .int .u32 (sg2 n) ∧ w2 = wx)
  case first =>
    cases n
    · go_wp2_with fail
      go_meet
      exact ⟨rfl, rfl⟩
    · go_wp2_with fail
      go_meet
      exact ⟨rfl, rfl⟩
  case rest =>
  obtain ⟨rfl, rfl⟩ := hcut
  by_cases hd : e' < -125
  · have d6 : decide (e' - 1 < -126) = true := by rw [decide_eq_true_eq]; omega
    have v2 : IntKind.i64.wrap (e' - 1) = e' - 1 := by rw [IntKind.wrap_i64]; omega
    obtain ⟨q, hq⟩ : ∃ q : Nat, 149 + e' = q := ⟨(149 + e').toNat, by omega⟩
    have v3 : (150 : Int) + (e' - 1) = q := by omega
    have v4 : IntKind.i64.wrap (q : Int) = q := by rw [IntKind.wrap_i64]; omega
    obtain ⟨t, ht⟩ : ∃ t : Nat, 32 - (q : Int) = t := ⟨(32 - (q : Int)).toNat, by omega⟩
    have v5 : IntKind.i64.wrap (t : Int) = t := by rw [IntKind.wrap_i64]; omega
    have v6 : IntKind.u64.wrap (t : Int) = t := by rw [IntKind.wrap_u64]; omega
    have HQ := Lib.hid hq
    clear hq
    go_wp2_with fail
    refine (HM.out _ hb2).mono ?_
    rintro en w' ⟨rfl, hw⟩
    rw [hw]
    clear hw w'
    go_upto_region 33 with (fail)
    go_quiet (fail)
    go_wp2_with fail
    go_ret2
    have hq := HQ.out
    have hpow : (2 : Int) ^ t = 2 ^ (32 - q) := by rw [show t = 32 - q by omega]
    have hlt : y' / 2 ^ t < 8388608 := by
      have e : (8388608 : Int) * 2 ^ (9 : Nat) = 4294967296 := by decide
      have hp : (0 : Int) < 2 ^ t := Int.pow_pos (by omega)
      rw [Int.ediv_lt_iff_lt_mul hp]
      have : (2 : Int) ^ 9 ≤ 2 ^ t := by
        rw [two_pow_cast, two_pow_cast]
        exact Int.ofNat_le.2 (Nat.pow_le_pow_right (by omega) (by omega))
      have := Int.mul_le_mul_of_nonneg_left this (show (0 : Int) ≤ 8388608 by decide)
      omega
    have h0 : 0 ≤ y' / 2 ^ t := Int.ediv_nonneg (by omega) (Int.le_of_lt (Int.pow_pos (by omega)))
    have hj : bits .or .u32 (bits .or .u32 (sg2 n) 0) (y' / 2 ^ t) = sg2 n + y' / 2 ^ t := by
      have := join32 n 0 (y' / 2 ^ t) (by omega) (by omega) h0 hlt
      rw [Int.zero_mul, Int.add_zero] at this
      exact this
    have hs := sg2_cases n
    refine ⟨a, x', e', _, rfl, HREL.out, HO.out.drewN _, .inr ⟨hd, ?_⟩⟩
    rw [hj, show (149 + e').toNat = q by omega]
    have h5 : x' / 2 ^ (64 - q) = y' / 2 ^ t := by
      rw [HY.out, show 64 - q = 32 + t by omega, Int.pow_add, ← Int.ediv_ediv_of_nonneg (by decide)]
      rfl
    rw [h5]
    omega
  · have d6 : decide (e' - 1 < -126) = false := by rw [decide_eq_false_iff_not]; omega
    have v2 : IntKind.i32.wrap (e' - 1 + 127) = e' + 126 := by rw [IntKind.wrap_i32]; omega
    have v3 : IntKind.u32.wrap (e' + 126) = e' + 126 := by rw [IntKind.wrap_u32]; omega
    go_wp2_with fail
    refine (HM.out _ hb2).mono ?_
    rintro en w' ⟨rfl, hw⟩
    rw [hw]
    clear hw w'
    go_upto_region 33 with (fail)
    go_quiet (fail)
    go_wp2_with fail
    go_ret2
    have hj : bits .or .u32 (bits .or .u32 (sg2 n) ((e' + 126) * 8388608)) (bits .and .u32 (y' / 256) 8388607) = sg2 n + (e' + 125) * 8388608 + y' / 256 := by
      rw [and_23 _ (by omega) (by omega), join32 n _ _ (by omega) (by omega) (by omega) (by omega)]
      omega
    have hs := sg2_cases n
    exact ⟨a, x', e', _, rfl, HREL.out, HO.out.drewN _, .inl ⟨by omega, by rw [hj]; have := HY.out; omega⟩⟩
theorem RoundRel.exact {p k : Nat} {T e : Int} {n : Bool} {a x e' : Int} (h : RoundRel p k T e 0 0 n a x e') : a = 0 ∧ x = T / 2 ^ k * 2 ^ k ∧ e' = e := by
  obtain ⟨ha, h | h | h⟩ := h
  · exact ⟨ha, h.2.1, h.2.2⟩
  · exact absurd h.1 (by simp [Inc])
  · exact absurd h.1 (by simp [Inc])
set_option maxRecDepth 100000 in
set_option maxHeartbeats 4000000 in
theorem float64_zero (x : Nat) (p a e : Int) (v : Value) (w : World) (hx : w.heap[x]? = some (.cells (fl p a 0 false v e) 119 (0, 0))) :
    Calls Tryz.prog 76 #[.pointer (some ⟨x, 0, none⟩)] w fun en w' => en = .returned (.tuple #[.float .f64 0, .int .i8 0]) ∧ w' = w := by
  have x3 : w.cell? ⟨x, 3, none⟩ = some (.int .u8 0) := blk_cell hx 3
  have x4 : w.cell? ⟨x, 4, none⟩ = some (.bool false) := blk_cell hx 4
  clear hx
  go_enter Tryz.func76, Tryz.ntmps76
  go_wp2_with fail
  go_ret2
  exact ⟨rfl, rfl⟩
set_option maxRecDepth 100000 in
set_option maxHeartbeats 4000000 in
theorem float32_zero (x : Nat) (p a e : Int) (v : Value) (w : World) (hx : w.heap[x]? = some (.cells (fl p a 0 false v e) 119 (0, 0))) :
    Calls Tryz.prog 75 #[.pointer (some ⟨x, 0, none⟩)] w fun en w' => en = .returned (.tuple #[.float .f32 0, .int .i8 0]) ∧ w' = w := by
  have x3 : w.cell? ⟨x, 3, none⟩ = some (.int .u8 0) := blk_cell hx 3
  have x4 : w.cell? ⟨x, 4, none⟩ = some (.bool false) := blk_cell hx 4
  clear hx
  go_enter Tryz.func75, Tryz.ntmps75
  go_wp2_with fail
  go_ret2
  exact ⟨rfl, rfl⟩
set_option maxRecDepth 100000 in
set_option maxHeartbeats 400000 in
theorem inf_pos (w : World) : Calls Tryz.prog 27 #[.int .i64 1] w fun e w' => e = .returned (.float .f64 9218868437227405312) ∧ w' = w := by
  go_enter Tryz.func27, Tryz.ntmps27
  go_wp2_with fail
  go_ret
  exact ⟨rfl, rfl⟩
set_option maxRecDepth 100000 in
set_option maxHeartbeats 400000 in
theorem inf_neg (w : World) : Calls Tryz.prog 27 #[.int .i64 (-1)] w fun e w' => e = .returned (.float .f64 18442240474082181120) ∧ w' = w := by
  go_enter Tryz.func27, Tryz.ntmps27
  go_wp2_with fail
  go_ret
  exact ⟨rfl, rfl⟩
set_option linter.unusedVariables false in
set_option linter.unusedSimpArgs false in
set_option maxRecDepth 100000 in
set_option maxHeartbeats 8000000 in
theorem float64_inf (x b c m  P : Nat) (ys : List Int) (E T rb sb : Int) (n : Bool) (w : World) (hx : w.heap[x]? = some (.cells (fl P 0 1 n (.slice (some ⟨b, 0, none⟩) m c) E) 119 (0, 0))) (hb : Blk w b ys) (hm : Mant ys m c) (hP : 64 ≤ P) (hP2 : P < 4294967296) (hT : ys.getD (m - 1) 0 = T) (hE1 : E ≤ 2000000000) (hE0 : -1021 ≤ E)
    (hrb : T / 2 ^ (11 - 1) % 2 = rb) (hst : (Stk (fun i => ys.getD i 0) (m - 1) (11 - 1) ∧ sb = 0) ∨ (¬ Stk (fun i => ys.getD i 0) (m - 1) (11 - 1) ∧ sb = 1)) (hfin : ∀ a x e', RoundRel 53 11 T E rb sb n a x e' → 1024 < e') :
    Calls Tryz.prog 76 #[.pointer (some ⟨x, 0, none⟩)] w fun en w' => en = .returned (.tuple #[.float .f64 (if n then 18442240474082181120 else 9218868437227405312), .int .i8 (if n then -1 else 1)]) ∧ Only w w' (fun _ => False) := by
  have x3 : w.cell? ⟨x, 3, none⟩ = some (.int .u8 1) := blk_cell hx 3
  have x4 : w.cell? ⟨x, 4, none⟩ = some (.bool n) := blk_cell hx 4
  have x6 : w.cell? ⟨x, 6, none⟩ = some (.int .i32 E) := blk_cell hx 6
  have w1 : IntKind.i32.wrap (E - 1) = E - 1 := by rw [IntKind.wrap_i32]; omega
  have d1 : decide (E - 1 < -1022) = false := by rw [decide_eq_false_iff_not]; omega
  have hxl := blk_lt hx
  have HX := Lib.hid (And.intro hx (And.intro hb (And.intro hm (And.intro hT (And.intro hrb hst)))))
  have HF := Lib.hid hfin
  clear hx hb hm hT hrb hst hfin 
  go_enter Tryz.func76, Tryz.ntmps76
  have HO0 := Lib.hid (Only.refl w (fun _ => False))
  have hxd := HX.out.1
  have hbd := HX.out.2.1
  have HXD := Lib.hid (And.intro hxd hbd)
  clear hxd hbd
  go_upto_region 19 with (fail)
  go_wp2_with fail
  obtain ⟨_, _, hm, hT, hrb, hst⟩ := HX.out
  refine (set_any_flt w.heap.size x b c m 53 11 P ys E T rb sb n _ (heap_alloc_new w _) ((Below.heap_alloc _ _ x hxl).trans HXD.out.1) (((Only.refl w (fun _ => False)).alloc _).blk HXD.out.2 (fun h => h)) hm (by omega) rfl (by omega) (by omega) hP hP2 hT hrb hst (by omega) (by omega)).mono ?_
  rintro en w2 ⟨rfl, ⟨b', c', a, x', e', zs, hf2, hb2, hl2, y0, hbb, hrel⟩, ho2⟩
  have hfin := HF.out a x' e' hrel
  have hxx : w2.heap[x]? = some (.cells (fl P 0 1 n (.slice (some ⟨b, 0, none⟩) m c) E) 119 (0, 0)) := (ho2.kept x (by simp; omega) (by omega)).trans ((Below.heap_alloc _ _ x hxl).trans HXD.out.1)
  have hoA : Only w w2 (fun _ => False) := HO0.out.trans (((Only.refl w (fun _ => False)).alloc _).step ho2 (by rintro i hi rfl; omega))
  have HO := Lib.hid hoA
  have HREL := Lib.hid hrel
  have hr1 := RoundRel.range hrel
  have hTT : 9223372036854775808 ≤ T ∧ T < 18446744073709551616 := by rw [← hT]; exact ⟨hm.2.2.2.2.2.2, (hm.2.2.2.2.2.1 (m - 1) (by have := hm.1; omega)).2⟩
  have hw := RoundRel.word hrel (by omega) (by omega) hTT.1 hTT.2
  clear hoA ho2 hbb hm hT hrb hst x4 hrel HX HXD HF HO0
  generalize w.heap.size = r at *
  have x4 : w2.cell? ⟨x, 4, none⟩ = some (.bool n) := blk_cell hxx 4
  have r2 : w2.cell? ⟨r, 2, none⟩ = some (.int .i8 a) := blk_cell hf2 2
  have r3 : w2.cell? ⟨r, 3, none⟩ = some (.int .u8 1) := blk_cell hf2 3
  have r5 : w2.cell? ⟨r, 5, none⟩ = some (.slice (some ⟨b', 0, none⟩) 1 c') := blk_cell hf2 5
  have r6 : w2.cell? ⟨r, 6, none⟩ = some (.int .i32 e') := blk_cell hf2 6
  have HM := Lib.hid (fun W hb => msb_lit b' c' zs x' W hb hl2 y0)
  clear hf2 hxx
  have v1 : IntKind.i32.wrap (e' - 1) = e' - 1 := by rw [IntKind.wrap_i32]; omega
  have d5 : decide (1023 < e' - 1) = true := by rw [decide_eq_true_eq]; omega
  cases n
  · go_wp2_with fail
    refine (inf_pos w2).mono ?_
    rintro en w' ⟨rfl, hw'⟩
    rw [hw']
    clear hw' w'
    go_wp2_with fail
    go_ret2
    exact ⟨rfl, HO.out⟩
  · go_wp2_with fail
    refine (inf_neg w2).mono ?_
    rintro en w' ⟨rfl, hw'⟩
    rw [hw']
    clear hw' w'
    go_wp2_with fail
    go_ret2
    exact ⟨rfl, HO.out⟩
theorem neg_nought (w : World) : (Op.unary .neg (.float .f64 0)).run Tryz.prog w = .ok (.float .f64 9223372036854775808) w := by
  first | kernel_rfl | rfl
set_option linter.unusedSimpArgs false in
set_option maxRecDepth 100000 in
set_option maxHeartbeats 8000000 in
theorem float64_low (x b c m P : Nat) (E : Int) (n : Bool) (w : World) (hx : w.heap[x]? = some (.cells (fl P 0 1 n (.slice (some ⟨b, 0, none⟩) m c) E) 119 (0, 0))) (hE1 : E < -1074) (hE0 : -2000000000 ≤ E) :
    Calls Tryz.prog 76 #[.pointer (some ⟨x, 0, none⟩)] w fun en w' => en = .returned (.tuple #[.float .f64 (if n then 9223372036854775808 else 0), .int .i8 (if n then 1 else -1)]) ∧ Only w w' (fun _ => False) := by
  have x3 : w.cell? ⟨x, 3, none⟩ = some (.int .u8 1) := blk_cell hx 3
  have x4 : w.cell? ⟨x, 4, none⟩ = some (.bool n) := blk_cell hx 4
  have x6 : w.cell? ⟨x, 6, none⟩ = some (.int .i32 E) := blk_cell hx 6
  have w1 : IntKind.i32.wrap (E - 1) = E - 1 := by rw [IntKind.wrap_i32]; omega
  have d1 : decide (E - 1 < -1022) = true := by rw [decide_eq_true_eq]; omega
  have w2 : IntKind.i64.wrap (E - 1) = E - 1 := by rw [IntKind.wrap_i64]; omega
  have w4 : IntKind.i64.wrap (1075 + (E - 1)) = 1075 + (E - 1) := by rw [IntKind.wrap_i64]; omega
  have d2 : decide (1075 + (E - 1) < 0) = true := by rw [decide_eq_true_eq]; omega
  clear hx
  go_enter Tryz.func76, Tryz.ntmps76
  go_upto_region 8 with (fail)
  go_quiet (fail)
  have HO0 := Lib.hid ((Only.refl w (fun _ => False)).drewN nq)
  cases n
  · go_wp2_with fail
    go_ret2
    exact ⟨rfl, HO0.out⟩
  · have hng := neg_nought
    go_wp2_with fail
    go_ret2
    exact ⟨rfl, HO0.out⟩
set_option linter.unusedSimpArgs false in
set_option maxRecDepth 100000 in
set_option maxHeartbeats 8000000 in
theorem float64_half (x b c m P : Nat) (ys : List Int) (E sb : Int) (n : Bool) (w : World) (hx : w.heap[x]? = some (.cells (fl P 0 1 n (.slice (some ⟨b, 0, none⟩) m c) E) 119 (0, 0))) (hb : Blk w b ys) (hm : Mant ys m c) (hE : E = -1074) (hst : (Stk (fun i => ys.getD i 0) (m - 1) 63 ∧ sb = 0) ∨ (¬ Stk (fun i => ys.getD i 0) (m - 1) 63 ∧ sb = 1)) :
    Calls Tryz.prog 76 #[.pointer (some ⟨x, 0, none⟩)] w fun en w' => en = .returned (.tuple #[.float .f64 (if sb = 0 then (if n then 9223372036854775808 else 0) else if n then 9223372036854775809 else 1), .int .i8 (if sb = 0 then (if n then 1 else -1) else if n then -1 else 1)]) ∧ Only w w' (fun _ => False) := by
  obtain ⟨g0, g1, g2, g3, g4, g5, g6⟩ := hm
  have x3 : w.cell? ⟨x, 3, none⟩ = some (.int .u8 1) := blk_cell hx 3
  have x4 : w.cell? ⟨x, 4, none⟩ = some (.bool n) := blk_cell hx 4
  have x5 : w.cell? ⟨x, 5, none⟩ = some (.slice (some ⟨b, 0, none⟩) m c) := blk_cell hx 5
  have x6 : w.cell? ⟨x, 6, none⟩ = some (.int .i32 (-1074)) := by rw [← hE]; exact blk_cell hx 6
  have m1 : IntKind.u64.wrap (m : Int) = m := by rw [IntKind.wrap_u64]; omega
  have m2 : IntKind.u64.wrap ((m : Int) * 64) = (m : Int) * 64 := by rw [IntKind.wrap_u64]; omega
  have m3 : (m : Int) * 64 - 1 = ((64 * (m - 1) + 63 : Nat) : Int) := by omega
  have m4 : IntKind.u64.wrap ((64 * (m - 1) + 63 : Nat) : Int) = ((64 * (m - 1) + 63 : Nat) : Int) := by rw [IntKind.wrap_u64]; omega
  have HST : Hid (∀ W, Blk W b ys → Calls Tryz.prog 98 #[.slice (some ⟨b, 0, none⟩) m c, .int .u64 ((64 * (m - 1) + 63 : Nat) : Int)] W fun e w' => e = .returned (.int .u64 sb) ∧ w' = W) := Lib.hid (fun W hb' => (sticky_at b m c (m - 1) 63 ys W hb' g2 (by omega) g3 (by omega) (by omega) g5).mono (by
    rintro e w' ⟨h1, h2⟩
    refine ⟨?_, h2⟩
    rcases h1 with h | h <;> rcases hst with g | g
    · rw [h.2, g.2]
    · exact absurd h.1 g.1
    · exact absurd g.1 h.1
    · rw [h.2, g.2]))
  have hs2 : sb = 0 ∨ sb = 1 := by rcases hst with h | h <;> omega
  generalize ((64 * (m - 1) + 63 : Nat) : Int) = R at *
  have HB := Lib.hid hb
  clear hx hb hst hE g5 g6
  have hng := neg_nought
  rcases hs2 with rfl | rfl
  · go_enter Tryz.func76, Tryz.ntmps76
    go_upto_region 8 with (fail)
    go_quiet ((go_at_call 98; exact Calls.quiet_of_same (HST.out _ (by exact HB.out))))
    have HO0 := Lib.hid ((Only.refl w (fun _ => False)).drewN nq)
    cases n
    · go_wp2_with fail
      go_ret2
      exact ⟨rfl, HO0.out⟩
    · go_wp2_with fail
      go_ret2
      exact ⟨rfl, HO0.out⟩
  · go_enter Tryz.func76, Tryz.ntmps76
    go_upto_region 8 with (fail)
    go_quiet ((go_at_call 98; exact Calls.quiet_of_same (HST.out _ (by exact HB.out))))
    have HO0 := Lib.hid ((Only.refl w (fun _ => False)).drewN nq)
    cases n
    · go_wp2_with fail
      go_ret2
      exact ⟨rfl, HO0.out⟩
    · go_wp2_with fail
      go_ret2
      exact ⟨rfl, HO0.out⟩
end Go.Proofs.YtlfmgdpbjapdjaaGreatFmtBesafter
