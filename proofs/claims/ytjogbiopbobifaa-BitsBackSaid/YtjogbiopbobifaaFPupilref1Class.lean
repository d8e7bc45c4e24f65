import Derived.Test.YtjogbiopbobifaaFBase
import Derived.Test.YtjogbiopbobifaaFPupilref1Of
import Derived.Test.YtjogbiopbobifaaFPupilref1KindCut
namespace Go.Proofs.Ytjogbiopbobifaa.F
open Go.RowKit Go.Proofs.YtjogbiopbobifaaW.PrintWords Go.Proofs.YtjogbiopbobifaaW.PrintLast Go.Proofs.YtjogbiopbobifaaW.PrintMore
attribute [local go_sem] max2_int min2_int max_two min_two max_three min_three max_four min_four   -- for this text's walks alone
set_option linter.unusedVariables false
set_option linter.unusedSimpArgs false

/-! ### pupilref1_Class: function 47 -/
def pupilref1_Class.j0 : Nat → Int → Int → Bool → Int → Int → Int → Int → Int → Int → Int → Int → Int → Option (Int)
  | 0, _, _, _, _, _, _, _, _, _, _, _, _ => none
  | k + 1, x8, x9, x26, x135000, x135001, x135002, x135003, x135004, x135005, x135006, x135007, x135008 => if x26 = true then (some 4) else (if x8 = x135003 then (some 3) else (if x8 > 0 then (some 2) else (if x9 > 0 then (some 1) else (some 0))))
def pupilref1_Class.f (k : Nat) (a0 : Int) (a1 : Int) : Option (Int) := (pupilref1_Of.f a1).bind fun bt124 => (if bt124.2.2.2.2.2.2.2.2.2 = true then ((pupilref1_Kind_cut.f k bt124.1 bt124.2.1 bt124.2.2.1 bt124.2.2.2.1 bt124.2.2.2.2.1 bt124.2.2.2.2.2.1 bt124.2.2.2.2.2.2.1 bt124.2.2.2.2.2.2.2.1 bt124.2.2.2.2.2.2.2.2.1 a0).bind fun bt135 => (if bt135.2.2.2 = true then (if bt135.2.1 = bt124.2.2.2.1 then (pupilref1_Class.j0 k bt135.2.1 bt135.2.2.1 (decide (bt135.2.2.1 > 0)) bt124.1 bt124.2.1 bt124.2.2.1 bt124.2.2.2.1 bt124.2.2.2.2.1 bt124.2.2.2.2.2.1 bt124.2.2.2.2.2.2.1 bt124.2.2.2.2.2.2.2.1 bt124.2.2.2.2.2.2.2.2.1) else (pupilref1_Class.j0 k bt135.2.1 bt135.2.2.1 false bt124.1 bt124.2.1 bt124.2.2.1 bt124.2.2.2.1 bt124.2.2.2.2.1 bt124.2.2.2.2.2.1 bt124.2.2.2.2.2.2.1 bt124.2.2.2.2.2.2.2.1 bt124.2.2.2.2.2.2.2.2.1)) else (pupilref1_Class.j0 k bt135.2.1 bt135.2.2.1 true bt124.1 bt124.2.1 bt124.2.2.1 bt124.2.2.2.1 bt124.2.2.2.2.1 bt124.2.2.2.2.2.1 bt124.2.2.2.2.2.2.1 bt124.2.2.2.2.2.2.2.1 bt124.2.2.2.2.2.2.2.2.1))) else (some 0))
theorem pupilref1_Class.mono_l : ∀ k, (∀ y0 y1 y2 y3 y4 y5 y6 y7 y8 y9 y10 y11, LeO (pupilref1_Class.j0 k y0 y1 y2 y3 y4 y5 y6 y7 y8 y9 y10 y11) (pupilref1_Class.j0 (k + 1) y0 y1 y2 y3 y4 y5 y6 y7 y8 y9 y10 y11))
  | 0 => fun _ _ _ _ _ _ _ _ _ _ _ _ r h => by simp [pupilref1_Class.j0] at h
  | k + 1 => by
    have ih0 := pupilref1_Class.mono_l k
    · intro y0 y1 y2 y3 y4 y5 y6 y7 y8 y9 y10 y11
      unfold pupilref1_Class.j0
      repeat' first
      | (with_reducible exact ih0 _ _ _ _ _ _ _ _ _ _ _ _)
      | (with_reducible exact pupilref1_Kind_cut.mono _ _ _ _ _ _ _ _ _ _ _)
      | (with_reducible exact LeO.refl _)
      | (with_reducible exact LeO.none _)
      | (with_reducible refine LeO.ite ?_ ?_)
      | (with_reducible refine LeO.bind ?_ (fun _ => ?_))
      | exact ih0 _ _ _ _ _ _ _ _ _ _ _ _
      | exact pupilref1_Kind_cut.mono _ _ _ _ _ _ _ _ _ _ _
      | exact LeO.none _
      | refine LeO.ite ?_ ?_
      | refine LeO.bind ?_ (fun _ => ?_)
theorem pupilref1_Class.mono : ∀ a0 a1 k, LeO (pupilref1_Class.f k a0 a1) (pupilref1_Class.f (k + 1) a0 a1) := by
  intro a0 a1 k
  have ih0 := pupilref1_Class.mono_l k
  unfold pupilref1_Class.f
  repeat' first
      | (with_reducible exact ih0 _ _ _ _ _ _ _ _ _ _ _ _)
      | (with_reducible exact pupilref1_Kind_cut.mono _ _ _ _ _ _ _ _ _ _ _)
      | (with_reducible exact LeO.refl _)
      | (with_reducible exact LeO.none _)
      | (with_reducible refine LeO.ite ?_ ?_)
      | (with_reducible refine LeO.bind ?_ (fun _ => ?_))
      | exact ih0 _ _ _ _ _ _ _ _ _ _ _ _
      | exact pupilref1_Kind_cut.mono _ _ _ _ _ _ _ _ _ _ _
      | exact LeO.none _
      | refine LeO.ite ?_ ?_
      | refine LeO.bind ?_ (fun _ => ?_)
set_option maxHeartbeats 8000000 in
set_option maxRecDepth 100000 in
theorem pupilref1_Class.calls (k : Nat) (a0 : Int) (a1 : Int) (r : Int) (w : World) (h : pupilref1_Class.f k a0 a1 = some r) :
    Calls Try.prog 47 #[.int .i64 a0, .int .i64 a1] w fun e w' => e = .returned (.int .i64 r) ∧ Below w.heap.size w w' := by
  have hu65 := Try.underlying65
  have HB := Aside0.mk (Below.refl w.heap.size w)
  have H : ((pupilref1_Of.f a1).bind fun bt124 => (if bt124.2.2.2.2.2.2.2.2.2 = true then ((pupilref1_Kind_cut.f k bt124.1 bt124.2.1 bt124.2.2.1 bt124.2.2.2.1 bt124.2.2.2.2.1 bt124.2.2.2.2.2.1 bt124.2.2.2.2.2.2.1 bt124.2.2.2.2.2.2.2.1 bt124.2.2.2.2.2.2.2.2.1 a0).bind fun bt135 => (if bt135.2.2.2 = true then (if bt135.2.1 = bt124.2.2.2.1 then (pupilref1_Class.j0 k bt135.2.1 bt135.2.2.1 (decide (bt135.2.2.1 > 0)) bt124.1 bt124.2.1 bt124.2.2.1 bt124.2.2.2.1 bt124.2.2.2.2.1 bt124.2.2.2.2.2.1 bt124.2.2.2.2.2.2.1 bt124.2.2.2.2.2.2.2.1 bt124.2.2.2.2.2.2.2.2.1) else (pupilref1_Class.j0 k bt135.2.1 bt135.2.2.1 false bt124.1 bt124.2.1 bt124.2.2.1 bt124.2.2.2.1 bt124.2.2.2.2.1 bt124.2.2.2.2.2.1 bt124.2.2.2.2.2.2.1 bt124.2.2.2.2.2.2.2.1 bt124.2.2.2.2.2.2.2.2.1)) else (pupilref1_Class.j0 k bt135.2.1 bt135.2.2.1 true bt124.1 bt124.2.1 bt124.2.2.1 bt124.2.2.2.1 bt124.2.2.2.2.1 bt124.2.2.2.2.2.1 bt124.2.2.2.2.2.2.1 bt124.2.2.2.2.2.2.2.1 bt124.2.2.2.2.2.2.2.2.1))) else (some 0))) = some r := h
  clear h
  replace H := Option.bind_eq_some_iff.mp H
  obtain ⟨⟨t124, t125, t126, t127, t128, t129, t130, t131, t132, t133⟩, A30, H⟩ := H
  replace H : (if t133 = true then ((pupilref1_Kind_cut.f k t124 t125 t126 t127 t128 t129 t130 t131 t132 a0).bind fun bt135 => (if bt135.2.2.2 = true then (if bt135.2.1 = t127 then (pupilref1_Class.j0 k bt135.2.1 bt135.2.2.1 (decide (bt135.2.2.1 > 0)) t124 t125 t126 t127 t128 t129 t130 t131 t132) else (pupilref1_Class.j0 k bt135.2.1 bt135.2.2.1 false t124 t125 t126 t127 t128 t129 t130 t131 t132)) else (pupilref1_Class.j0 k bt135.2.1 bt135.2.2.1 true t124 t125 t126 t127 t128 t129 t130 t131 t132))) else (some 0)) = some r := H
  have A3 := Aside0.mk A30
  clear A30
  by_cases c4 : t133 = true
  · subst c4
    have H1 : ((pupilref1_Kind_cut.f k t124 t125 t126 t127 t128 t129 t130 t131 t132 a0).bind fun bt135 => (if bt135.2.2.2 = true then (if bt135.2.1 = t127 then (pupilref1_Class.j0 k bt135.2.1 bt135.2.2.1 (decide (bt135.2.2.1 > 0)) t124 t125 t126 t127 t128 t129 t130 t131 t132) else (pupilref1_Class.j0 k bt135.2.1 bt135.2.2.1 false t124 t125 t126 t127 t128 t129 t130 t131 t132)) else (pupilref1_Class.j0 k bt135.2.1 bt135.2.2.1 true t124 t125 t126 t127 t128 t129 t130 t131 t132))) = some r := by rw [if_pos rfl] at H; exact H
    clear H
    have H := H1
    clear H1
    replace H := Option.bind_eq_some_iff.mp H
    obtain ⟨⟨t135, t136, t137, t138⟩, A50, H⟩ := H
    replace H : (if t138 = true then (if t136 = t127 then (pupilref1_Class.j0 k t136 t137 (decide (t137 > 0)) t124 t125 t126 t127 t128 t129 t130 t131 t132) else (pupilref1_Class.j0 k t136 t137 false t124 t125 t126 t127 t128 t129 t130 t131 t132)) else (pupilref1_Class.j0 k t136 t137 true t124 t125 t126 t127 t128 t129 t130 t131 t132)) = some r := H
    have A5 := Aside0.mk A50
    clear A50
    have HC6 := Aside0.mk H
    clear H
    go_enter Try.func47, Try.ntmps47
    go_upto_region 5 with (first | ((with_reducible refine gate_callee (f := 96) rfl ?_); refine goesL_ (some 13) rfl rfl Try.func96 (by kernel_rfl) rfl #[.int .i64 a1] rfl (by (try simp only [List.map_toArray, List.map_cons, List.map_nil]); first | done | rfl | (simp only [List.length_drop, List.length_take]; rfl)) ?_; (with_reducible refine (pupilref1_Of.calls a1 t124 t125 t126 t127 t128 t129 t130 t131 t132 true _ A3.out).mono ?_); rintro e w7 ⟨rfl, hb⟩; refine ⟨_, rfl, ?_⟩; have n0_ := Aside0.mk (below_step (by repeat (first | (with_reducible first | exact HB.out | apply below_alloc | apply pw_below_drewN | apply below_drew1) | exact HB.out)) hb); clear HB; have HB := n0_; clear n0_; (try clear hb); (try clear hb2); (try clear hk); (try clear hi)) | ((with_reducible refine gate_dst (N := 5) rfl ?_); refine box_event ?hg (N := 5) ?hd (cs := #[.int .i64 0, .int .i64 0, .int .i64 0, .int .i64 0, .int .i64 0, .int .i64 0, .int .i64 0, .int .i64 0, .int .i64 0]) (t := 65) ?hr ?_; (case hd => rfl); (case hg => rfl); (case hr => first | (go_simp; done) | (go_simp; rfl)); intro gb134 hg w8 hbox hb; have n0_ := Aside0.mk (below_step (by repeat (first | (with_reducible first | exact HB.out | apply below_alloc | apply pw_below_drewN | apply below_drew1) | exact HB.out)) hb); have n1_ := Aside0.mk (hbox); have n2_ := Aside0.mk ((by rw [hg]; exact (below_size (by repeat (first | (with_reducible first | exact HB.out | apply below_alloc | apply pw_below_drewN | apply below_drew1) | exact HB.out))) : w.heap.size ≤ gb134)); have n3_ := Aside0.mk ((by rw [hg]; exact (below_size (by repeat (first | (with_reducible first | exact HB.out | apply below_alloc | apply pw_below_drewN | apply below_drew1) | exact HB.out))) : w.heap.size ≤ gb134)); clear HB; have HB := n0_; have BK134 := n1_; have GW134 := n2_; have GE134 := n3_; clear n0_ n1_ n2_ n3_; clear hb hbox hg; have hcz9_0 : w8.cell? ⟨gb134, 0, none⟩ = some (.int .i64 0) := (blk_cell BK134.out 0).trans rfl; have hcz9_1 : w8.cell? ⟨gb134, 1, none⟩ = some (.int .i64 0) := (blk_cell BK134.out 1).trans rfl; have hcz9_2 : w8.cell? ⟨gb134, 2, none⟩ = some (.int .i64 0) := (blk_cell BK134.out 2).trans rfl; have hcz9_3 : w8.cell? ⟨gb134, 3, none⟩ = some (.int .i64 0) := (blk_cell BK134.out 3).trans rfl; have hcz9_4 : w8.cell? ⟨gb134, 4, none⟩ = some (.int .i64 0) := (blk_cell BK134.out 4).trans rfl; have hcz9_5 : w8.cell? ⟨gb134, 5, none⟩ = some (.int .i64 0) := (blk_cell BK134.out 5).trans rfl; have hcz9_6 : w8.cell? ⟨gb134, 6, none⟩ = some (.int .i64 0) := (blk_cell BK134.out 6).trans rfl; have hcz9_7 : w8.cell? ⟨gb134, 7, none⟩ = some (.int .i64 0) := (blk_cell BK134.out 7).trans rfl; have hcz9_8 : w8.cell? ⟨gb134, 8, none⟩ = some (.int .i64 0) := (blk_cell BK134.out 8).trans rfl; have hfz9_0 := blk_frozen BK134.out 0; have hfz9_1 := blk_frozen BK134.out 1; have hfz9_2 := blk_frozen BK134.out 2; have hfz9_3 := blk_frozen BK134.out 3; have hfz9_4 := blk_frozen BK134.out 4; have hfz9_5 := blk_frozen BK134.out 5; have hfz9_6 := blk_frozen BK134.out 6; have hfz9_7 := blk_frozen BK134.out 7; have hfz9_8 := blk_frozen BK134.out 8) | ((with_reducible refine gate_callee (f := 97) rfl ?_); refine goesL_ (some 21) rfl rfl Try.func97 (by kernel_rfl) rfl #[.agg #[.int .i64 t124, .int .i64 t125, .int .i64 t126, .int .i64 t127, .int .i64 t128, .int .i64 t129, .int .i64 t130, .int .i64 t131, .int .i64 t132], .int .i64 a0] rfl (by (try simp only [List.map_toArray, List.map_cons, List.map_nil]); first | done | rfl | (simp only [List.length_drop, List.length_take]; rfl)) ?_; (with_reducible refine (pupilref1_Kind_cut.calls k t124 t125 t126 t127 t128 t129 t130 t131 t132 a0 t135 t136 t137 t138 _ A5.out).mono ?_); rintro e w10 ⟨rfl, hb⟩; refine ⟨_, rfl, ?_⟩; have n0_ := Aside0.mk (blk_below (g := gb134) (o := .cells #[.int .i64 t124, .int .i64 t125, .int .i64 t126, .int .i64 t127, .int .i64 t128, .int .i64 t129, .int .i64 t130, .int .i64 t131, .int .i64 t132] 65 (0, 0)) (by (with_reducible repeat (first | refine blk_drewN ?_ _ | refine blk_drew ?_ | refine blk_alloc ?_ _)); refine blk_put (cs := #[.int .i64 t124, .int .i64 t125, .int .i64 t126, .int .i64 t127, .int .i64 t128, .int .i64 t129, .int .i64 t130, .int .i64 t131, .int .i64 0]) ?_ 8 _ rfl; (with_reducible repeat (first | refine blk_drewN ?_ _ | refine blk_drew ?_ | refine blk_alloc ?_ _)); refine blk_put (cs := #[.int .i64 t124, .int .i64 t125, .int .i64 t126, .int .i64 t127, .int .i64 t128, .int .i64 t129, .int .i64 t130, .int .i64 0, .int .i64 0]) ?_ 7 _ rfl; (with_reducible repeat (first | refine blk_drewN ?_ _ | refine blk_drew ?_ | refine blk_alloc ?_ _)); refine blk_put (cs := #[.int .i64 t124, .int .i64 t125, .int .i64 t126, .int .i64 t127, .int .i64 t128, .int .i64 t129, .int .i64 0, .int .i64 0, .int .i64 0]) ?_ 6 _ rfl; (with_reducible repeat (first | refine blk_drewN ?_ _ | refine blk_drew ?_ | refine blk_alloc ?_ _)); refine blk_put (cs := #[.int .i64 t124, .int .i64 t125, .int .i64 t126, .int .i64 t127, .int .i64 t128, .int .i64 0, .int .i64 0, .int .i64 0, .int .i64 0]) ?_ 5 _ rfl; (with_reducible repeat (first | refine blk_drewN ?_ _ | refine blk_drew ?_ | refine blk_alloc ?_ _)); refine blk_put (cs := #[.int .i64 t124, .int .i64 t125, .int .i64 t126, .int .i64 t127, .int .i64 0, .int .i64 0, .int .i64 0, .int .i64 0, .int .i64 0]) ?_ 4 _ rfl; (with_reducible repeat (first | refine blk_drewN ?_ _ | refine blk_drew ?_ | refine blk_alloc ?_ _)); refine blk_put (cs := #[.int .i64 t124, .int .i64 t125, .int .i64 t126, .int .i64 0, .int .i64 0, .int .i64 0, .int .i64 0, .int .i64 0, .int .i64 0]) ?_ 3 _ rfl; (with_reducible repeat (first | refine blk_drewN ?_ _ | refine blk_drew ?_ | refine blk_alloc ?_ _)); refine blk_put (cs := #[.int .i64 t124, .int .i64 t125, .int .i64 0, .int .i64 0, .int .i64 0, .int .i64 0, .int .i64 0, .int .i64 0, .int .i64 0]) ?_ 2 _ rfl; (with_reducible repeat (first | refine blk_drewN ?_ _ | refine blk_drew ?_ | refine blk_alloc ?_ _)); refine blk_put (cs := #[.int .i64 t124, .int .i64 0, .int .i64 0, .int .i64 0, .int .i64 0, .int .i64 0, .int .i64 0, .int .i64 0, .int .i64 0]) ?_ 1 _ rfl; (with_reducible repeat (first | refine blk_drewN ?_ _ | refine blk_drew ?_ | refine blk_alloc ?_ _)); refine blk_put (cs := #[.int .i64 0, .int .i64 0, .int .i64 0, .int .i64 0, .int .i64 0, .int .i64 0, .int .i64 0, .int .i64 0, .int .i64 0]) ?_ 0 _ rfl; (with_reducible repeat (first | refine blk_drewN ?_ _ | refine blk_drew ?_ | refine blk_alloc ?_ _)); exact BK134.out) hb); have n1_ := Aside0.mk (below_step (by repeat (first | (with_reducible first | exact HB.out | apply below_alloc | apply pw_below_drewN | apply below_drew1 | refine below_set ?_ GE134.out) | exact HB.out)) hb); clear BK134; clear HB; have BK134 := n0_; have HB := n1_; clear n0_ n1_; (try clear hb); (try clear hb2); (try clear hk); (try clear hi)))
    (try simp only [Act.put, List.setIfInBounds_toArray, List.set_cons_zero, List.set_cons_succ])
    go_cut [26] (fun v26 wc => ∃ (kq : Nat) (x26_5 : Bool), v26 = .bool x26_5 ∧ Aside0 (pupilref1_Class.j0 kq t136 t137 x26_5 t124 t125 t126 t127 t128 t129 t130 t131 t132 = some r) ∧ Aside0 (kq ≤ k) ∧ Aside0 (wc.heap[gb134]? = some (.cells #[.int .i64 t124, .int .i64 t125, .int .i64 t126, .int .i64 t127, .int .i64 t128, .int .i64 t129, .int .i64 t130, .int .i64 t131, .int .i64 t132] 65 (0, 0))) ∧ Aside0 (Below w.heap.size w wc))
    case first =>
      have H := HC6.out
      clear HC6
      by_cases c11 : t138 = true
      · subst c11
        have H1 : (if t136 = t127 then (pupilref1_Class.j0 k t136 t137 (decide (t137 > 0)) t124 t125 t126 t127 t128 t129 t130 t131 t132) else (pupilref1_Class.j0 k t136 t137 false t124 t125 t126 t127 t128 t129 t130 t131 t132)) = some r := by rw [if_pos rfl] at H; exact H
        clear H
        have H := H1
        clear H1
        by_cases c12 : t136 = t127
        · rw [if_pos c12] at H
          have c12b0 : (t136 == t127) = true := beq_iff_eq.mpr c12
          have c12b1 : (t136 != t127) = false := bne_eq_false_iff_eq.mpr c12
          clear c12
          (first | rw [c12b0] | (simp only [i64_w, i32_w]; rw [c12b0]) | skip)
          have H' := Aside0.mk H
          clear H
          have hcz13_0 : w10.cell? ⟨gb134, 0, none⟩ = some (.int .i64 t124) := (blk_cell BK134.out 0).trans rfl
          have hcz13_1 : w10.cell? ⟨gb134, 1, none⟩ = some (.int .i64 t125) := (blk_cell BK134.out 1).trans rfl
          have hcz13_2 : w10.cell? ⟨gb134, 2, none⟩ = some (.int .i64 t126) := (blk_cell BK134.out 2).trans rfl
          have hcz13_3 : w10.cell? ⟨gb134, 3, none⟩ = some (.int .i64 t127) := (blk_cell BK134.out 3).trans rfl
          have hcz13_4 : w10.cell? ⟨gb134, 4, none⟩ = some (.int .i64 t128) := (blk_cell BK134.out 4).trans rfl
          have hcz13_5 : w10.cell? ⟨gb134, 5, none⟩ = some (.int .i64 t129) := (blk_cell BK134.out 5).trans rfl
          have hcz13_6 : w10.cell? ⟨gb134, 6, none⟩ = some (.int .i64 t130) := (blk_cell BK134.out 6).trans rfl
          have hcz13_7 : w10.cell? ⟨gb134, 7, none⟩ = some (.int .i64 t131) := (blk_cell BK134.out 7).trans rfl
          have hcz13_8 : w10.cell? ⟨gb134, 8, none⟩ = some (.int .i64 t132) := (blk_cell BK134.out 8).trans rfl
          have hfz13_0 := blk_frozen BK134.out 0
          have hfz13_1 := blk_frozen BK134.out 1
          have hfz13_2 := blk_frozen BK134.out 2
          have hfz13_3 := blk_frozen BK134.out 3
          have hfz13_4 := blk_frozen BK134.out 4
          have hfz13_5 := blk_frozen BK134.out 5
          have hfz13_6 := blk_frozen BK134.out 6
          have hfz13_7 := blk_frozen BK134.out 7
          have hfz13_8 := blk_frozen BK134.out 8
          go_wp2
          go_meet
          case rel => exact ⟨_, (decide (t137 > 0)), (by first | rfl | (simp; done) | (simp [*]; done)), H', ⟨by first | omega | exact Nat.le_refl _⟩, ⟨by (with_reducible repeat (first | refine blk_drewN ?_ _ | refine blk_drew ?_ | refine blk_alloc ?_ _)); exact BK134.out⟩, ⟨by repeat (first | (with_reducible first | exact HB.out | apply below_alloc | apply pw_below_drewN | apply below_drew1 | refine below_set ?_ GE134.out) | exact HB.out)⟩⟩
        · rw [if_neg c12] at H
          have c12b0 : (t136 == t127) = false := beq_eq_false_iff_ne.mpr c12
          have c12b1 : (t136 != t127) = true := bne_iff_ne.mpr c12
          (first | rw [c12b0] | (simp only [i64_w, i32_w]; rw [c12b0]) | skip)
          have H' := Aside0.mk H
          clear H
          have hcz14_0 : w10.cell? ⟨gb134, 0, none⟩ = some (.int .i64 t124) := (blk_cell BK134.out 0).trans rfl
          have hcz14_1 : w10.cell? ⟨gb134, 1, none⟩ = some (.int .i64 t125) := (blk_cell BK134.out 1).trans rfl
          have hcz14_2 : w10.cell? ⟨gb134, 2, none⟩ = some (.int .i64 t126) := (blk_cell BK134.out 2).trans rfl
          have hcz14_3 : w10.cell? ⟨gb134, 3, none⟩ = some (.int .i64 t127) := (blk_cell BK134.out 3).trans rfl
          have hcz14_4 : w10.cell? ⟨gb134, 4, none⟩ = some (.int .i64 t128) := (blk_cell BK134.out 4).trans rfl
          have hcz14_5 : w10.cell? ⟨gb134, 5, none⟩ = some (.int .i64 t129) := (blk_cell BK134.out 5).trans rfl
          have hcz14_6 : w10.cell? ⟨gb134, 6, none⟩ = some (.int .i64 t130) := (blk_cell BK134.out 6).trans rfl
          have hcz14_7 : w10.cell? ⟨gb134, 7, none⟩ = some (.int .i64 t131) := (blk_cell BK134.out 7).trans rfl
          have hcz14_8 : w10.cell? ⟨gb134, 8, none⟩ = some (.int .i64 t132) := (blk_cell BK134.out 8).trans rfl
          have hfz14_0 := blk_frozen BK134.out 0
          have hfz14_1 := blk_frozen BK134.out 1
          have hfz14_2 := blk_frozen BK134.out 2
          have hfz14_3 := blk_frozen BK134.out 3
          have hfz14_4 := blk_frozen BK134.out 4
          have hfz14_5 := blk_frozen BK134.out 5
          have hfz14_6 := blk_frozen BK134.out 6
          have hfz14_7 := blk_frozen BK134.out 7
          have hfz14_8 := blk_frozen BK134.out 8
          go_wp2
          go_meet
          case rel => exact ⟨_, (false), (by first | rfl | (simp; done) | (simp [*]; done)), H', ⟨by first | omega | exact Nat.le_refl _⟩, ⟨by (with_reducible repeat (first | refine blk_drewN ?_ _ | refine blk_drew ?_ | refine blk_alloc ?_ _)); exact BK134.out⟩, ⟨by repeat (first | (with_reducible first | exact HB.out | apply below_alloc | apply pw_below_drewN | apply below_drew1 | refine below_set ?_ GE134.out) | exact HB.out)⟩⟩
      · replace c11 := Bool.eq_false_iff.mpr c11
        subst c11
        have H1 : (pupilref1_Class.j0 k t136 t137 true t124 t125 t126 t127 t128 t129 t130 t131 t132) = some r := by rw [if_neg (show ¬ (false = true) by decide)] at H; exact H
        clear H
        have H := H1
        clear H1
        have H' := Aside0.mk H
        clear H
        go_wp2
        go_meet
        case rel => exact ⟨_, (true), (by first | rfl | (simp; done) | (simp [*]; done)), H', ⟨by first | omega | exact Nat.le_refl _⟩, ⟨by (with_reducible repeat (first | refine blk_drewN ?_ _ | refine blk_drew ?_ | refine blk_alloc ?_ _)); exact BK134.out⟩, ⟨by repeat (first | (with_reducible first | exact HB.out | apply below_alloc | apply pw_below_drewN | apply below_drew1 | refine below_set ?_ GE134.out) | exact HB.out)⟩⟩
    case rest =>
      clear HC6
      try clear c1
      try clear p2
      try clear c4
      try clear c9
      try clear c11
      try clear c12
      try clear c12b0
      try clear c12b1
      try clear hcz13_0
      try clear hcz13_1
      try clear hcz13_2
      try clear hcz13_3
      try clear hcz13_4
      try clear hcz13_5
      try clear hcz13_6
      try clear hcz13_7
      try clear hcz13_8
      try clear hcz14_0
      try clear hcz14_1
      try clear hcz14_2
      try clear hcz14_3
      try clear hcz14_4
      try clear hcz14_5
      try clear hcz14_6
      try clear hcz14_7
      try clear hcz14_8
      try clear hcz9_0
      try clear hcz9_1
      try clear hcz9_2
      try clear hcz9_3
      try clear hcz9_4
      try clear hcz9_5
      try clear hcz9_6
      try clear hcz9_7
      try clear hcz9_8
      try clear hfz13_0
      try clear hfz13_1
      try clear hfz13_2
      try clear hfz13_3
      try clear hfz13_4
      try clear hfz13_5
      try clear hfz13_6
      try clear hfz13_7
      try clear hfz13_8
      try clear hfz14_0
      try clear hfz14_1
      try clear hfz14_2
      try clear hfz14_3
      try clear hfz14_4
      try clear hfz14_5
      try clear hfz14_6
      try clear hfz14_7
      try clear hfz14_8
      try clear hfz9_0
      try clear hfz9_1
      try clear hfz9_2
      try clear hfz9_3
      try clear hfz9_4
      try clear hfz9_5
      try clear hfz9_6
      try clear hfz9_7
      try clear hfz9_8
      obtain ⟨kq, x26_5, rfl, HA, HJ5, BK134, HB⟩ := hcut
      cases kq with
      | zero => exact absurd HA.out (by simp [pupilref1_Class.j0])
      | succ kj5 =>
        have H := HA.out
        clear HA
        simp only [pupilref1_Class.j0] at H
        by_cases c15 : x26_5 = true
        · subst c15
          have H1 : (some 4) = some r := by rw [if_pos rfl] at H; exact H
          clear H
          have H := H1
          clear H1
          obtain rfl := Option.some.inj H
          go_wp2
          go_ret
          exact ⟨by first | rfl | (simp [errW_none, errW_some] <;> rfl) | (simp [*, errW_none, errW_some] <;> rfl), by repeat (first | (with_reducible first | exact HB.out | apply below_alloc | apply pw_below_drewN | apply below_drew1 | refine below_set ?_ GE134.out) | exact HB.out)⟩
        · replace c15 := Bool.eq_false_iff.mpr c15
          subst c15
          have H1 : (if t136 = t127 then (some 3) else (if t136 > 0 then (some 2) else (if t137 > 0 then (some 1) else (some 0)))) = some r := by rw [if_neg (show ¬ (false = true) by decide)] at H; exact H
          clear H
          have H := H1
          clear H1
          by_cases c16 : t136 = t127
          · rw [if_pos c16] at H
            have c16b0 : (t136 == t127) = true := beq_iff_eq.mpr c16
            have c16b1 : (t136 != t127) = false := bne_eq_false_iff_eq.mpr c16
            clear c16
            obtain rfl := Option.some.inj H
            have hcz17_0 : wc.cell? ⟨gb134, 0, none⟩ = some (.int .i64 t124) := (blk_cell BK134.out 0).trans rfl
            have hcz17_1 : wc.cell? ⟨gb134, 1, none⟩ = some (.int .i64 t125) := (blk_cell BK134.out 1).trans rfl
            have hcz17_2 : wc.cell? ⟨gb134, 2, none⟩ = some (.int .i64 t126) := (blk_cell BK134.out 2).trans rfl
            have hcz17_3 : wc.cell? ⟨gb134, 3, none⟩ = some (.int .i64 t127) := (blk_cell BK134.out 3).trans rfl
            have hcz17_4 : wc.cell? ⟨gb134, 4, none⟩ = some (.int .i64 t128) := (blk_cell BK134.out 4).trans rfl
            have hcz17_5 : wc.cell? ⟨gb134, 5, none⟩ = some (.int .i64 t129) := (blk_cell BK134.out 5).trans rfl
            have hcz17_6 : wc.cell? ⟨gb134, 6, none⟩ = some (.int .i64 t130) := (blk_cell BK134.out 6).trans rfl
            have hcz17_7 : wc.cell? ⟨gb134, 7, none⟩ = some (.int .i64 t131) := (blk_cell BK134.out 7).trans rfl
            have hcz17_8 : wc.cell? ⟨gb134, 8, none⟩ = some (.int .i64 t132) := (blk_cell BK134.out 8).trans rfl
            have hfz17_0 := blk_frozen BK134.out 0
            have hfz17_1 := blk_frozen BK134.out 1
            have hfz17_2 := blk_frozen BK134.out 2
            have hfz17_3 := blk_frozen BK134.out 3
            have hfz17_4 := blk_frozen BK134.out 4
            have hfz17_5 := blk_frozen BK134.out 5
            have hfz17_6 := blk_frozen BK134.out 6
            have hfz17_7 := blk_frozen BK134.out 7
            have hfz17_8 := blk_frozen BK134.out 8
            go_wp2
            go_ret
            exact ⟨by first | rfl | (simp [errW_none, errW_some] <;> rfl) | (simp [*, errW_none, errW_some] <;> rfl), by repeat (first | (with_reducible first | exact HB.out | apply below_alloc | apply pw_below_drewN | apply below_drew1 | refine below_set ?_ GE134.out) | exact HB.out)⟩
          · rw [if_neg c16] at H
            have c16b0 : (t136 == t127) = false := beq_eq_false_iff_ne.mpr c16
            have c16b1 : (t136 != t127) = true := bne_iff_ne.mpr c16
            by_cases c18 : t136 > 0
            · rw [if_pos c18] at H
              have c18b0 : decide (0 < t136) = true := decide_eq_true c18
              clear c18
              obtain rfl := Option.some.inj H
              have hcz19_0 : wc.cell? ⟨gb134, 0, none⟩ = some (.int .i64 t124) := (blk_cell BK134.out 0).trans rfl
              have hcz19_1 : wc.cell? ⟨gb134, 1, none⟩ = some (.int .i64 t125) := (blk_cell BK134.out 1).trans rfl
              have hcz19_2 : wc.cell? ⟨gb134, 2, none⟩ = some (.int .i64 t126) := (blk_cell BK134.out 2).trans rfl
              have hcz19_3 : wc.cell? ⟨gb134, 3, none⟩ = some (.int .i64 t127) := (blk_cell BK134.out 3).trans rfl
              have hcz19_4 : wc.cell? ⟨gb134, 4, none⟩ = some (.int .i64 t128) := (blk_cell BK134.out 4).trans rfl
              have hcz19_5 : wc.cell? ⟨gb134, 5, none⟩ = some (.int .i64 t129) := (blk_cell BK134.out 5).trans rfl
              have hcz19_6 : wc.cell? ⟨gb134, 6, none⟩ = some (.int .i64 t130) := (blk_cell BK134.out 6).trans rfl
              have hcz19_7 : wc.cell? ⟨gb134, 7, none⟩ = some (.int .i64 t131) := (blk_cell BK134.out 7).trans rfl
              have hcz19_8 : wc.cell? ⟨gb134, 8, none⟩ = some (.int .i64 t132) := (blk_cell BK134.out 8).trans rfl
              have hfz19_0 := blk_frozen BK134.out 0
              have hfz19_1 := blk_frozen BK134.out 1
              have hfz19_2 := blk_frozen BK134.out 2
              have hfz19_3 := blk_frozen BK134.out 3
              have hfz19_4 := blk_frozen BK134.out 4
              have hfz19_5 := blk_frozen BK134.out 5
              have hfz19_6 := blk_frozen BK134.out 6
              have hfz19_7 := blk_frozen BK134.out 7
              have hfz19_8 := blk_frozen BK134.out 8
              go_wp2
              go_ret
              exact ⟨by first | rfl | (simp [errW_none, errW_some] <;> rfl) | (simp [*, errW_none, errW_some] <;> rfl), by repeat (first | (with_reducible first | exact HB.out | apply below_alloc | apply pw_below_drewN | apply below_drew1 | refine below_set ?_ GE134.out) | exact HB.out)⟩
            · rw [if_neg c18] at H
              have c18b0 : decide (0 < t136) = false := decide_eq_false c18
              clear c18
              by_cases c20 : t137 > 0
              · rw [if_pos c20] at H
                have c20b0 : decide (0 < t137) = true := decide_eq_true c20
                clear c20
                obtain rfl := Option.some.inj H
                have hcz21_0 : wc.cell? ⟨gb134, 0, none⟩ = some (.int .i64 t124) := (blk_cell BK134.out 0).trans rfl
                have hcz21_1 : wc.cell? ⟨gb134, 1, none⟩ = some (.int .i64 t125) := (blk_cell BK134.out 1).trans rfl
                have hcz21_2 : wc.cell? ⟨gb134, 2, none⟩ = some (.int .i64 t126) := (blk_cell BK134.out 2).trans rfl
                have hcz21_3 : wc.cell? ⟨gb134, 3, none⟩ = some (.int .i64 t127) := (blk_cell BK134.out 3).trans rfl
                have hcz21_4 : wc.cell? ⟨gb134, 4, none⟩ = some (.int .i64 t128) := (blk_cell BK134.out 4).trans rfl
                have hcz21_5 : wc.cell? ⟨gb134, 5, none⟩ = some (.int .i64 t129) := (blk_cell BK134.out 5).trans rfl
                have hcz21_6 : wc.cell? ⟨gb134, 6, none⟩ = some (.int .i64 t130) := (blk_cell BK134.out 6).trans rfl
                have hcz21_7 : wc.cell? ⟨gb134, 7, none⟩ = some (.int .i64 t131) := (blk_cell BK134.out 7).trans rfl
                have hcz21_8 : wc.cell? ⟨gb134, 8, none⟩ = some (.int .i64 t132) := (blk_cell BK134.out 8).trans rfl
                have hfz21_0 := blk_frozen BK134.out 0
                have hfz21_1 := blk_frozen BK134.out 1
                have hfz21_2 := blk_frozen BK134.out 2
                have hfz21_3 := blk_frozen BK134.out 3
                have hfz21_4 := blk_frozen BK134.out 4
                have hfz21_5 := blk_frozen BK134.out 5
                have hfz21_6 := blk_frozen BK134.out 6
                have hfz21_7 := blk_frozen BK134.out 7
                have hfz21_8 := blk_frozen BK134.out 8
                go_wp2
                go_ret
                exact ⟨by first | rfl | (simp [errW_none, errW_some] <;> rfl) | (simp [*, errW_none, errW_some] <;> rfl), by repeat (first | (with_reducible first | exact HB.out | apply below_alloc | apply pw_below_drewN | apply below_drew1 | refine below_set ?_ GE134.out) | exact HB.out)⟩
              · rw [if_neg c20] at H
                have c20b0 : decide (0 < t137) = false := decide_eq_false c20
                clear c20
                obtain rfl := Option.some.inj H
                have hcz22_0 : wc.cell? ⟨gb134, 0, none⟩ = some (.int .i64 t124) := (blk_cell BK134.out 0).trans rfl
                have hcz22_1 : wc.cell? ⟨gb134, 1, none⟩ = some (.int .i64 t125) := (blk_cell BK134.out 1).trans rfl
                have hcz22_2 : wc.cell? ⟨gb134, 2, none⟩ = some (.int .i64 t126) := (blk_cell BK134.out 2).trans rfl
                have hcz22_3 : wc.cell? ⟨gb134, 3, none⟩ = some (.int .i64 t127) := (blk_cell BK134.out 3).trans rfl
                have hcz22_4 : wc.cell? ⟨gb134, 4, none⟩ = some (.int .i64 t128) := (blk_cell BK134.out 4).trans rfl
                have hcz22_5 : wc.cell? ⟨gb134, 5, none⟩ = some (.int .i64 t129) := (blk_cell BK134.out 5).trans rfl
                have hcz22_6 : wc.cell? ⟨gb134, 6, none⟩ = some (.int .i64 t130) := (blk_cell BK134.out 6).trans rfl
                have hcz22_7 : wc.cell? ⟨gb134, 7, none⟩ = some (.int .i64 t131) := (blk_cell BK134.out 7).trans rfl
                have hcz22_8 : wc.cell? ⟨gb134, 8, none⟩ = some (.int .i64 t132) := (blk_cell BK134.out 8).trans rfl
                have hfz22_0 := blk_frozen BK134.out 0
                have hfz22_1 := blk_frozen BK134.out 1
                have hfz22_2 := blk_frozen BK134.out 2
                have hfz22_3 := blk_frozen BK134.out 3
                have hfz22_4 := blk_frozen BK134.out 4
                have hfz22_5 := blk_frozen BK134.out 5
                have hfz22_6 := blk_frozen BK134.out 6
                have hfz22_7 := blk_frozen BK134.out 7
                have hfz22_8 := blk_frozen BK134.out 8
                go_wp2
                go_ret
                exact ⟨by first | rfl | (simp [errW_none, errW_some] <;> rfl) | (simp [*, errW_none, errW_some] <;> rfl), by repeat (first | (with_reducible first | exact HB.out | apply below_alloc | apply pw_below_drewN | apply below_drew1 | refine below_set ?_ GE134.out) | exact HB.out)⟩
  · replace c4 := Bool.eq_false_iff.mpr c4
    subst c4
    have H1 : (some 0) = some r := by rw [if_neg (show ¬ (false = true) by decide)] at H; exact H
    clear H
    have H := H1
    clear H1
    obtain rfl := Option.some.inj H
    go_enter Try.func47, Try.ntmps47
    go_wp2_with (first | ((with_reducible refine gate_callee (f := 96) rfl ?_); refine goesL_ (some 13) rfl rfl Try.func96 (by kernel_rfl) rfl #[.int .i64 a1] rfl (by (try simp only [List.map_toArray, List.map_cons, List.map_nil]); first | done | rfl | (simp only [List.length_drop, List.length_take]; rfl)) ?_; (with_reducible refine (pupilref1_Of.calls a1 t124 t125 t126 t127 t128 t129 t130 t131 t132 false _ A3.out).mono ?_); rintro e w23 ⟨rfl, hb⟩; refine ⟨_, rfl, ?_⟩; have n0_ := Aside0.mk (below_step (by repeat (first | (with_reducible first | exact HB.out | apply below_alloc | apply pw_below_drewN | apply below_drew1) | exact HB.out)) hb); clear HB; have HB := n0_; clear n0_; (try clear hb); (try clear hb2); (try clear hk); (try clear hi)) | ((with_reducible refine gate_dst (N := 5) rfl ?_); refine box_event ?hg (N := 5) ?hd (cs := #[.int .i64 0, .int .i64 0, .int .i64 0, .int .i64 0, .int .i64 0, .int .i64 0, .int .i64 0, .int .i64 0, .int .i64 0]) (t := 65) ?hr ?_; (case hd => rfl); (case hg => rfl); (case hr => first | (go_simp; done) | (go_simp; rfl)); intro gb134 hg w24 hbox hb; have n0_ := Aside0.mk (below_step (by repeat (first | (with_reducible first | exact HB.out | apply below_alloc | apply pw_below_drewN | apply below_drew1) | exact HB.out)) hb); have n1_ := Aside0.mk (hbox); have n2_ := Aside0.mk ((by rw [hg]; exact (below_size (by repeat (first | (with_reducible first | exact HB.out | apply below_alloc | apply pw_below_drewN | apply below_drew1) | exact HB.out))) : w.heap.size ≤ gb134)); have n3_ := Aside0.mk ((by rw [hg]; exact (below_size (by repeat (first | (with_reducible first | exact HB.out | apply below_alloc | apply pw_below_drewN | apply below_drew1) | exact HB.out))) : w.heap.size ≤ gb134)); clear HB; have HB := n0_; have BK134 := n1_; have GW134 := n2_; have GE134 := n3_; clear n0_ n1_ n2_ n3_; clear hb hbox hg; have hcz25_0 : w24.cell? ⟨gb134, 0, none⟩ = some (.int .i64 0) := (blk_cell BK134.out 0).trans rfl; have hcz25_1 : w24.cell? ⟨gb134, 1, none⟩ = some (.int .i64 0) := (blk_cell BK134.out 1).trans rfl; have hcz25_2 : w24.cell? ⟨gb134, 2, none⟩ = some (.int .i64 0) := (blk_cell BK134.out 2).trans rfl; have hcz25_3 : w24.cell? ⟨gb134, 3, none⟩ = some (.int .i64 0) := (blk_cell BK134.out 3).trans rfl; have hcz25_4 : w24.cell? ⟨gb134, 4, none⟩ = some (.int .i64 0) := (blk_cell BK134.out 4).trans rfl; have hcz25_5 : w24.cell? ⟨gb134, 5, none⟩ = some (.int .i64 0) := (blk_cell BK134.out 5).trans rfl; have hcz25_6 : w24.cell? ⟨gb134, 6, none⟩ = some (.int .i64 0) := (blk_cell BK134.out 6).trans rfl; have hcz25_7 : w24.cell? ⟨gb134, 7, none⟩ = some (.int .i64 0) := (blk_cell BK134.out 7).trans rfl; have hcz25_8 : w24.cell? ⟨gb134, 8, none⟩ = some (.int .i64 0) := (blk_cell BK134.out 8).trans rfl; have hfz25_0 := blk_frozen BK134.out 0; have hfz25_1 := blk_frozen BK134.out 1; have hfz25_2 := blk_frozen BK134.out 2; have hfz25_3 := blk_frozen BK134.out 3; have hfz25_4 := blk_frozen BK134.out 4; have hfz25_5 := blk_frozen BK134.out 5; have hfz25_6 := blk_frozen BK134.out 6; have hfz25_7 := blk_frozen BK134.out 7; have hfz25_8 := blk_frozen BK134.out 8))
    go_ret
    exact ⟨by first | rfl | (simp [errW_none, errW_some] <;> rfl) | (simp [*, errW_none, errW_some] <;> rfl), by repeat (first | (with_reducible first | exact HB.out | apply below_alloc | apply pw_below_drewN | apply below_drew1 | refine below_set ?_ GE134.out) | exact HB.out)⟩

end Go.Proofs.Ytjogbiopbobifaa.F
