/- Part 8 of the walk: FBitsClass FBitsNan FBitsCanon ExA. -/
import Derived.Test.YtlfmgdpbjapdjaaGreatFmtBesafterPt07
import Derived.Test.YtlfmgdpbjapdjaaGreatFmtBesafterPt04
namespace Go.Proofs.YtlfmgdpbjapdjaaGreatFmtBesafter.F
open Go.RowKit Go.Proofs.YtlfmgdpbjapdjaaGreatFmtBesafterW.PrintWords Go.Proofs.YtlfmgdpbjapdjaaGreatFmtBesafterW.PrintLast Go.Proofs.YtlfmgdpbjapdjaaGreatFmtBesafterW.PrintMore
attribute [local go_sem] max2_int min2_int max_two min_two max_three min_three max_four min_four   -- for this text's walks alone
set_option linter.unusedVariables false
set_option linter.unusedSimpArgs false
def bits_Class.j0 : Nat → Int → Int → Bool → Int → Int → Int → Int → Option (Int)
  | 0, _, _, _, _, _, _, _ => none
  | k + 1, x7, x8, x29, x151000, x151001, x151002, x151003 => if x29 = true then (some 4) else (if x7 = x151001 then (some 3) else (if x7 = 0 then (if x8 = 0 then (some 0) else (some 1)) else (some 2)))
def bits_Class.f (k : Nat) (a0 : Int) (a1 : Int) : Option (Int) := (bits_of.f a1).bind fun bt145 => (if bt145.2.2.2.2 = true then (if 0 ≤ bt145.1 then ((bits_Valid.f a0 a1).bind fun t151 => (if t151 = true then (if (Go.bits .and .i64 (shr .i64 a0 bt145.1) bt145.2.1) = bt145.2.1 then (bits_Class.j0 k (Go.bits .and .i64 (shr .i64 a0 bt145.1) bt145.2.1) (Go.bits .and .i64 a0 (wrap64 ((shl .i64 1 bt145.1) - 1))) ((Go.bits .and .i64 a0 (wrap64 ((shl .i64 1 bt145.1) - 1))) != 0) bt145.1 bt145.2.1 bt145.2.2.1 bt145.2.2.2.1) else (bits_Class.j0 k (Go.bits .and .i64 (shr .i64 a0 bt145.1) bt145.2.1) (Go.bits .and .i64 a0 (wrap64 ((shl .i64 1 bt145.1) - 1))) false bt145.1 bt145.2.1 bt145.2.2.1 bt145.2.2.2.1)) else (bits_Class.j0 k (Go.bits .and .i64 (shr .i64 a0 bt145.1) bt145.2.1) (Go.bits .and .i64 a0 (wrap64 ((shl .i64 1 bt145.1) - 1))) true bt145.1 bt145.2.1 bt145.2.2.1 bt145.2.2.2.1))) else (none)) else (some 0))
theorem bits_Class.mono_l : ∀ k, (∀ y0 y1 y2 y3 y4 y5 y6, LeO (bits_Class.j0 k y0 y1 y2 y3 y4 y5 y6) (bits_Class.j0 (k + 1) y0 y1 y2 y3 y4 y5 y6))
  | 0 => fun _ _ _ _ _ _ _ r h => by simp [bits_Class.j0] at h
  | k + 1 => by
    have ih0 := bits_Class.mono_l k
    · intro y0 y1 y2 y3 y4 y5 y6
      unfold bits_Class.j0
      repeat' first
      | (with_reducible exact ih0 _ _ _ _ _ _ _)
      | (with_reducible exact LeO.refl _)
      | (with_reducible exact LeO.none _)
      | (with_reducible refine LeO.ite ?_ ?_)
      | (with_reducible refine LeO.bind ?_ (fun _ => ?_))
      | exact ih0 _ _ _ _ _ _ _
      | exact LeO.none _
      | refine LeO.ite ?_ ?_
      | refine LeO.bind ?_ (fun _ => ?_)
theorem bits_Class.mono : ∀ a0 a1 k, LeO (bits_Class.f k a0 a1) (bits_Class.f (k + 1) a0 a1) := by
  intro a0 a1 k
  have ih0 := bits_Class.mono_l k
  unfold bits_Class.f
  repeat' first
      | (with_reducible exact ih0 _ _ _ _ _ _ _)
      | (with_reducible exact LeO.refl _)
      | (with_reducible exact LeO.none _)
      | (with_reducible refine LeO.ite ?_ ?_)
      | (with_reducible refine LeO.bind ?_ (fun _ => ?_))
      | exact ih0 _ _ _ _ _ _ _
      | exact LeO.none _
      | refine LeO.ite ?_ ?_
      | refine LeO.bind ?_ (fun _ => ?_)
set_option maxHeartbeats 8000000 in
set_option maxRecDepth 100000 in
theorem bits_Class.calls (k : Nat) (a0 : Int) (a1 : Int) (r : Int) (w : World) (h : bits_Class.f k a0 a1 = some r) :
    Calls Tryz.prog 22 #[.int .i64 a0, .int .i64 a1] w fun e w' => e = .returned (.int .i64 r) ∧ Below w.heap.size w w' := by
  have hu95 := Tryz.underlying95
  have HB := Aside0.mk (Below.refl w.heap.size w)
  have H : ((bits_of.f a1).bind fun bt145 => (if bt145.2.2.2.2 = true then (if 0 ≤ bt145.1 then ((bits_Valid.f a0 a1).bind fun t151 => (if t151 = true then (if (Go.bits .and .i64 (shr .i64 a0 bt145.1) bt145.2.1) = bt145.2.1 then (bits_Class.j0 k (Go.bits .and .i64 (shr .i64 a0 bt145.1) bt145.2.1) (Go.bits .and .i64 a0 (wrap64 ((shl .i64 1 bt145.1) - 1))) ((Go.bits .and .i64 a0 (wrap64 ((shl .i64 1 bt145.1) - 1))) != 0) bt145.1 bt145.2.1 bt145.2.2.1 bt145.2.2.2.1) else (bits_Class.j0 k (Go.bits .and .i64 (shr .i64 a0 bt145.1) bt145.2.1) (Go.bits .and .i64 a0 (wrap64 ((shl .i64 1 bt145.1) - 1))) false bt145.1 bt145.2.1 bt145.2.2.1 bt145.2.2.2.1)) else (bits_Class.j0 k (Go.bits .and .i64 (shr .i64 a0 bt145.1) bt145.2.1) (Go.bits .and .i64 a0 (wrap64 ((shl .i64 1 bt145.1) - 1))) true bt145.1 bt145.2.1 bt145.2.2.1 bt145.2.2.2.1))) else (none)) else (some 0))) = some r := h
  clear h
  replace H := Option.bind_eq_some_iff.mp H
  obtain ⟨⟨t145, t146, t147, t148, t149⟩, A30, H⟩ := H
  replace H : (if t149 = true then (if 0 ≤ t145 then ((bits_Valid.f a0 a1).bind fun t151 => (if t151 = true then (if (Go.bits .and .i64 (shr .i64 a0 t145) t146) = t146 then (bits_Class.j0 k (Go.bits .and .i64 (shr .i64 a0 t145) t146) (Go.bits .and .i64 a0 (wrap64 ((shl .i64 1 t145) - 1))) ((Go.bits .and .i64 a0 (wrap64 ((shl .i64 1 t145) - 1))) != 0) t145 t146 t147 t148) else (bits_Class.j0 k (Go.bits .and .i64 (shr .i64 a0 t145) t146) (Go.bits .and .i64 a0 (wrap64 ((shl .i64 1 t145) - 1))) false t145 t146 t147 t148)) else (bits_Class.j0 k (Go.bits .and .i64 (shr .i64 a0 t145) t146) (Go.bits .and .i64 a0 (wrap64 ((shl .i64 1 t145) - 1))) true t145 t146 t147 t148))) else (none)) else (some 0)) = some r := H
  have A3 := Aside0.mk A30
  clear A30
  by_cases c4 : t149 = true
  · subst c4
    have H1 : (if 0 ≤ t145 then ((bits_Valid.f a0 a1).bind fun t151 => (if t151 = true then (if (Go.bits .and .i64 (shr .i64 a0 t145) t146) = t146 then (bits_Class.j0 k (Go.bits .and .i64 (shr .i64 a0 t145) t146) (Go.bits .and .i64 a0 (wrap64 ((shl .i64 1 t145) - 1))) ((Go.bits .and .i64 a0 (wrap64 ((shl .i64 1 t145) - 1))) != 0) t145 t146 t147 t148) else (bits_Class.j0 k (Go.bits .and .i64 (shr .i64 a0 t145) t146) (Go.bits .and .i64 a0 (wrap64 ((shl .i64 1 t145) - 1))) false t145 t146 t147 t148)) else (bits_Class.j0 k (Go.bits .and .i64 (shr .i64 a0 t145) t146) (Go.bits .and .i64 a0 (wrap64 ((shl .i64 1 t145) - 1))) true t145 t146 t147 t148))) else (none)) = some r := by rw [if_pos rfl] at H; exact H
    clear H
    have H := H1
    clear H1
    by_cases c5 : 0 ≤ t145
    · rw [if_pos c5] at H
      have c5b0 := eq_true c5
      have c5b1 : decide (0 ≤ t145) = true := decide_eq_true c5
      clear c5
      obtain ⟨ji6, hji6⟩ : ∃ j_ : Int, (shr .i64 a0 t145) = j_ := ⟨_, rfl⟩
      replace H : ((bits_Valid.f a0 a1).bind fun t151 => (if t151 = true then (if (Go.bits .and .i64 (ji6) t146) = t146 then (bits_Class.j0 k (Go.bits .and .i64 (ji6) t146) (Go.bits .and .i64 a0 (wrap64 ((shl .i64 1 t145) - 1))) ((Go.bits .and .i64 a0 (wrap64 ((shl .i64 1 t145) - 1))) != 0) t145 t146 t147 t148) else (bits_Class.j0 k (Go.bits .and .i64 (ji6) t146) (Go.bits .and .i64 a0 (wrap64 ((shl .i64 1 t145) - 1))) false t145 t146 t147 t148)) else (bits_Class.j0 k (Go.bits .and .i64 (ji6) t146) (Go.bits .and .i64 a0 (wrap64 ((shl .i64 1 t145) - 1))) true t145 t146 t147 t148))) = some r := by first | (rw [hji6] at H; exact H) | (simp only [hji6] at H ⊢; exact H)
      (try rw [hji6] at A3)
      have hji6_ : (a0 / 2 ^ min t145.toNat 64) = ji6 := hji6
      have hji6z : t145 ≤ 64 → (a0 / 2 ^ t145.toNat) = ji6 := shr_small hji6
      have c7b0 := eq_true (of_decide_eq_true (by first | (with_reducible assumption) | assumption) : 0 ≤ t145)
      obtain ⟨ji8, hji8⟩ : ∃ j_ : Int, (shl .i64 1 t145) = j_ := ⟨_, rfl⟩
      replace H : ((bits_Valid.f a0 a1).bind fun t151 => (if t151 = true then (if (Go.bits .and .i64 (ji6) t146) = t146 then (bits_Class.j0 k (Go.bits .and .i64 (ji6) t146) (Go.bits .and .i64 a0 (wrap64 ((ji8) - 1))) ((Go.bits .and .i64 a0 (wrap64 ((ji8) - 1))) != 0) t145 t146 t147 t148) else (bits_Class.j0 k (Go.bits .and .i64 (ji6) t146) (Go.bits .and .i64 a0 (wrap64 ((ji8) - 1))) false t145 t146 t147 t148)) else (bits_Class.j0 k (Go.bits .and .i64 (ji6) t146) (Go.bits .and .i64 a0 (wrap64 ((ji8) - 1))) true t145 t146 t147 t148))) = some r := by first | (rw [hji8] at H; exact H) | (simp only [hji8] at H ⊢; exact H)
      (try rw [hji8] at A3)
      have hji8_ : (IntKind.i64.wrap (1 * 2 ^ min t145.toNat 64)) = ji8 := hji8
      have hji8z : t145 ≤ 64 → (IntKind.i64.wrap (1 * 2 ^ t145.toNat)) = ji8 := shl_small hji8
      have hji8u : (IntKind.i64.wrap (2 ^ min t145.toNat 64)) = ji8 := by have h_ := hji8_; rw [Int.one_mul] at h_; exact h_
      have hji8v : t145 ≤ 64 → (IntKind.i64.wrap (2 ^ t145.toNat)) = ji8 := fun hle_ => by have h_ := hji8z hle_; rw [Int.one_mul] at h_; exact h_
      have hji8y : (wrap64 (1 * 2 ^ min t145.toNat 64)) = ji8 := (i64_w _).symm.trans hji8_
      have hji8x : t145 ≤ 64 → (wrap64 (1 * 2 ^ t145.toNat)) = ji8 := fun h_ => (i64_w _).symm.trans (hji8z h_)
      have HC9 := Aside0.mk H
      clear H
      go_enter Tryz.func22, Tryz.ntmps22
      go_upto_region 5 with (first | (go_at_call 49; (with_reducible refine (bits_of.calls a1 t145 t146 t147 t148 true _ A3.out).mono ?_); rintro e w10 ⟨rfl, hb⟩; have n0_ := Aside0.mk (below_step (by repeat (first | (with_reducible first | exact HB.out | apply below_alloc | apply pw_below_drewN | apply below_drew1) | exact HB.out)) hb); clear HB; have HB := n0_; clear n0_; (try clear hb); (try clear hb2); (try clear hk); (try clear hi)) | ((with_reducible refine gate_dst (N := 5) rfl ?_); refine box_event ?hg (N := 5) ?hd (cs := #[.int .i64 0, .int .i64 0, .int .i64 0, .int .i64 0]) (t := 95) ?hr ?_; (case hd => rfl); (case hg => rfl); (case hr => first | (go_simp; done) | (go_simp; rfl)); intro gb150 hg w11 hbox hb; have n0_ := Aside0.mk (below_step (by repeat (first | (with_reducible first | exact HB.out | apply below_alloc | apply pw_below_drewN | apply below_drew1) | exact HB.out)) hb); have n1_ := Aside0.mk (hbox); have n2_ := Aside0.mk ((by rw [hg]; exact (below_size (by repeat (first | (with_reducible first | exact HB.out | apply below_alloc | apply pw_below_drewN | apply below_drew1) | exact HB.out))) : w.heap.size ≤ gb150)); have n3_ := Aside0.mk ((by rw [hg]; exact (below_size (by repeat (first | (with_reducible first | exact HB.out | apply below_alloc | apply pw_below_drewN | apply below_drew1) | exact HB.out))) : w.heap.size ≤ gb150)); clear HB; have HB := n0_; have BK150 := n1_; have GW150 := n2_; have GE150 := n3_; clear n0_ n1_ n2_ n3_; clear hb hbox hg; have hcz12_0 : w11.cell? ⟨gb150, 0, none⟩ = some (.int .i64 0) := (blk_cell BK150.out 0).trans rfl; have hcz12_1 : w11.cell? ⟨gb150, 1, none⟩ = some (.int .i64 0) := (blk_cell BK150.out 1).trans rfl; have hcz12_2 : w11.cell? ⟨gb150, 2, none⟩ = some (.int .i64 0) := (blk_cell BK150.out 2).trans rfl; have hcz12_3 : w11.cell? ⟨gb150, 3, none⟩ = some (.int .i64 0) := (blk_cell BK150.out 3).trans rfl; have hfz12_0 := blk_frozen BK150.out 0; have hfz12_1 := blk_frozen BK150.out 1; have hfz12_2 := blk_frozen BK150.out 2; have hfz12_3 := blk_frozen BK150.out 3))
      repeat (go_quiet (first | (go_at_call 49; (with_reducible refine (bits_of.calls a1 t145 t146 t147 t148 true _ A3.out).mono ?_); rintro e w10 ⟨rfl, hb⟩; have n0_ := Aside0.mk (below_step (by repeat (first | (with_reducible first | exact HB.out | apply below_alloc | apply pw_below_drewN | apply below_drew1) | exact HB.out)) hb); clear HB; have HB := n0_; clear n0_; (try clear hb); (try clear hb2); (try clear hk); (try clear hi)) | ((with_reducible refine gate_dst (N := 5) rfl ?_); refine box_event ?hg (N := 5) ?hd (cs := #[.int .i64 0, .int .i64 0, .int .i64 0, .int .i64 0]) (t := 95) ?hr ?_; (case hd => rfl); (case hg => rfl); (case hr => first | (go_simp; done) | (go_simp; rfl)); intro gb150 hg w11 hbox hb; have n0_ := Aside0.mk (below_step (by repeat (first | (with_reducible first | exact HB.out | apply below_alloc | apply pw_below_drewN | apply below_drew1) | exact HB.out)) hb); have n1_ := Aside0.mk (hbox); have n2_ := Aside0.mk ((by rw [hg]; exact (below_size (by repeat (first | (with_reducible first | exact HB.out | apply below_alloc | apply pw_below_drewN | apply below_drew1) | exact HB.out))) : w.heap.size ≤ gb150)); have n3_ := Aside0.mk ((by rw [hg]; exact (below_size (by repeat (first | (with_reducible first | exact HB.out | apply below_alloc | apply pw_below_drewN | apply below_drew1) | exact HB.out))) : w.heap.size ≤ gb150)); clear HB; have HB := n0_; have BK150 := n1_; have GW150 := n2_; have GE150 := n3_; clear n0_ n1_ n2_ n3_; clear hb hbox hg; have hcz12_0 : w11.cell? ⟨gb150, 0, none⟩ = some (.int .i64 0) := (blk_cell BK150.out 0).trans rfl; have hcz12_1 : w11.cell? ⟨gb150, 1, none⟩ = some (.int .i64 0) := (blk_cell BK150.out 1).trans rfl; have hcz12_2 : w11.cell? ⟨gb150, 2, none⟩ = some (.int .i64 0) := (blk_cell BK150.out 2).trans rfl; have hcz12_3 : w11.cell? ⟨gb150, 3, none⟩ = some (.int .i64 0) := (blk_cell BK150.out 3).trans rfl; have hfz12_0 := blk_frozen BK150.out 0; have hfz12_1 := blk_frozen BK150.out 1; have hfz12_2 := blk_frozen BK150.out 2; have hfz12_3 := blk_frozen BK150.out 3)); go_upto_region 5 with (first | (go_at_call 49; (with_reducible refine (bits_of.calls a1 t145 t146 t147 t148 true _ A3.out).mono ?_); rintro e w10 ⟨rfl, hb⟩; have n0_ := Aside0.mk (below_step (by repeat (first | (with_reducible first | exact HB.out | apply below_alloc | apply pw_below_drewN | apply below_drew1) | exact HB.out)) hb); clear HB; have HB := n0_; clear n0_; (try clear hb); (try clear hb2); (try clear hk); (try clear hi)) | ((with_reducible refine gate_dst (N := 5) rfl ?_); refine box_event ?hg (N := 5) ?hd (cs := #[.int .i64 0, .int .i64 0, .int .i64 0, .int .i64 0]) (t := 95) ?hr ?_; (case hd => rfl); (case hg => rfl); (case hr => first | (go_simp; done) | (go_simp; rfl)); intro gb150 hg w11 hbox hb; have n0_ := Aside0.mk (below_step (by repeat (first | (with_reducible first | exact HB.out | apply below_alloc | apply pw_below_drewN | apply below_drew1) | exact HB.out)) hb); have n1_ := Aside0.mk (hbox); have n2_ := Aside0.mk ((by rw [hg]; exact (below_size (by repeat (first | (with_reducible first | exact HB.out | apply below_alloc | apply pw_below_drewN | apply below_drew1) | exact HB.out))) : w.heap.size ≤ gb150)); have n3_ := Aside0.mk ((by rw [hg]; exact (below_size (by repeat (first | (with_reducible first | exact HB.out | apply below_alloc | apply pw_below_drewN | apply below_drew1) | exact HB.out))) : w.heap.size ≤ gb150)); clear HB; have HB := n0_; have BK150 := n1_; have GW150 := n2_; have GE150 := n3_; clear n0_ n1_ n2_ n3_; clear hb hbox hg; have hcz12_0 : w11.cell? ⟨gb150, 0, none⟩ = some (.int .i64 0) := (blk_cell BK150.out 0).trans rfl; have hcz12_1 : w11.cell? ⟨gb150, 1, none⟩ = some (.int .i64 0) := (blk_cell BK150.out 1).trans rfl; have hcz12_2 : w11.cell? ⟨gb150, 2, none⟩ = some (.int .i64 0) := (blk_cell BK150.out 2).trans rfl; have hcz12_3 : w11.cell? ⟨gb150, 3, none⟩ = some (.int .i64 0) := (blk_cell BK150.out 3).trans rfl; have hfz12_0 := blk_frozen BK150.out 0; have hfz12_1 := blk_frozen BK150.out 1; have hfz12_2 := blk_frozen BK150.out 2; have hfz12_3 := blk_frozen BK150.out 3)))
      (try simp only [Act.put, List.setIfInBounds_toArray, List.set_cons_zero, List.set_cons_succ])
      go_cut [29] (fun v29 wc => ∃ (kq : Nat) (x29_8 : Bool), v29 = .bool x29_8 ∧ Aside0 (bits_Class.j0 kq (Go.bits .and .i64 (ji6) t146) (Go.bits .and .i64 a0 (wrap64 ((ji8) - 1))) x29_8 t145 t146 t147 t148 = some r) ∧ Aside0 (kq ≤ k) ∧ Aside0 (wc.heap[gb150]? = some (.cells #[.int .i64 t145, .int .i64 t146, .int .i64 t147, .int .i64 t148] 95 (0, 0))) ∧ Aside0 (Below w.heap.size w wc))
      case first =>
        have H := HC9.out
        clear HC9
        replace H := Option.bind_eq_some_iff.mp H
        obtain ⟨t151, A130, H⟩ := H
        replace H : (if t151 = true then (if (Go.bits .and .i64 (ji6) t146) = t146 then (bits_Class.j0 k (Go.bits .and .i64 (ji6) t146) (Go.bits .and .i64 a0 (wrap64 ((ji8) - 1))) ((Go.bits .and .i64 a0 (wrap64 ((ji8) - 1))) != 0) t145 t146 t147 t148) else (bits_Class.j0 k (Go.bits .and .i64 (ji6) t146) (Go.bits .and .i64 a0 (wrap64 ((ji8) - 1))) false t145 t146 t147 t148)) else (bits_Class.j0 k (Go.bits .and .i64 (ji6) t146) (Go.bits .and .i64 a0 (wrap64 ((ji8) - 1))) true t145 t146 t147 t148)) = some r := H
        have A13 := Aside0.mk A130
        clear A130
        by_cases c14 : t151 = true
        · subst c14
          have H1 : (if (Go.bits .and .i64 (ji6) t146) = t146 then (bits_Class.j0 k (Go.bits .and .i64 (ji6) t146) (Go.bits .and .i64 a0 (wrap64 ((ji8) - 1))) ((Go.bits .and .i64 a0 (wrap64 ((ji8) - 1))) != 0) t145 t146 t147 t148) else (bits_Class.j0 k (Go.bits .and .i64 (ji6) t146) (Go.bits .and .i64 a0 (wrap64 ((ji8) - 1))) false t145 t146 t147 t148)) = some r := by rw [if_pos rfl] at H; exact H
          clear H
          have H := H1
          clear H1
          by_cases c15 : (Go.bits .and .i64 (ji6) t146) = t146
          · rw [if_pos c15] at H
            have c15b0 : ((Go.bits .and .i64 (ji6) t146) == t146) = true := beq_iff_eq.mpr c15
            have c15b1 : ((Go.bits .and .i64 (ji6) t146) != t146) = false := bne_eq_false_iff_eq.mpr c15
            clear c15
            (first | rw [c15b0] | (simp only [i64_w, i32_w]; rw [c15b0]) | skip)
            have H' := Aside0.mk H
            clear H
            go_wp2_with (first | (go_at_call 50; (with_reducible refine (bits_Valid.calls a0 a1 true _ A13.out).mono ?_); rintro e w' ⟨rfl, ⟨nd, rfl⟩⟩; (try first | exact ⟨rfl, _, World.drewN_drewN _ _ _⟩ | exact ⟨rfl, _, Eq.trans (World.drewN_drewN _ _ _) (congrArg (World.drewN _) (Nat.add_assoc _ _ _))⟩); have hcz16_0 : w11.cell? ⟨gb150, 0, none⟩ = some (.int .i64 0) := (blk_cell BK150.out 0).trans rfl; have hcz16_1 : w11.cell? ⟨gb150, 1, none⟩ = some (.int .i64 0) := (blk_cell BK150.out 1).trans rfl; have hcz16_2 : w11.cell? ⟨gb150, 2, none⟩ = some (.int .i64 0) := (blk_cell BK150.out 2).trans rfl; have hcz16_3 : w11.cell? ⟨gb150, 3, none⟩ = some (.int .i64 0) := (blk_cell BK150.out 3).trans rfl; have hfz16_0 := blk_frozen BK150.out 0; have hfz16_1 := blk_frozen BK150.out 1; have hfz16_2 := blk_frozen BK150.out 2; have hfz16_3 := blk_frozen BK150.out 3))
            repeat (go_quiet (first | (go_at_call 50; (with_reducible refine (bits_Valid.calls a0 a1 true _ A13.out).mono ?_); rintro e w' ⟨rfl, ⟨nd, rfl⟩⟩; (try first | exact ⟨rfl, _, World.drewN_drewN _ _ _⟩ | exact ⟨rfl, _, Eq.trans (World.drewN_drewN _ _ _) (congrArg (World.drewN _) (Nat.add_assoc _ _ _))⟩); have hcz16_0 : w11.cell? ⟨gb150, 0, none⟩ = some (.int .i64 0) := (blk_cell BK150.out 0).trans rfl; have hcz16_1 : w11.cell? ⟨gb150, 1, none⟩ = some (.int .i64 0) := (blk_cell BK150.out 1).trans rfl; have hcz16_2 : w11.cell? ⟨gb150, 2, none⟩ = some (.int .i64 0) := (blk_cell BK150.out 2).trans rfl; have hcz16_3 : w11.cell? ⟨gb150, 3, none⟩ = some (.int .i64 0) := (blk_cell BK150.out 3).trans rfl; have hfz16_0 := blk_frozen BK150.out 0; have hfz16_1 := blk_frozen BK150.out 1; have hfz16_2 := blk_frozen BK150.out 2; have hfz16_3 := blk_frozen BK150.out 3)); try go_wp2_with (first | (go_at_call 50; (with_reducible refine (bits_Valid.calls a0 a1 true _ A13.out).mono ?_); rintro e w' ⟨rfl, ⟨nd, rfl⟩⟩; (try first | exact ⟨rfl, _, World.drewN_drewN _ _ _⟩ | exact ⟨rfl, _, Eq.trans (World.drewN_drewN _ _ _) (congrArg (World.drewN _) (Nat.add_assoc _ _ _))⟩); have hcz16_0 : w11.cell? ⟨gb150, 0, none⟩ = some (.int .i64 0) := (blk_cell BK150.out 0).trans rfl; have hcz16_1 : w11.cell? ⟨gb150, 1, none⟩ = some (.int .i64 0) := (blk_cell BK150.out 1).trans rfl; have hcz16_2 : w11.cell? ⟨gb150, 2, none⟩ = some (.int .i64 0) := (blk_cell BK150.out 2).trans rfl; have hcz16_3 : w11.cell? ⟨gb150, 3, none⟩ = some (.int .i64 0) := (blk_cell BK150.out 3).trans rfl; have hfz16_0 := blk_frozen BK150.out 0; have hfz16_1 := blk_frozen BK150.out 1; have hfz16_2 := blk_frozen BK150.out 2; have hfz16_3 := blk_frozen BK150.out 3)))
            go_meet
            case rel => exact ⟨_, (((Go.bits .and .i64 a0 (wrap64 ((ji8) - 1))) != 0)), (by first | rfl | (simp; done) | (simp only [← hji8] <;> (first | rfl | simp)) | (simp [*]; done)), H', ⟨by first | omega | exact Nat.le_refl _⟩, ⟨by (with_reducible repeat (first | refine blk_drewN ?_ _ | refine blk_drew ?_ | refine blk_alloc ?_ _)); refine blk_put (cs := #[.int .i64 t145, .int .i64 t146, .int .i64 t147, .int .i64 0]) ?_ 3 _ rfl; (with_reducible repeat (first | refine blk_drewN ?_ _ | refine blk_drew ?_ | refine blk_alloc ?_ _)); refine blk_put (cs := #[.int .i64 t145, .int .i64 t146, .int .i64 0, .int .i64 0]) ?_ 2 _ rfl; (with_reducible repeat (first | refine blk_drewN ?_ _ | refine blk_drew ?_ | refine blk_alloc ?_ _)); refine blk_put (cs := #[.int .i64 t145, .int .i64 0, .int .i64 0, .int .i64 0]) ?_ 1 _ rfl; (with_reducible repeat (first | refine blk_drewN ?_ _ | refine blk_drew ?_ | refine blk_alloc ?_ _)); refine blk_put (cs := #[.int .i64 0, .int .i64 0, .int .i64 0, .int .i64 0]) ?_ 0 _ rfl; (with_reducible repeat (first | refine blk_drewN ?_ _ | refine blk_drew ?_ | refine blk_alloc ?_ _)); exact BK150.out⟩, ⟨by repeat (first | (with_reducible first | exact HB.out | apply below_alloc | apply pw_below_drewN | apply below_drew1 | refine below_set ?_ GE150.out) | exact HB.out)⟩⟩
          · rw [if_neg c15] at H
            have c15b0 : ((Go.bits .and .i64 (ji6) t146) == t146) = false := beq_eq_false_iff_ne.mpr c15
            have c15b1 : ((Go.bits .and .i64 (ji6) t146) != t146) = true := bne_iff_ne.mpr c15
            (first | rw [c15b0] | (simp only [i64_w, i32_w]; rw [c15b0]) | skip)
            have H' := Aside0.mk H
            clear H
            go_wp2_with (first | (go_at_call 50; (with_reducible refine (bits_Valid.calls a0 a1 true _ A13.out).mono ?_); rintro e w' ⟨rfl, ⟨nd, rfl⟩⟩; (try first | exact ⟨rfl, _, World.drewN_drewN _ _ _⟩ | exact ⟨rfl, _, Eq.trans (World.drewN_drewN _ _ _) (congrArg (World.drewN _) (Nat.add_assoc _ _ _))⟩); have hcz17_0 : w11.cell? ⟨gb150, 0, none⟩ = some (.int .i64 0) := (blk_cell BK150.out 0).trans rfl; have hcz17_1 : w11.cell? ⟨gb150, 1, none⟩ = some (.int .i64 0) := (blk_cell BK150.out 1).trans rfl; have hcz17_2 : w11.cell? ⟨gb150, 2, none⟩ = some (.int .i64 0) := (blk_cell BK150.out 2).trans rfl; have hcz17_3 : w11.cell? ⟨gb150, 3, none⟩ = some (.int .i64 0) := (blk_cell BK150.out 3).trans rfl; have hfz17_0 := blk_frozen BK150.out 0; have hfz17_1 := blk_frozen BK150.out 1; have hfz17_2 := blk_frozen BK150.out 2; have hfz17_3 := blk_frozen BK150.out 3))
            repeat (go_quiet (first | (go_at_call 50; (with_reducible refine (bits_Valid.calls a0 a1 true _ A13.out).mono ?_); rintro e w' ⟨rfl, ⟨nd, rfl⟩⟩; (try first | exact ⟨rfl, _, World.drewN_drewN _ _ _⟩ | exact ⟨rfl, _, Eq.trans (World.drewN_drewN _ _ _) (congrArg (World.drewN _) (Nat.add_assoc _ _ _))⟩); have hcz17_0 : w11.cell? ⟨gb150, 0, none⟩ = some (.int .i64 0) := (blk_cell BK150.out 0).trans rfl; have hcz17_1 : w11.cell? ⟨gb150, 1, none⟩ = some (.int .i64 0) := (blk_cell BK150.out 1).trans rfl; have hcz17_2 : w11.cell? ⟨gb150, 2, none⟩ = some (.int .i64 0) := (blk_cell BK150.out 2).trans rfl; have hcz17_3 : w11.cell? ⟨gb150, 3, none⟩ = some (.int .i64 0) := (blk_cell BK150.out 3).trans rfl; have hfz17_0 := blk_frozen BK150.out 0; have hfz17_1 := blk_frozen BK150.out 1; have hfz17_2 := blk_frozen BK150.out 2; have hfz17_3 := blk_frozen BK150.out 3)); try go_wp2_with (first | (go_at_call 50; (with_reducible refine (bits_Valid.calls a0 a1 true _ A13.out).mono ?_); rintro e w' ⟨rfl, ⟨nd, rfl⟩⟩; (try first | exact ⟨rfl, _, World.drewN_drewN _ _ _⟩ | exact ⟨rfl, _, Eq.trans (World.drewN_drewN _ _ _) (congrArg (World.drewN _) (Nat.add_assoc _ _ _))⟩); have hcz17_0 : w11.cell? ⟨gb150, 0, none⟩ = some (.int .i64 0) := (blk_cell BK150.out 0).trans rfl; have hcz17_1 : w11.cell? ⟨gb150, 1, none⟩ = some (.int .i64 0) := (blk_cell BK150.out 1).trans rfl; have hcz17_2 : w11.cell? ⟨gb150, 2, none⟩ = some (.int .i64 0) := (blk_cell BK150.out 2).trans rfl; have hcz17_3 : w11.cell? ⟨gb150, 3, none⟩ = some (.int .i64 0) := (blk_cell BK150.out 3).trans rfl; have hfz17_0 := blk_frozen BK150.out 0; have hfz17_1 := blk_frozen BK150.out 1; have hfz17_2 := blk_frozen BK150.out 2; have hfz17_3 := blk_frozen BK150.out 3)))
            go_meet
            case rel => exact ⟨_, (false), (by first | rfl | (simp; done) | (simp [*]; done)), H', ⟨by first | omega | exact Nat.le_refl _⟩, ⟨by (with_reducible repeat (first | refine blk_drewN ?_ _ | refine blk_drew ?_ | refine blk_alloc ?_ _)); refine blk_put (cs := #[.int .i64 t145, .int .i64 t146, .int .i64 t147, .int .i64 0]) ?_ 3 _ rfl; (with_reducible repeat (first | refine blk_drewN ?_ _ | refine blk_drew ?_ | refine blk_alloc ?_ _)); refine blk_put (cs := #[.int .i64 t145, .int .i64 t146, .int .i64 0, .int .i64 0]) ?_ 2 _ rfl; (with_reducible repeat (first | refine blk_drewN ?_ _ | refine blk_drew ?_ | refine blk_alloc ?_ _)); refine blk_put (cs := #[.int .i64 t145, .int .i64 0, .int .i64 0, .int .i64 0]) ?_ 1 _ rfl; (with_reducible repeat (first | refine blk_drewN ?_ _ | refine blk_drew ?_ | refine blk_alloc ?_ _)); refine blk_put (cs := #[.int .i64 0, .int .i64 0, .int .i64 0, .int .i64 0]) ?_ 0 _ rfl; (with_reducible repeat (first | refine blk_drewN ?_ _ | refine blk_drew ?_ | refine blk_alloc ?_ _)); exact BK150.out⟩, ⟨by repeat (first | (with_reducible first | exact HB.out | apply below_alloc | apply pw_below_drewN | apply below_drew1 | refine below_set ?_ GE150.out) | exact HB.out)⟩⟩
        · replace c14 := Bool.eq_false_iff.mpr c14
          subst c14
          have H1 : (bits_Class.j0 k (Go.bits .and .i64 (ji6) t146) (Go.bits .and .i64 a0 (wrap64 ((ji8) - 1))) true t145 t146 t147 t148) = some r := by rw [if_neg (show ¬ (false = true) by decide)] at H; exact H
          clear H
          have H := H1
          clear H1
          have H' := Aside0.mk H
          clear H
          go_wp2_with (first | (go_at_call 50; (with_reducible refine (bits_Valid.calls a0 a1 false _ A13.out).mono ?_); rintro e w' ⟨rfl, ⟨nd, rfl⟩⟩; (try first | exact ⟨rfl, _, World.drewN_drewN _ _ _⟩ | exact ⟨rfl, _, Eq.trans (World.drewN_drewN _ _ _) (congrArg (World.drewN _) (Nat.add_assoc _ _ _))⟩)))
          repeat (go_quiet (first | (go_at_call 50; (with_reducible refine (bits_Valid.calls a0 a1 false _ A13.out).mono ?_); rintro e w' ⟨rfl, ⟨nd, rfl⟩⟩; (try first | exact ⟨rfl, _, World.drewN_drewN _ _ _⟩ | exact ⟨rfl, _, Eq.trans (World.drewN_drewN _ _ _) (congrArg (World.drewN _) (Nat.add_assoc _ _ _))⟩))); try go_wp2_with (first | (go_at_call 50; (with_reducible refine (bits_Valid.calls a0 a1 false _ A13.out).mono ?_); rintro e w' ⟨rfl, ⟨nd, rfl⟩⟩; (try first | exact ⟨rfl, _, World.drewN_drewN _ _ _⟩ | exact ⟨rfl, _, Eq.trans (World.drewN_drewN _ _ _) (congrArg (World.drewN _) (Nat.add_assoc _ _ _))⟩))))
          go_meet
          case rel => exact ⟨_, (true), (by first | rfl | (simp; done) | (simp [*]; done)), H', ⟨by first | omega | exact Nat.le_refl _⟩, ⟨by (with_reducible repeat (first | refine blk_drewN ?_ _ | refine blk_drew ?_ | refine blk_alloc ?_ _)); refine blk_put (cs := #[.int .i64 t145, .int .i64 t146, .int .i64 t147, .int .i64 0]) ?_ 3 _ rfl; (with_reducible repeat (first | refine blk_drewN ?_ _ | refine blk_drew ?_ | refine blk_alloc ?_ _)); refine blk_put (cs := #[.int .i64 t145, .int .i64 t146, .int .i64 0, .int .i64 0]) ?_ 2 _ rfl; (with_reducible repeat (first | refine blk_drewN ?_ _ | refine blk_drew ?_ | refine blk_alloc ?_ _)); refine blk_put (cs := #[.int .i64 t145, .int .i64 0, .int .i64 0, .int .i64 0]) ?_ 1 _ rfl; (with_reducible repeat (first | refine blk_drewN ?_ _ | refine blk_drew ?_ | refine blk_alloc ?_ _)); refine blk_put (cs := #[.int .i64 0, .int .i64 0, .int .i64 0, .int .i64 0]) ?_ 0 _ rfl; (with_reducible repeat (first | refine blk_drewN ?_ _ | refine blk_drew ?_ | refine blk_alloc ?_ _)); exact BK150.out⟩, ⟨by repeat (first | (with_reducible first | exact HB.out | apply below_alloc | apply pw_below_drewN | apply below_drew1 | refine below_set ?_ GE150.out) | exact HB.out)⟩⟩
      case rest =>
        clear HC9
        try clear c1
        try clear c2
        try clear p2
        try clear c4
        try clear c5
        try clear c5b0
        try clear c5b1
        try clear p6
        try clear c7
        try clear c7b0
        try clear c14
        try clear c15
        try clear c15b0
        try clear c15b1
        try clear hcz12_0
        try clear hcz12_1
        try clear hcz12_2
        try clear hcz12_3
        try clear hcz16_0
        try clear hcz16_1
        try clear hcz16_2
        try clear hcz16_3
        try clear hcz17_0
        try clear hcz17_1
        try clear hcz17_2
        try clear hcz17_3
        try clear hfz12_0
        try clear hfz12_1
        try clear hfz12_2
        try clear hfz12_3
        try clear hfz16_0
        try clear hfz16_1
        try clear hfz16_2
        try clear hfz16_3
        try clear hfz17_0
        try clear hfz17_1
        try clear hfz17_2
        try clear hfz17_3
        obtain ⟨kq, x29_8, rfl, HA, HJ8, BK150, HB⟩ := hcut
        cases kq with
        | zero => exact absurd HA.out (by simp [bits_Class.j0])
        | succ kj8 =>
          have H := HA.out
          clear HA
          simp only [bits_Class.j0] at H
          by_cases c18 : x29_8 = true
          · subst c18
            have H1 : (some 4) = some r := by rw [if_pos rfl] at H; exact H
            clear H
            have H := H1
            clear H1
            obtain rfl := Option.some.inj H
            go_wp2
            repeat (go_quiet (fail); try go_wp2)
            go_ret
            exact ⟨by first | rfl | (simp [errW_none, errW_some] <;> rfl) | (simp only [← hji6, ← hji8]; first | rfl | (simp [errW_none, errW_some] <;> rfl)) | (simp [*, errW_none, errW_some] <;> rfl), by repeat (first | (with_reducible first | exact HB.out | apply below_alloc | apply pw_below_drewN | apply below_drew1 | refine below_set ?_ GE150.out) | exact HB.out)⟩
          · replace c18 := Bool.eq_false_iff.mpr c18
            subst c18
            have H1 : (if (Go.bits .and .i64 (ji6) t146) = t146 then (some 3) else (if (Go.bits .and .i64 (ji6) t146) = 0 then (if (Go.bits .and .i64 a0 (wrap64 ((ji8) - 1))) = 0 then (some 0) else (some 1)) else (some 2))) = some r := by rw [if_neg (show ¬ (false = true) by decide)] at H; exact H
            clear H
            have H := H1
            clear H1
            by_cases c19 : (Go.bits .and .i64 (ji6) t146) = t146
            · rw [if_pos c19] at H
              have c19b0 : ((Go.bits .and .i64 (ji6) t146) == t146) = true := beq_iff_eq.mpr c19
              have c19b1 : ((Go.bits .and .i64 (ji6) t146) != t146) = false := bne_eq_false_iff_eq.mpr c19
              clear c19
              obtain rfl := Option.some.inj H
              have hcz20_0 : wc.cell? ⟨gb150, 0, none⟩ = some (.int .i64 t145) := (blk_cell BK150.out 0).trans rfl
              have hcz20_1 : wc.cell? ⟨gb150, 1, none⟩ = some (.int .i64 t146) := (blk_cell BK150.out 1).trans rfl
              have hcz20_2 : wc.cell? ⟨gb150, 2, none⟩ = some (.int .i64 t147) := (blk_cell BK150.out 2).trans rfl
              have hcz20_3 : wc.cell? ⟨gb150, 3, none⟩ = some (.int .i64 t148) := (blk_cell BK150.out 3).trans rfl
              have hfz20_0 := blk_frozen BK150.out 0
              have hfz20_1 := blk_frozen BK150.out 1
              have hfz20_2 := blk_frozen BK150.out 2
              have hfz20_3 := blk_frozen BK150.out 3
              go_wp2
              repeat (go_quiet (fail); try go_wp2)
              go_ret
              exact ⟨by first | rfl | (simp [errW_none, errW_some] <;> rfl) | (simp only [← hji6, ← hji8]; first | rfl | (simp [errW_none, errW_some] <;> rfl)) | (simp [*, errW_none, errW_some] <;> rfl), by repeat (first | (with_reducible first | exact HB.out | apply below_alloc | apply pw_below_drewN | apply below_drew1 | refine below_set ?_ GE150.out) | exact HB.out)⟩
            · rw [if_neg c19] at H
              have c19b0 : ((Go.bits .and .i64 (ji6) t146) == t146) = false := beq_eq_false_iff_ne.mpr c19
              have c19b1 : ((Go.bits .and .i64 (ji6) t146) != t146) = true := bne_iff_ne.mpr c19
              by_cases c21 : (Go.bits .and .i64 (ji6) t146) = 0
              · rw [if_pos c21] at H
                have c21b0 : ((Go.bits .and .i64 (ji6) t146) == 0) = true := beq_iff_eq.mpr c21
                have c21b1 : ((Go.bits .and .i64 (ji6) t146) != 0) = false := bne_eq_false_iff_eq.mpr c21
                clear c21
                by_cases c22 : (Go.bits .and .i64 a0 (wrap64 ((ji8) - 1))) = 0
                · rw [if_pos c22] at H
                  have c22b0 : ((Go.bits .and .i64 a0 (wrap64 ((ji8) - 1))) == 0) = true := beq_iff_eq.mpr c22
                  have c22b1 : ((Go.bits .and .i64 a0 (wrap64 ((ji8) - 1))) != 0) = false := bne_eq_false_iff_eq.mpr c22
                  clear c22
                  obtain rfl := Option.some.inj H
                  have hcz23_0 : wc.cell? ⟨gb150, 0, none⟩ = some (.int .i64 t145) := (blk_cell BK150.out 0).trans rfl
                  have hcz23_1 : wc.cell? ⟨gb150, 1, none⟩ = some (.int .i64 t146) := (blk_cell BK150.out 1).trans rfl
                  have hcz23_2 : wc.cell? ⟨gb150, 2, none⟩ = some (.int .i64 t147) := (blk_cell BK150.out 2).trans rfl
                  have hcz23_3 : wc.cell? ⟨gb150, 3, none⟩ = some (.int .i64 t148) := (blk_cell BK150.out 3).trans rfl
                  have hfz23_0 := blk_frozen BK150.out 0
                  have hfz23_1 := blk_frozen BK150.out 1
                  have hfz23_2 := blk_frozen BK150.out 2
                  have hfz23_3 := blk_frozen BK150.out 3
                  go_wp2
                  repeat (go_quiet (fail); try go_wp2)
                  go_ret
                  exact ⟨by first | rfl | (simp [errW_none, errW_some] <;> rfl) | (simp only [← hji6, ← hji8]; first | rfl | (simp [errW_none, errW_some] <;> rfl)) | (simp [*, errW_none, errW_some] <;> rfl), by repeat (first | (with_reducible first | exact HB.out | apply below_alloc | apply pw_below_drewN | apply below_drew1 | refine below_set ?_ GE150.out) | exact HB.out)⟩
                · rw [if_neg c22] at H
                  have c22b0 : ((Go.bits .and .i64 a0 (wrap64 ((ji8) - 1))) == 0) = false := beq_eq_false_iff_ne.mpr c22
                  have c22b1 : ((Go.bits .and .i64 a0 (wrap64 ((ji8) - 1))) != 0) = true := bne_iff_ne.mpr c22
                  obtain rfl := Option.some.inj H
                  have hcz24_0 : wc.cell? ⟨gb150, 0, none⟩ = some (.int .i64 t145) := (blk_cell BK150.out 0).trans rfl
                  have hcz24_1 : wc.cell? ⟨gb150, 1, none⟩ = some (.int .i64 t146) := (blk_cell BK150.out 1).trans rfl
                  have hcz24_2 : wc.cell? ⟨gb150, 2, none⟩ = some (.int .i64 t147) := (blk_cell BK150.out 2).trans rfl
                  have hcz24_3 : wc.cell? ⟨gb150, 3, none⟩ = some (.int .i64 t148) := (blk_cell BK150.out 3).trans rfl
                  have hfz24_0 := blk_frozen BK150.out 0
                  have hfz24_1 := blk_frozen BK150.out 1
                  have hfz24_2 := blk_frozen BK150.out 2
                  have hfz24_3 := blk_frozen BK150.out 3
                  go_wp2
                  repeat (go_quiet (fail); try go_wp2)
                  go_ret
                  exact ⟨by first | rfl | (simp [errW_none, errW_some] <;> rfl) | (simp only [← hji6, ← hji8]; first | rfl | (simp [errW_none, errW_some] <;> rfl)) | (simp [*, errW_none, errW_some] <;> rfl), by repeat (first | (with_reducible first | exact HB.out | apply below_alloc | apply pw_below_drewN | apply below_drew1 | refine below_set ?_ GE150.out) | exact HB.out)⟩
              · rw [if_neg c21] at H
                have c21b0 : ((Go.bits .and .i64 (ji6) t146) == 0) = false := beq_eq_false_iff_ne.mpr c21
                have c21b1 : ((Go.bits .and .i64 (ji6) t146) != 0) = true := bne_iff_ne.mpr c21
                obtain rfl := Option.some.inj H
                have hcz25_0 : wc.cell? ⟨gb150, 0, none⟩ = some (.int .i64 t145) := (blk_cell BK150.out 0).trans rfl
                have hcz25_1 : wc.cell? ⟨gb150, 1, none⟩ = some (.int .i64 t146) := (blk_cell BK150.out 1).trans rfl
                have hcz25_2 : wc.cell? ⟨gb150, 2, none⟩ = some (.int .i64 t147) := (blk_cell BK150.out 2).trans rfl
                have hcz25_3 : wc.cell? ⟨gb150, 3, none⟩ = some (.int .i64 t148) := (blk_cell BK150.out 3).trans rfl
                have hfz25_0 := blk_frozen BK150.out 0
                have hfz25_1 := blk_frozen BK150.out 1
                have hfz25_2 := blk_frozen BK150.out 2
                have hfz25_3 := blk_frozen BK150.out 3
                go_wp2
                repeat (go_quiet (fail); try go_wp2)
                go_ret
                exact ⟨by first | rfl | (simp [errW_none, errW_some] <;> rfl) | (simp only [← hji6, ← hji8]; first | rfl | (simp [errW_none, errW_some] <;> rfl)) | (simp [*, errW_none, errW_some] <;> rfl), by repeat (first | (with_reducible first | exact HB.out | apply below_alloc | apply pw_below_drewN | apply below_drew1 | refine below_set ?_ GE150.out) | exact HB.out)⟩
    · rw [if_neg c5] at H
      exact absurd H (by simp)
  · replace c4 := Bool.eq_false_iff.mpr c4
    subst c4
    have H1 : (some 0) = some r := by rw [if_neg (show ¬ (false = true) by decide)] at H; exact H
    clear H
    have H := H1
    clear H1
    obtain rfl := Option.some.inj H
    go_enter Tryz.func22, Tryz.ntmps22
    go_wp2_with (first | (go_at_call 49; (with_reducible refine (bits_of.calls a1 t145 t146 t147 t148 false _ A3.out).mono ?_); rintro e w26 ⟨rfl, hb⟩; have n0_ := Aside0.mk (below_step (by repeat (first | (with_reducible first | exact HB.out | apply below_alloc | apply pw_below_drewN | apply below_drew1) | exact HB.out)) hb); clear HB; have HB := n0_; clear n0_; (try clear hb); (try clear hb2); (try clear hk); (try clear hi)) | ((with_reducible refine gate_dst (N := 5) rfl ?_); refine box_event ?hg (N := 5) ?hd (cs := #[.int .i64 0, .int .i64 0, .int .i64 0, .int .i64 0]) (t := 95) ?hr ?_; (case hd => rfl); (case hg => rfl); (case hr => first | (go_simp; done) | (go_simp; rfl)); intro gb150 hg w27 hbox hb; have n0_ := Aside0.mk (below_step (by repeat (first | (with_reducible first | exact HB.out | apply below_alloc | apply pw_below_drewN | apply below_drew1) | exact HB.out)) hb); have n1_ := Aside0.mk (hbox); have n2_ := Aside0.mk ((by rw [hg]; exact (below_size (by repeat (first | (with_reducible first | exact HB.out | apply below_alloc | apply pw_below_drewN | apply below_drew1) | exact HB.out))) : w.heap.size ≤ gb150)); have n3_ := Aside0.mk ((by rw [hg]; exact (below_size (by repeat (first | (with_reducible first | exact HB.out | apply below_alloc | apply pw_below_drewN | apply below_drew1) | exact HB.out))) : w.heap.size ≤ gb150)); clear HB; have HB := n0_; have BK150 := n1_; have GW150 := n2_; have GE150 := n3_; clear n0_ n1_ n2_ n3_; clear hb hbox hg; have hcz28_0 : w27.cell? ⟨gb150, 0, none⟩ = some (.int .i64 0) := (blk_cell BK150.out 0).trans rfl; have hcz28_1 : w27.cell? ⟨gb150, 1, none⟩ = some (.int .i64 0) := (blk_cell BK150.out 1).trans rfl; have hcz28_2 : w27.cell? ⟨gb150, 2, none⟩ = some (.int .i64 0) := (blk_cell BK150.out 2).trans rfl; have hcz28_3 : w27.cell? ⟨gb150, 3, none⟩ = some (.int .i64 0) := (blk_cell BK150.out 3).trans rfl; have hfz28_0 := blk_frozen BK150.out 0; have hfz28_1 := blk_frozen BK150.out 1; have hfz28_2 := blk_frozen BK150.out 2; have hfz28_3 := blk_frozen BK150.out 3))
    repeat (go_quiet (first | (go_at_call 49; (with_reducible refine (bits_of.calls a1 t145 t146 t147 t148 false _ A3.out).mono ?_); rintro e w26 ⟨rfl, hb⟩; have n0_ := Aside0.mk (below_step (by repeat (first | (with_reducible first | exact HB.out | apply below_alloc | apply pw_below_drewN | apply below_drew1) | exact HB.out)) hb); clear HB; have HB := n0_; clear n0_; (try clear hb); (try clear hb2); (try clear hk); (try clear hi)) | ((with_reducible refine gate_dst (N := 5) rfl ?_); refine box_event ?hg (N := 5) ?hd (cs := #[.int .i64 0, .int .i64 0, .int .i64 0, .int .i64 0]) (t := 95) ?hr ?_; (case hd => rfl); (case hg => rfl); (case hr => first | (go_simp; done) | (go_simp; rfl)); intro gb150 hg w27 hbox hb; have n0_ := Aside0.mk (below_step (by repeat (first | (with_reducible first | exact HB.out | apply below_alloc | apply pw_below_drewN | apply below_drew1) | exact HB.out)) hb); have n1_ := Aside0.mk (hbox); have n2_ := Aside0.mk ((by rw [hg]; exact (below_size (by repeat (first | (with_reducible first | exact HB.out | apply below_alloc | apply pw_below_drewN | apply below_drew1) | exact HB.out))) : w.heap.size ≤ gb150)); have n3_ := Aside0.mk ((by rw [hg]; exact (below_size (by repeat (first | (with_reducible first | exact HB.out | apply below_alloc | apply pw_below_drewN | apply below_drew1) | exact HB.out))) : w.heap.size ≤ gb150)); clear HB; have HB := n0_; have BK150 := n1_; have GW150 := n2_; have GE150 := n3_; clear n0_ n1_ n2_ n3_; clear hb hbox hg; have hcz28_0 : w27.cell? ⟨gb150, 0, none⟩ = some (.int .i64 0) := (blk_cell BK150.out 0).trans rfl; have hcz28_1 : w27.cell? ⟨gb150, 1, none⟩ = some (.int .i64 0) := (blk_cell BK150.out 1).trans rfl; have hcz28_2 : w27.cell? ⟨gb150, 2, none⟩ = some (.int .i64 0) := (blk_cell BK150.out 2).trans rfl; have hcz28_3 : w27.cell? ⟨gb150, 3, none⟩ = some (.int .i64 0) := (blk_cell BK150.out 3).trans rfl; have hfz28_0 := blk_frozen BK150.out 0; have hfz28_1 := blk_frozen BK150.out 1; have hfz28_2 := blk_frozen BK150.out 2; have hfz28_3 := blk_frozen BK150.out 3)); try go_wp2_with (first | (go_at_call 49; (with_reducible refine (bits_of.calls a1 t145 t146 t147 t148 false _ A3.out).mono ?_); rintro e w26 ⟨rfl, hb⟩; have n0_ := Aside0.mk (below_step (by repeat (first | (with_reducible first | exact HB.out | apply below_alloc | apply pw_below_drewN | apply below_drew1) | exact HB.out)) hb); clear HB; have HB := n0_; clear n0_; (try clear hb); (try clear hb2); (try clear hk); (try clear hi)) | ((with_reducible refine gate_dst (N := 5) rfl ?_); refine box_event ?hg (N := 5) ?hd (cs := #[.int .i64 0, .int .i64 0, .int .i64 0, .int .i64 0]) (t := 95) ?hr ?_; (case hd => rfl); (case hg => rfl); (case hr => first | (go_simp; done) | (go_simp; rfl)); intro gb150 hg w27 hbox hb; have n0_ := Aside0.mk (below_step (by repeat (first | (with_reducible first | exact HB.out | apply below_alloc | apply pw_below_drewN | apply below_drew1) | exact HB.out)) hb); have n1_ := Aside0.mk (hbox); have n2_ := Aside0.mk ((by rw [hg]; exact (below_size (by repeat (first | (with_reducible first | exact HB.out | apply below_alloc | apply pw_below_drewN | apply below_drew1) | exact HB.out))) : w.heap.size ≤ gb150)); have n3_ := Aside0.mk ((by rw [hg]; exact (below_size (by repeat (first | (with_reducible first | exact HB.out | apply below_alloc | apply pw_below_drewN | apply below_drew1) | exact HB.out))) : w.heap.size ≤ gb150)); clear HB; have HB := n0_; have BK150 := n1_; have GW150 := n2_; have GE150 := n3_; clear n0_ n1_ n2_ n3_; clear hb hbox hg; have hcz28_0 : w27.cell? ⟨gb150, 0, none⟩ = some (.int .i64 0) := (blk_cell BK150.out 0).trans rfl; have hcz28_1 : w27.cell? ⟨gb150, 1, none⟩ = some (.int .i64 0) := (blk_cell BK150.out 1).trans rfl; have hcz28_2 : w27.cell? ⟨gb150, 2, none⟩ = some (.int .i64 0) := (blk_cell BK150.out 2).trans rfl; have hcz28_3 : w27.cell? ⟨gb150, 3, none⟩ = some (.int .i64 0) := (blk_cell BK150.out 3).trans rfl; have hfz28_0 := blk_frozen BK150.out 0; have hfz28_1 := blk_frozen BK150.out 1; have hfz28_2 := blk_frozen BK150.out 2; have hfz28_3 := blk_frozen BK150.out 3)))
    go_ret
    exact ⟨by first | rfl | (simp [errW_none, errW_some] <;> rfl) | (simp [*, errW_none, errW_some] <;> rfl), by repeat (first | (with_reducible first | exact HB.out | apply below_alloc | apply pw_below_drewN | apply below_drew1 | refine below_set ?_ GE150.out) | exact HB.out)⟩
attribute [local go_sem] max2_int min2_int max_two min_two max_three min_three max_four min_four   -- for this text's walks alone
set_option linter.unusedVariables false
set_option linter.unusedSimpArgs false
def bits_nan.f (a0 : Int) : Option (Int) := if a0 = 32 then (some 2143289345) else (some 9221120237041090561)
set_option maxHeartbeats 8000000 in
set_option maxRecDepth 100000 in
theorem bits_nan.calls (a0 : Int) (r : Int) (w : World) (h : bits_nan.f a0 = some r) :
    Calls Tryz.prog 23 #[.int .i64 a0] w fun e w' => e = .returned (.int .i64 r) ∧ Drawn0 w w' := by
  have H : (if a0 = 32 then (some 2143289345) else (some 9221120237041090561)) = some r := h
  clear h
  by_cases c2 : a0 = 32
  · rw [if_pos c2] at H
    have c2b0 : (a0 == 32) = true := beq_iff_eq.mpr c2
    have c2b1 : (a0 != 32) = false := bne_eq_false_iff_eq.mpr c2
    clear c2
    obtain rfl := Option.some.inj H
    go_enter Tryz.func23, Tryz.ntmps23
    go_wp2
    go_ret
    exact ⟨by first | rfl | (simp; done) | (simp [*]; done), by repeat (first | exact Drawn0.refl _ | apply Drawn0.step)⟩
  · rw [if_neg c2] at H
    have c2b0 : (a0 == 32) = false := beq_eq_false_iff_ne.mpr c2
    have c2b1 : (a0 != 32) = true := bne_iff_ne.mpr c2
    obtain rfl := Option.some.inj H
    go_enter Tryz.func23, Tryz.ntmps23
    go_wp2
    go_ret
    exact ⟨by first | rfl | (simp; done) | (simp [*]; done), by repeat (first | exact Drawn0.refl _ | apply Drawn0.step)⟩
attribute [local go_sem] max2_int min2_int max_two min_two max_three min_three max_four min_four   -- for this text's walks alone
set_option linter.unusedVariables false
set_option linter.unusedSimpArgs false
def bits_Canon.j0 : Nat → Int → Int → Bool → Option (Int)
  | 0, _, _, _ => none
  | k + 1, x0, x1, x5 => if x5 = true then (some 0) else ((bits_Class.f k x0 x1).bind fun t152 => (if t152 = 4 then ((bits_nan.f x1).bind fun t153 => (some t153)) else ((bits_Class.f k x0 x1).bind fun t154 => (if t154 = 0 then (some 0) else (some x0)))))
def bits_Canon.f (k : Nat) (a0 : Int) (a1 : Int) : Option (Int) := if a1 = 64 then (bits_Canon.j0 k a0 a1 false) else (bits_Canon.j0 k a0 a1 (a1 != 32))
theorem bits_Canon.mono_l : ∀ k, (∀ y0 y1 y2, LeO (bits_Canon.j0 k y0 y1 y2) (bits_Canon.j0 (k + 1) y0 y1 y2))
  | 0 => fun _ _ _ r h => by simp [bits_Canon.j0] at h
  | k + 1 => by
    have ih0 := bits_Canon.mono_l k
    · intro y0 y1 y2
      unfold bits_Canon.j0
      repeat' first
      | (with_reducible exact ih0 _ _ _)
      | (with_reducible exact bits_Class.mono _ _ _)
      | (with_reducible exact LeO.refl _)
      | (with_reducible exact LeO.none _)
      | (with_reducible refine LeO.ite ?_ ?_)
      | (with_reducible refine LeO.bind ?_ (fun _ => ?_))
      | exact ih0 _ _ _
      | exact bits_Class.mono _ _ _
      | exact LeO.none _
      | refine LeO.ite ?_ ?_
      | refine LeO.bind ?_ (fun _ => ?_)
theorem bits_Canon.mono : ∀ a0 a1 k, LeO (bits_Canon.f k a0 a1) (bits_Canon.f (k + 1) a0 a1) := by
  intro a0 a1 k
  have ih0 := bits_Canon.mono_l k
  unfold bits_Canon.f
  repeat' first
      | (with_reducible exact ih0 _ _ _)
      | (with_reducible exact bits_Class.mono _ _ _)
      | (with_reducible exact LeO.refl _)
      | (with_reducible exact LeO.none _)
      | (with_reducible refine LeO.ite ?_ ?_)
      | (with_reducible refine LeO.bind ?_ (fun _ => ?_))
      | exact ih0 _ _ _
      | exact bits_Class.mono _ _ _
      | exact LeO.none _
      | refine LeO.ite ?_ ?_
      | refine LeO.bind ?_ (fun _ => ?_)
set_option maxHeartbeats 8000000 in
set_option maxRecDepth 100000 in
theorem bits_Canon.calls (k : Nat) (a0 : Int) (a1 : Int) (r : Int) (w : World) (h : bits_Canon.f k a0 a1 = some r) :
    Calls Tryz.prog 8 #[.int .i64 a0, .int .i64 a1] w fun e w' => e = .returned (.int .i64 r) ∧ Below w.heap.size w w' := by
  have HB := Aside0.mk (Below.refl w.heap.size w)
  have H : (if a1 = 64 then (bits_Canon.j0 k a0 a1 false) else (bits_Canon.j0 k a0 a1 (a1 != 32))) = some r := h
  clear h
  have HC3 := Aside0.mk H
  clear H
  go_enter Tryz.func8, Tryz.ntmps8
  go_upto_region 1 with (fail)
  go_cut [5] (fun v5 wc => ∃ (kq : Nat) (x5_2 : Bool), v5 = .bool x5_2 ∧ Aside0 (bits_Canon.j0 kq a0 a1 x5_2 = some r) ∧ Aside0 (kq ≤ k) ∧ Aside0 (Below w.heap.size w wc))
  case first =>
    have H := HC3.out
    clear HC3
    by_cases c4 : a1 = 64
    · rw [if_pos c4] at H
      have c4b0 : (a1 == 64) = true := beq_iff_eq.mpr c4
      have c4b1 : (a1 != 64) = false := bne_eq_false_iff_eq.mpr c4
      clear c4
      (first | rw [c4b0] | (simp only [i64_w, i32_w]; rw [c4b0]) | skip)
      have H' := Aside0.mk H
      clear H
      go_wp2
      go_meet
      case rel => exact ⟨_, (false), (by first | rfl | (simp; done) | (simp [*]; done)), H', ⟨by first | omega | exact Nat.le_refl _⟩, ⟨by repeat (first | (with_reducible first | exact HB.out | apply below_alloc | apply pw_below_drewN | apply below_drew1) | exact HB.out)⟩⟩
    · rw [if_neg c4] at H
      have c4b0 : (a1 == 64) = false := beq_eq_false_iff_ne.mpr c4
      have c4b1 : (a1 != 64) = true := bne_iff_ne.mpr c4
      (first | rw [c4b0] | (simp only [i64_w, i32_w]; rw [c4b0]) | skip)
      have H' := Aside0.mk H
      clear H
      go_wp2
      go_meet
      case rel => exact ⟨_, ((a1 != 32)), (by first | rfl | (simp; done) | (simp [*]; done)), H', ⟨by first | omega | exact Nat.le_refl _⟩, ⟨by repeat (first | (with_reducible first | exact HB.out | apply below_alloc | apply pw_below_drewN | apply below_drew1) | exact HB.out)⟩⟩
  case rest =>
    clear HC3
    try clear p2
    try clear c4
    try clear c4b0
    try clear c4b1
    obtain ⟨kq, x5_2, rfl, HA, HJ2, HB⟩ := hcut
    cases kq with
    | zero => exact absurd HA.out (by simp [bits_Canon.j0])
    | succ kj2 =>
      have H := HA.out
      clear HA
      simp only [bits_Canon.j0] at H
      by_cases c5 : x5_2 = true
      · subst c5
        have H1 : (some 0) = some r := by rw [if_pos rfl] at H; exact H
        clear H
        have H := H1
        clear H1
        obtain rfl := Option.some.inj H
        go_wp2
        go_ret
        exact ⟨by first | rfl | (simp [errW_none, errW_some] <;> rfl) | (simp [*, errW_none, errW_some] <;> rfl), by repeat (first | (with_reducible first | exact HB.out | apply below_alloc | apply pw_below_drewN | apply below_drew1) | exact HB.out)⟩
      · replace c5 := Bool.eq_false_iff.mpr c5
        subst c5
        have H1 : ((bits_Class.f kj2 a0 a1).bind fun t152 => (if t152 = 4 then ((bits_nan.f a1).bind fun t153 => (some t153)) else ((bits_Class.f kj2 a0 a1).bind fun t154 => (if t154 = 0 then (some 0) else (some a0))))) = some r := by rw [if_neg (show ¬ (false = true) by decide)] at H; exact H
        clear H
        have H := H1
        clear H1
        replace H := Option.bind_eq_some_iff.mp H
        obtain ⟨t152, A60, H⟩ := H
        replace H : (if t152 = 4 then ((bits_nan.f a1).bind fun t153 => (some t153)) else ((bits_Class.f kj2 a0 a1).bind fun t154 => (if t154 = 0 then (some 0) else (some a0)))) = some r := H
        have A6 := Aside0.mk A60
        clear A60
        by_cases c7 : t152 = 4
        · rw [if_pos c7] at H
          have c7b0 : (t152 == 4) = true := beq_iff_eq.mpr c7
          have c7b1 : (t152 != 4) = false := bne_eq_false_iff_eq.mpr c7
          clear c7
          replace H := Option.bind_eq_some_iff.mp H
          obtain ⟨t153, A80, H⟩ := H
          replace H : (some t153) = some r := H
          have A8 := Aside0.mk A80
          clear A80
          obtain rfl := Option.some.inj H
          go_wp2_with (first | ((with_reducible refine gate_callee (f := 22) rfl ?_); refine goesL_ (some 15) rfl rfl Tryz.func22 (by kernel_rfl) rfl #[.int .i64 a0, .int .i64 a1] rfl (by (try simp only [List.map_toArray, List.map_cons, List.map_nil]); first | done | rfl | (simp only [List.length_drop, List.length_take]; rfl)) ?_; (with_reducible refine (bits_Class.calls kj2 a0 a1 t152 _ A6.out).mono ?_); rintro e w9 ⟨rfl, hb⟩; refine ⟨_, rfl, ?_⟩; have n0_ := Aside0.mk (below_step (by repeat (first | (with_reducible first | exact HB.out | apply below_alloc | apply pw_below_drewN | apply below_drew1) | exact HB.out)) hb); clear HB; have HB := n0_; clear n0_; (try clear hb); (try clear hb2); (try clear hk); (try clear hi)) | ((with_reducible refine gate_callee (f := 23) rfl ?_); refine goesL_ (some 18) rfl rfl Tryz.func23 (by kernel_rfl) rfl #[.int .i64 a1] rfl (by (try simp only [List.map_toArray, List.map_cons, List.map_nil]); first | done | rfl | (simp only [List.length_drop, List.length_take]; rfl)) ?_; (with_reducible refine (bits_nan.calls a1 t153 _ A8.out).mono ?_); rintro e w' ⟨rfl, ⟨nd, rfl⟩⟩; refine ⟨_, rfl, ?_⟩))
          go_ret
          exact ⟨by first | rfl | (simp [errW_none, errW_some] <;> rfl) | (simp [*, errW_none, errW_some] <;> rfl), by repeat (first | (with_reducible first | exact HB.out | apply below_alloc | apply pw_below_drewN | apply below_drew1) | exact HB.out)⟩
        · rw [if_neg c7] at H
          have c7b0 : (t152 == 4) = false := beq_eq_false_iff_ne.mpr c7
          have c7b1 : (t152 != 4) = true := bne_iff_ne.mpr c7
          replace H := Option.bind_eq_some_iff.mp H
          obtain ⟨t154, A100, H⟩ := H
          replace H : (if t154 = 0 then (some 0) else (some a0)) = some r := H
          have A10 := Aside0.mk A100
          clear A100
          by_cases c11 : t154 = 0
          · rw [if_pos c11] at H
            have c11b0 : (t154 == 0) = true := beq_iff_eq.mpr c11
            have c11b1 : (t154 != 0) = false := bne_eq_false_iff_eq.mpr c11
            clear c11
            obtain rfl := Option.some.inj H
            go_wp2_with (first | ((with_reducible refine gate_callee (f := 22) rfl ?_); refine goesL_ (some 15) rfl rfl Tryz.func22 (by kernel_rfl) rfl #[.int .i64 a0, .int .i64 a1] rfl (by (try simp only [List.map_toArray, List.map_cons, List.map_nil]); first | done | rfl | (simp only [List.length_drop, List.length_take]; rfl)) ?_; (with_reducible refine (bits_Class.calls kj2 a0 a1 t152 _ A6.out).mono ?_); rintro e w12 ⟨rfl, hb⟩; refine ⟨_, rfl, ?_⟩; have n0_ := Aside0.mk (below_step (by repeat (first | (with_reducible first | exact HB.out | apply below_alloc | apply pw_below_drewN | apply below_drew1) | exact HB.out)) hb); clear HB; have HB := n0_; clear n0_; (try clear hb); (try clear hb2); (try clear hk); (try clear hi)) | ((with_reducible refine gate_callee (f := 22) rfl ?_); refine goesL_ (some 22) rfl rfl Tryz.func22 (by kernel_rfl) rfl #[.int .i64 a0, .int .i64 a1] rfl (by (try simp only [List.map_toArray, List.map_cons, List.map_nil]); first | done | rfl | (simp only [List.length_drop, List.length_take]; rfl)) ?_; (with_reducible refine (bits_Class.calls kj2 a0 a1 t154 _ A10.out).mono ?_); rintro e w13 ⟨rfl, hb⟩; refine ⟨_, rfl, ?_⟩; have n0_ := Aside0.mk (below_step (by repeat (first | (with_reducible first | exact HB.out | apply below_alloc | apply pw_below_drewN | apply below_drew1) | exact HB.out)) hb); clear HB; have HB := n0_; clear n0_; (try clear hb); (try clear hb2); (try clear hk); (try clear hi)))
            go_ret
            exact ⟨by first | rfl | (simp [errW_none, errW_some] <;> rfl) | (simp [*, errW_none, errW_some] <;> rfl), by repeat (first | (with_reducible first | exact HB.out | apply below_alloc | apply pw_below_drewN | apply below_drew1) | exact HB.out)⟩
          · rw [if_neg c11] at H
            have c11b0 : (t154 == 0) = false := beq_eq_false_iff_ne.mpr c11
            have c11b1 : (t154 != 0) = true := bne_iff_ne.mpr c11
            obtain rfl := Option.some.inj H
            go_wp2_with (first | ((with_reducible refine gate_callee (f := 22) rfl ?_); refine goesL_ (some 15) rfl rfl Tryz.func22 (by kernel_rfl) rfl #[.int .i64 a0, .int .i64 a1] rfl (by (try simp only [List.map_toArray, List.map_cons, List.map_nil]); first | done | rfl | (simp only [List.length_drop, List.length_take]; rfl)) ?_; (with_reducible refine (bits_Class.calls kj2 a0 a1 t152 _ A6.out).mono ?_); rintro e w14 ⟨rfl, hb⟩; refine ⟨_, rfl, ?_⟩; have n0_ := Aside0.mk (below_step (by repeat (first | (with_reducible first | exact HB.out | apply below_alloc | apply pw_below_drewN | apply below_drew1) | exact HB.out)) hb); clear HB; have HB := n0_; clear n0_; (try clear hb); (try clear hb2); (try clear hk); (try clear hi)) | ((with_reducible refine gate_callee (f := 22) rfl ?_); refine goesL_ (some 22) rfl rfl Tryz.func22 (by kernel_rfl) rfl #[.int .i64 a0, .int .i64 a1] rfl (by (try simp only [List.map_toArray, List.map_cons, List.map_nil]); first | done | rfl | (simp only [List.length_drop, List.length_take]; rfl)) ?_; (with_reducible refine (bits_Class.calls kj2 a0 a1 t154 _ A10.out).mono ?_); rintro e w15 ⟨rfl, hb⟩; refine ⟨_, rfl, ?_⟩; have n0_ := Aside0.mk (below_step (by repeat (first | (with_reducible first | exact HB.out | apply below_alloc | apply pw_below_drewN | apply below_drew1) | exact HB.out)) hb); clear HB; have HB := n0_; clear n0_; (try clear hb); (try clear hb2); (try clear hk); (try clear hi)))
            go_ret
            exact ⟨by first | rfl | (simp [errW_none, errW_some] <;> rfl) | (simp [*, errW_none, errW_some] <;> rfl), by repeat (first | (with_reducible first | exact HB.out | apply below_alloc | apply pw_below_drewN | apply below_drew1) | exact HB.out)⟩
end Go.Proofs.YtlfmgdpbjapdjaaGreatFmtBesafter.F
namespace Go.Proofs.YtlfmgdpbjapdjaaGreatFmtBesafter
open Go.RowKit Go.Proofs.YtlfmgdpbjapdjaaGreatFmtBesafterW.PrintWords
def val : List Int → Int
  | [] => 0
  | d :: ds => d + 1073741824 * val ds
def Digs (ds : List Int) : Prop := ∀ d ∈ ds, 0 ≤ d ∧ d < 1073741824
theorem val_range : ∀ (ds : List Int), Digs ds → 0 ≤ val ds ∧ val ds < 2 ^ (30 * ds.length)
  | [], _ => by simp [val]
  | d :: ds, h => by
    obtain ⟨h0, h1⟩ := val_range ds fun x hx => h x (List.mem_cons_of_mem _ hx)
    obtain ⟨h2, h3⟩ := h d List.mem_cons_self
    rw [val, List.length_cons, show 30 * (ds.length + 1) = 30 + 30 * ds.length by omega, Int.pow_add]
    have e : (2 : Int) ^ 30 = 1073741824 := by decide
    rw [e]
    generalize (2 : Int) ^ (30 * ds.length) = P at *
    omega
theorem Digs.drop {ds : List Int} (h : Digs ds) (k : Nat) : Digs (ds.drop k) := fun d hd => h d (List.mem_of_mem_drop hd)
theorem drop_cons (ds : List Int) (k : Nat) (h : k < ds.length) : ds.drop k = ds.getD k 0 :: ds.drop (k + 1) := by
  rw [List.drop_eq_getElem_cons h]
  simp [List.getD, h]
theorem Digs.at {ds : List Int} (h : Digs ds) (k : Nat) (hk : k < ds.length) : 0 ≤ ds.getD k 0 ∧ ds.getD k 0 < 1073741824 := by
  have e : ds.getD k 0 = ds[k] := by simp [List.getD, hk]
  rw [e]; exact h _ (List.getElem_mem hk)
theorem fits_val {ds : List Int} (h : Digs ds) (hl : ds.length ≤ 1000000) : Fits (val ds) := Fits.of (val_range ds h).2 (by omega)
def New (B : Nat) (w : World) (g : Nat) (z : Int) : Prop := ∃ o, IsInt w g o z ∧ B ≤ g ∧ ∀ b, o = some b → B ≤ b
theorem New.put {B : Nat} {w0 w w' : World} {g : Nat} {o : Option Nat} {r : Int} (hB : w0.heap.size = B) (hw : Only w0 w (fun _ => False)) (hg : B ≤ g) (ho : ∀ b, o = some b → B ≤ b) (h : Put w w' g o r) : New B w' g r ∧ Only w0 w' (fun _ => False) := by
  obtain ⟨o', h1, h2, h3⟩ := h
  refine ⟨⟨o', h1, hg, fun b hb => ?_⟩, hw.step h2 ?_⟩
  · rcases h3 with rfl | ⟨c, h3, h4⟩
    · exact ho b hb
    · rw [h3] at hb; cases hb
      have := hw.base.size
      omega
  · rintro i hi (rfl | h)
    · omega
    · have := ho i h; omega
theorem New.alloc (w : World) : New w.heap.size (w.alloc (.cells #[.bool false, .slice none 0 0] 87)) w.heap.size 0 :=
  ⟨none, ⟨_, by simpa using heap_alloc_new w (.cells #[.bool false, .slice none 0 0] 87), .nil⟩, Nat.le_refl _, fun _ h => by cases h⟩
theorem newInt_any (x : Int) (w : World) (h : 0 ≤ x) (h2 : x < 9223372036854775808) :
    Calls Tryz.prog 33 #[.int .i64 x] w fun e w' => ∃ g, e = .returned (.pointer (some ⟨g, 0, none⟩)) ∧ New w.heap.size w' g x ∧ Only w w' (fun _ => False) := by
  by_cases h0 : x = 0
  · subst h0
    refine (newInt_zero w).mono ?_
    rintro e w' ⟨rfl, rfl⟩
    exact ⟨_, rfl, New.alloc w, (Only.refl _ _).alloc _⟩
  · refine (newInt_pos x w (by omega) h2).mono ?_
    rintro e w' ⟨g, rfl, b, hb, hg, ho, hb2, hg2⟩
    have e1 : num (fun i => [x].getD i 0) 1 = x := by simp [num]
    refine ⟨g, rfl, ⟨some b, ⟨.slice (some ⟨b, 0, none⟩) 1 1, ?_, ?_⟩, hg2, fun c hc => by cases hc; exact hb2⟩, ho⟩
    · rw [decide_eq_false (by omega)]; exact hg
    · rw [natAbs_nonneg h]
      refine .own b 1 [x] x hb (by simp) (by simp [most]) ⟨fun i hi => ?_, fun _ => ?_⟩ e1
      · obtain rfl : i = 0 := by omega
        show 0 ≤ x ∧ x < _
        omega
      · show x ≠ 0
        exact h0
set_option maxRecDepth 100000 in
set_option maxHeartbeats 4000000 in
theorem whole_calls (neg : Bool) (A : Option Addr) (c : Nat) (ds : List Int) (w : World) (hr : ReadsInt w .i64 A ds.length ds) (hd : Digs ds) (hl : ds.length ≤ 1000000) :
    Calls Tryz.prog 42 #[.bool neg, .slice A ds.length c] w fun e w' => ∃ g, e = .returned (.pointer (some ⟨g, 0, none⟩)) ∧ New w.heap.size w' g (if neg then -val ds else val ds) ∧ Only w w' (fun _ => False) := by
  obtain ⟨w0, hw0⟩ : ∃ w0 : World, w0 = w.alloc (.cells #[.bool false, .slice none 0 0] 87) := ⟨_, rfl⟩
  go_enter Tryz.func42, Tryz.ntmps42
  go_wp2_with fail
  go_loopw [10] (fun i wr => ∃ k : Nat, k ≤ ds.length ∧ i = .int .i64 k ∧ New w.heap.size wr w.heap.size (val (ds.drop (ds.length - k))) ∧ Only w wr (fun _ => False))
    (fun i _ => ds.length - (intOf i).toNat)
  case atStart =>
    refine ⟨0, Nat.zero_le _, rfl, ?_, (Only.refl _ _).alloc _⟩
    rw [Nat.sub_zero, List.drop_of_length_le (Nat.le_refl _)]
    exact New.alloc w
  case round =>
    obtain ⟨k, hk, rfl, ⟨o, hi, hg, ho⟩, hw⟩ := hrel
    by_cases hlt : k < ds.length
    · have hlt2 : (k : Int) < ds.length := by omega
      have hdr := drop_cons ds (ds.length - 1 - k) (by omega)
      have hdg := hd.at (ds.length - 1 - k) (by omega)
      have hcell : ∃ ad, A = some ad ∧ w.cell? (ad.add (ds.length - 1 - k)) = some (.int .i64 (ds.getD (ds.length - 1 - k) 0)) := by
        obtain ⟨ad, h1, h2⟩ := hr.2.2 (by omega)
        exact ⟨ad, h1, h2 _ (by omega)⟩
      obtain ⟨ad, rfl, hc⟩ := hcell
      have hv := val_range _ (hd.drop (ds.length - k))
      rw [show ds.length - 1 - k + 1 = ds.length - k by omega] at hdr
      generalize hD : ds.getD (ds.length - 1 - k) 0 = d at hc hdg hdr
      generalize hV : val (ds.drop (ds.length - k)) = v at hi hv
      have HD := Lib.hid hdr
      have HV := Lib.hid hV
      clear hdr hV hD
      have hbase : ∀ w1, Only w w1 (fun _ => False) → w1.cell? (ad.add (ds.length - 1 - k)) = some (.int .i64 d) := fun w1 h => (World.cell?_of_block (h.kept _ (World.block_lt_of_cell? w _ hc) (fun h => h))).trans hc
      have HC := Lib.hid hbase
      clear hbase hc
      go_wp2_with fail
      refine (lsh_int _ _ o o v v 30 wr hi hi (Fits.of (k := 30 * (ds.drop (ds.length - k)).length) (by rw [← HV.out]; have := hv.2; rw [HV.out]; omega) (by rw [List.length_drop]; omega)) (by omega) (by omega)).mono ?_
      rintro e w1 ⟨rfl, hp⟩
      obtain ⟨⟨o1, hi1, _, ho1⟩, hw1⟩ := New.put rfl hw hg ho hp
      have hc := HC.out w1 hw1
      go_wp2_with fail
      refine (newInt_any d w1 hdg.1 (by omega)).mono ?_
      rintro e w2 ⟨gy, rfl, ⟨oy, hiy, hgy, hoy⟩, hw2⟩
      go_wp2_with fail
      have hi2 := hi1.only hw2 (fun h => h) (fun _ _ h => h)
      have hq := Int.mul_nonneg hv.1 (by decide : (0 : Int) ≤ 2 ^ 30)
      refine (or_int _ _ gy o1 o1 oy _ _ d 30 w2 hi2 hi2 hiy hq hdg.1 ?_ (by omega) (Int.mul_emod_left _ _) hdg.2).mono ?_
      · refine Fits.of (k := 30 * (ds.drop (ds.length - k)).length + 30) ?_ (by rw [List.length_drop]; omega)
        rw [Int.pow_add]
        exact Int.mul_lt_mul_of_pos_right hv.2 (by decide)
      · rintro e w3 ⟨rfl, hp3⟩
        obtain ⟨hn3, hw3⟩ := New.put rfl (hw1.trans hw2) hg ho1 hp3
        clear hc
        go_wp2_with fail
        go_roundw
        case rel =>
          refine ⟨k + 1, by omega, by go_num, ?_, hw3⟩
          rw [show ds.length - (k + 1) = ds.length - 1 - k by omega, HD.out, val, HV.out]
          rw [show d + 1073741824 * v = v * 2 ^ 30 + d by omega]
          exact hn3
        case measure => simp [intOf]; omega
    · obtain rfl : k = ds.length := by omega
      rw [Nat.sub_self, List.drop_zero] at hi
      cases neg with
      | false =>
        go_wp2_with fail
        go_ret
        exact ⟨_, rfl, ⟨o, hi, hg, ho⟩, hw⟩
      | true =>
        go_wp2_with fail
        refine (neg_int _ o _ wr hi).mono ?_
        rintro e w1 ⟨rfl, hp⟩
        obtain ⟨hn1, hw1⟩ := New.put rfl hw hg ho hp
        go_wp2_with fail
        go_ret
        exact ⟨_, rfl, hn1, hw1⟩
end Go.Proofs.YtlfmgdpbjapdjaaGreatFmtBesafter
