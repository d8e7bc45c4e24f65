/- Part 18 of the walk of ExactOnes: FBitsNan FBitsCanon FltE ExK. -/
import Derived.Test.YtflhdplfkpdejaaGreatFmtPart07
import Derived.Test.YtflhdplfkpdejaaGreatFmtPart17
import Derived.Test.YtflhdplfkpdejaaGreatFmtPart16
import Derived.Test.YtflhdplfkpdejaaGreatFmtPart09
import Derived.Laws.FloatArith
import Derived.Test.YtflhdplfkpdejaaGreatFmtPart14
import Derived.Test.YtflhdplfkpdejaaGreatFmtPart12
import Derived.Test.YtflhdplfkpdejaaGreatFmtPart06
namespace Go.Proofs.YtflhdplfkpdejaaGreatFmt.F
open Go.RowKit Go.Proofs.YtflhdplfkpdejaaGreatFmtW.PrintWords Go.Proofs.YtflhdplfkpdejaaGreatFmtW.PrintLast Go.Proofs.YtflhdplfkpdejaaGreatFmtW.PrintMore
attribute [local go_sem] max2_int min2_int max_two min_two max_three min_three max_four min_four   -- for this text's walks alone
set_option linter.unusedVariables false
set_option linter.unusedSimpArgs false
def bits_nan.f (a0 : Int) : Option (Int) := if a0 = 32 then (some 2143289345) else (some 9221120237041090561)
set_option maxHeartbeats 8000000 in
set_option maxRecDepth 100000 in
theorem bits_nan.calls (a0 : Int) (r : Int) (w : World) (h : bits_nan.f a0 = some r) :
    Calls Tryz.prog 118 #[.int .i64 a0] w fun e w' => e = .returned (.int .i64 r) ∧ Drawn0 w w' := by
  have H : (if a0 = 32 then (some 2143289345) else (some 9221120237041090561)) = some r := h
  clear h
  by_cases c2 : a0 = 32
  · rw [if_pos c2] at H
    have c2b0 : (a0 == 32) = true := beq_iff_eq.mpr c2
    have c2b1 : (a0 != 32) = false := bne_eq_false_iff_eq.mpr c2
    clear c2
    obtain rfl := Option.some.inj H
    go_enter Tryz.func118, Tryz.ntmps118
    go_wp2
    go_ret
    exact ⟨by first | rfl | (simp; done) | (simp [*]; done), by repeat (first | exact Drawn0.refl _ | apply Drawn0.step)⟩
  · rw [if_neg c2] at H
    have c2b0 : (a0 == 32) = false := beq_eq_false_iff_ne.mpr c2
    have c2b1 : (a0 != 32) = true := bne_iff_ne.mpr c2
    obtain rfl := Option.some.inj H
    go_enter Tryz.func118, Tryz.ntmps118
    go_wp2
    go_ret
    exact ⟨by first | rfl | (simp; done) | (simp [*]; done), by repeat (first | exact Drawn0.refl _ | apply Drawn0.step)⟩
end Go.Proofs.YtflhdplfkpdejaaGreatFmt.F
namespace Go.Proofs.YtflhdplfkpdejaaGreatFmt.F
open Go.RowKit Go.Proofs.YtflhdplfkpdejaaGreatFmtW.PrintWords Go.Proofs.YtflhdplfkpdejaaGreatFmtW.PrintLast Go.Proofs.YtflhdplfkpdejaaGreatFmtW.PrintMore
attribute [local go_sem] max2_int min2_int max_two min_two max_three min_three max_four min_four   -- for this text's walks alone
set_option linter.unusedVariables false
set_option linter.unusedSimpArgs false
def bits_Canon.j0 : Nat → Int → Int → Bool → Option (Int)
  | 0, _, _, _ => none
  | k + 1, x0, x1, x5 => if x5 = true then (some 0) else ((bits_Class.f k x0 x1).bind fun t325 => (if t325 = 4 then ((bits_nan.f x1).bind fun t326 => (some t326)) else ((bits_Class.f k x0 x1).bind fun t327 => (if t327 = 0 then (some 0) else (some x0)))))
def bits_Canon.f (k : Nat) (a0 : Int) (a1 : Int) : Option (Int) := if a1 = 64 then (bits_Canon.j0 k a0 a1 false) else (bits_Canon.j0 k a0 a1 (a1 != 32))
theorem bits_Canon.mono_l : ∀ k, (∀ y0 y1 y2, LeO (bits_Canon.j0 k y0 y1 y2) (bits_Canon.j0 (k + 1) y0 y1 y2))
  | 0 => fun _ _ _ r h => by simp [bits_Canon.j0] at h
  | k + 1 => by
    have ih0 := bits_Canon.mono_l k
    · intro y0 y1 y2
      unfold bits_Canon.j0
      repeat' first
      | (with_reducible exact ih0 _ _ _)
      | (with_reducible exact bits_Class.mono _ _ _)
      | (with_reducible exact LeO.refl _)
      | (with_reducible exact LeO.none _)
      | (with_reducible refine LeO.ite ?_ ?_)
      | (with_reducible refine LeO.bind ?_ (fun _ => ?_))
      | exact ih0 _ _ _
      | exact bits_Class.mono _ _ _
      | exact LeO.none _
      | refine LeO.ite ?_ ?_
      | refine LeO.bind ?_ (fun _ => ?_)
theorem bits_Canon.mono : ∀ a0 a1 k, LeO (bits_Canon.f k a0 a1) (bits_Canon.f (k + 1) a0 a1) := by
  intro a0 a1 k
  have ih0 := bits_Canon.mono_l k
  unfold bits_Canon.f
  repeat' first
      | (with_reducible exact ih0 _ _ _)
      | (with_reducible exact bits_Class.mono _ _ _)
      | (with_reducible exact LeO.refl _)
      | (with_reducible exact LeO.none _)
      | (with_reducible refine LeO.ite ?_ ?_)
      | (with_reducible refine LeO.bind ?_ (fun _ => ?_))
      | exact ih0 _ _ _
      | exact bits_Class.mono _ _ _
      | exact LeO.none _
      | refine LeO.ite ?_ ?_
      | refine LeO.bind ?_ (fun _ => ?_)
set_option maxHeartbeats 8000000 in
set_option maxRecDepth 100000 in
theorem bits_Canon.calls (k : Nat) (a0 : Int) (a1 : Int) (r : Int) (w : World) (h : bits_Canon.f k a0 a1 = some r) :
    Calls Tryz.prog 78 #[.int .i64 a0, .int .i64 a1] w fun e w' => e = .returned (.int .i64 r) ∧ Below w.heap.size w w' := by
  have HB := Aside0.mk (Below.refl w.heap.size w)
  have H : (if a1 = 64 then (bits_Canon.j0 k a0 a1 false) else (bits_Canon.j0 k a0 a1 (a1 != 32))) = some r := h
  clear h
  have HC3 := Aside0.mk H
  clear H
  go_enter Tryz.func78, Tryz.ntmps78
  go_upto_region 1 with (fail)
  go_cut [5] (fun v5 wc => ∃ (kq : Nat) (x5_2 : Bool), v5 = .bool x5_2 ∧ Aside0 (bits_Canon.j0 kq a0 a1 x5_2 = some r) ∧ Aside0 (kq ≤ k) ∧ Aside0 (Below w.heap.size w wc))
  case first =>
    have H := HC3.out
    clear HC3
    by_cases c4 : a1 = 64
    · rw [if_pos c4] at H
      have c4b0 : (a1 == 64) = true := beq_iff_eq.mpr c4
      have c4b1 : (a1 != 64) = false := bne_eq_false_iff_eq.mpr c4
      clear c4
      (first | rw [c4b0] | (simp only [i64_w, i32_w]; rw [c4b0]) | skip)
      have H' := Aside0.mk H
      clear H
      go_wp2
      go_meet
      case rel => exact ⟨_, (false), (by first | rfl | (simp; done) | (simp [*]; done)), H', ⟨by first | omega | exact Nat.le_refl _⟩, ⟨by repeat (first | (with_reducible first | exact HB.out | apply below_alloc | apply pw_below_drewN | apply below_drew1) | exact HB.out)⟩⟩
    · rw [if_neg c4] at H
      have c4b0 : (a1 == 64) = false := beq_eq_false_iff_ne.mpr c4
      have c4b1 : (a1 != 64) = true := bne_iff_ne.mpr c4
      (first | rw [c4b0] | (simp only [i64_w, i32_w]; rw [c4b0]) | skip)
      have H' := Aside0.mk H
      clear H
      go_wp2
      go_meet
      case rel => exact ⟨_, ((a1 != 32)), (by first | rfl | (simp; done) | (simp [*]; done)), H', ⟨by first | omega | exact Nat.le_refl _⟩, ⟨by repeat (first | (with_reducible first | exact HB.out | apply below_alloc | apply pw_below_drewN | apply below_drew1) | exact HB.out)⟩⟩
  case rest =>
    clear HC3
    try clear p2
    try clear c4
    try clear c4b0
    try clear c4b1
    obtain ⟨kq, x5_2, rfl, HA, HJ2, HB⟩ := hcut
    cases kq with
    | zero => exact absurd HA.out (by simp [bits_Canon.j0])
    | succ kj2 =>
      have H := HA.out
      clear HA
      simp only [bits_Canon.j0] at H
      by_cases c5 : x5_2 = true
      · subst c5
        have H1 : (some 0) = some r := by rw [if_pos rfl] at H; exact H
        clear H
        have H := H1
        clear H1
        obtain rfl := Option.some.inj H
        go_wp2
        go_ret
        exact ⟨by first | rfl | (simp [errW_none, errW_some] <;> rfl) | (simp [*, errW_none, errW_some] <;> rfl), by repeat (first | (with_reducible first | exact HB.out | apply below_alloc | apply pw_below_drewN | apply below_drew1) | exact HB.out)⟩
      · replace c5 := Bool.eq_false_iff.mpr c5
        subst c5
        have H1 : ((bits_Class.f kj2 a0 a1).bind fun t325 => (if t325 = 4 then ((bits_nan.f a1).bind fun t326 => (some t326)) else ((bits_Class.f kj2 a0 a1).bind fun t327 => (if t327 = 0 then (some 0) else (some a0))))) = some r := by rw [if_neg (show ¬ (false = true) by decide)] at H; exact H
        clear H
        have H := H1
        clear H1
        replace H := Option.bind_eq_some_iff.mp H
        obtain ⟨t325, A60, H⟩ := H
        replace H : (if t325 = 4 then ((bits_nan.f a1).bind fun t326 => (some t326)) else ((bits_Class.f kj2 a0 a1).bind fun t327 => (if t327 = 0 then (some 0) else (some a0)))) = some r := H
        have A6 := Aside0.mk A60
        clear A60
        by_cases c7 : t325 = 4
        · rw [if_pos c7] at H
          have c7b0 : (t325 == 4) = true := beq_iff_eq.mpr c7
          have c7b1 : (t325 != 4) = false := bne_eq_false_iff_eq.mpr c7
          clear c7
          replace H := Option.bind_eq_some_iff.mp H
          obtain ⟨t326, A80, H⟩ := H
          replace H : (some t326) = some r := H
          have A8 := Aside0.mk A80
          clear A80
          obtain rfl := Option.some.inj H
          go_wp2_with (first | ((with_reducible refine gate_callee (f := 117) rfl ?_); refine goesL_ (some 15) rfl rfl Tryz.func117 (by kernel_rfl) rfl #[.int .i64 a0, .int .i64 a1] rfl (by (try simp only [List.map_toArray, List.map_cons, List.map_nil]); first | done | rfl | (simp only [List.length_drop, List.length_take]; rfl)) ?_; (with_reducible refine (bits_Class.calls kj2 a0 a1 t325 _ A6.out).mono ?_); rintro e w9 ⟨rfl, hb⟩; refine ⟨_, rfl, ?_⟩; have n0_ := Aside0.mk (below_step (by repeat (first | (with_reducible first | exact HB.out | apply below_alloc | apply pw_below_drewN | apply below_drew1) | exact HB.out)) hb); clear HB; have HB := n0_; clear n0_; (try clear hb); (try clear hb2); (try clear hk); (try clear hi)) | ((with_reducible refine gate_callee (f := 118) rfl ?_); refine goesL_ (some 18) rfl rfl Tryz.func118 (by kernel_rfl) rfl #[.int .i64 a1] rfl (by (try simp only [List.map_toArray, List.map_cons, List.map_nil]); first | done | rfl | (simp only [List.length_drop, List.length_take]; rfl)) ?_; (with_reducible refine (bits_nan.calls a1 t326 _ A8.out).mono ?_); rintro e w' ⟨rfl, ⟨nd, rfl⟩⟩; refine ⟨_, rfl, ?_⟩))
          go_ret
          exact ⟨by first | rfl | (simp [errW_none, errW_some] <;> rfl) | (simp [*, errW_none, errW_some] <;> rfl), by repeat (first | (with_reducible first | exact HB.out | apply below_alloc | apply pw_below_drewN | apply below_drew1) | exact HB.out)⟩
        · rw [if_neg c7] at H
          have c7b0 : (t325 == 4) = false := beq_eq_false_iff_ne.mpr c7
          have c7b1 : (t325 != 4) = true := bne_iff_ne.mpr c7
          replace H := Option.bind_eq_some_iff.mp H
          obtain ⟨t327, A100, H⟩ := H
          replace H : (if t327 = 0 then (some 0) else (some a0)) = some r := H
          have A10 := Aside0.mk A100
          clear A100
          by_cases c11 : t327 = 0
          · rw [if_pos c11] at H
            have c11b0 : (t327 == 0) = true := beq_iff_eq.mpr c11
            have c11b1 : (t327 != 0) = false := bne_eq_false_iff_eq.mpr c11
            clear c11
            obtain rfl := Option.some.inj H
            go_wp2_with (first | ((with_reducible refine gate_callee (f := 117) rfl ?_); refine goesL_ (some 15) rfl rfl Tryz.func117 (by kernel_rfl) rfl #[.int .i64 a0, .int .i64 a1] rfl (by (try simp only [List.map_toArray, List.map_cons, List.map_nil]); first | done | rfl | (simp only [List.length_drop, List.length_take]; rfl)) ?_; (with_reducible refine (bits_Class.calls kj2 a0 a1 t325 _ A6.out).mono ?_); rintro e w12 ⟨rfl, hb⟩; refine ⟨_, rfl, ?_⟩; have n0_ := Aside0.mk (below_step (by repeat (first | (with_reducible first | exact HB.out | apply below_alloc | apply pw_below_drewN | apply below_drew1) | exact HB.out)) hb); clear HB; have HB := n0_; clear n0_; (try clear hb); (try clear hb2); (try clear hk); (try clear hi)) | ((with_reducible refine gate_callee (f := 117) rfl ?_); refine goesL_ (some 22) rfl rfl Tryz.func117 (by kernel_rfl) rfl #[.int .i64 a0, .int .i64 a1] rfl (by (try simp only [List.map_toArray, List.map_cons, List.map_nil]); first | done | rfl | (simp only [List.length_drop, List.length_take]; rfl)) ?_; (with_reducible refine (bits_Class.calls kj2 a0 a1 t327 _ A10.out).mono ?_); rintro e w13 ⟨rfl, hb⟩; refine ⟨_, rfl, ?_⟩; have n0_ := Aside0.mk (below_step (by repeat (first | (with_reducible first | exact HB.out | apply below_alloc | apply pw_below_drewN | apply below_drew1) | exact HB.out)) hb); clear HB; have HB := n0_; clear n0_; (try clear hb); (try clear hb2); (try clear hk); (try clear hi)))
            go_ret
            exact ⟨by first | rfl | (simp [errW_none, errW_some] <;> rfl) | (simp [*, errW_none, errW_some] <;> rfl), by repeat (first | (with_reducible first | exact HB.out | apply below_alloc | apply pw_below_drewN | apply below_drew1) | exact HB.out)⟩
          · rw [if_neg c11] at H
            have c11b0 : (t327 == 0) = false := beq_eq_false_iff_ne.mpr c11
            have c11b1 : (t327 != 0) = true := bne_iff_ne.mpr c11
            obtain rfl := Option.some.inj H
            go_wp2_with (first | ((with_reducible refine gate_callee (f := 117) rfl ?_); refine goesL_ (some 15) rfl rfl Tryz.func117 (by kernel_rfl) rfl #[.int .i64 a0, .int .i64 a1] rfl (by (try simp only [List.map_toArray, List.map_cons, List.map_nil]); first | done | rfl | (simp only [List.length_drop, List.length_take]; rfl)) ?_; (with_reducible refine (bits_Class.calls kj2 a0 a1 t325 _ A6.out).mono ?_); rintro e w14 ⟨rfl, hb⟩; refine ⟨_, rfl, ?_⟩; have n0_ := Aside0.mk (below_step (by repeat (first | (with_reducible first | exact HB.out | apply below_alloc | apply pw_below_drewN | apply below_drew1) | exact HB.out)) hb); clear HB; have HB := n0_; clear n0_; (try clear hb); (try clear hb2); (try clear hk); (try clear hi)) | ((with_reducible refine gate_callee (f := 117) rfl ?_); refine goesL_ (some 22) rfl rfl Tryz.func117 (by kernel_rfl) rfl #[.int .i64 a0, .int .i64 a1] rfl (by (try simp only [List.map_toArray, List.map_cons, List.map_nil]); first | done | rfl | (simp only [List.length_drop, List.length_take]; rfl)) ?_; (with_reducible refine (bits_Class.calls kj2 a0 a1 t327 _ A10.out).mono ?_); rintro e w15 ⟨rfl, hb⟩; refine ⟨_, rfl, ?_⟩; have n0_ := Aside0.mk (below_step (by repeat (first | (with_reducible first | exact HB.out | apply below_alloc | apply pw_below_drewN | apply below_drew1) | exact HB.out)) hb); clear HB; have HB := n0_; clear n0_; (try clear hb); (try clear hb2); (try clear hk); (try clear hi)))
            go_ret
            exact ⟨by first | rfl | (simp [errW_none, errW_some] <;> rfl) | (simp [*, errW_none, errW_some] <;> rfl), by repeat (first | (with_reducible first | exact HB.out | apply below_alloc | apply pw_below_drewN | apply below_drew1) | exact HB.out)⟩
end Go.Proofs.YtflhdplfkpdejaaGreatFmt.F
namespace Go.Proofs.YtflhdplfkpdejaaGreatFmt
open Go.RowKit Go.Proofs.YtflhdplfkpdejaaGreatFmtW.PrintWords
@[go_sem] theorem Tryz.frombits64 (n : Int) (w : World) : (callFunc 115 #[.int .u64 n]).run Tryz.prog w = .ok (.value (.float .f64 n.toNat)) w := by
  rw [run_callFunc_extern (e := Extern.MathFloatBits.float64frombits) Tryz.func115 (by kernel_rfl) (by kernel_rfl) (by kernel_rfl) (by kernel_rfl)]
  rfl
@[go_sem] theorem Tryz.bits64 (n : Nat) (w : World) : (callFunc 116 #[.float .f64 n]).run Tryz.prog w = .ok (.value (.int .u64 n)) w := by
  rw [run_callFunc_extern (e := Extern.MathFloatBits.float64bits) Tryz.func116 (by kernel_rfl) (by kernel_rfl) (by kernel_rfl) (by kernel_rfl)]
  rfl
set_option maxRecDepth 100000 in
set_option maxHeartbeats 400000 in
theorem of_num (n : Nat) (w : World) (h : (FloatKind.f64.format.order n n != some .eq) = false) :
    Calls Tryz.prog 77 #[.float .f64 n] w fun e w' => e = .returned (.int .i64 (wrap64 n)) ∧ w = w' := by
  go_enter Tryz.func77, Tryz.ntmps77
  go_wp2
  go_ret
  exact ⟨rfl, rfl⟩
theorem of_third (w : World) : Calls Tryz.prog 77 #[.float .f64 4599676419421066581] w fun e w' => e = .returned (.int .i64 4599676419421066581) ∧ w' = w := by
  refine (of_num 4599676419421066581 w (by decide +kernel)).mono ?_
  rintro e w' ⟨rfl, rfl⟩
  exact ⟨ret_int (by decide +kernel), rfl⟩
theorem canon_third (w : World) : Calls Tryz.prog 78 #[.int .i64 4599676419421066581, .int .i64 64] w fun e w' => e = .returned (.int .i64 4599676419421066581) ∧ Only w w' (fun _ => False) := by
  refine (F.bits_Canon.calls 2 4599676419421066581 64 4599676419421066581 w (by decide +kernel)).mono ?_
  rintro e w' ⟨rfl, h⟩
  exact ⟨rfl, Only.of_below h⟩
set_option maxRecDepth 100000 in
set_option maxHeartbeats 4000000 in
theorem float64_lit (x b c : Nat) (ys : List Int) (w : World) (hx : w.heap[x]? = some (.cells (fl 65 0 1 false (.slice (some ⟨b, 0, none⟩) 2 c) (-1)) 110 (0, 0))) (hb : Blk w b ys) (hn : 2 ≤ ys.length) (h0 : ys.getD 0 0 = 9223372036854775808) (h1 : ys.getD 1 0 = 12297829382473034410) :
    Calls Tryz.prog 76 #[.pointer (some ⟨x, 0, none⟩)] w fun en w' => en = .returned (.tuple #[.float .f64 4599676419421066581, .int .i8 (-1)]) ∧ Only w w' (fun _ => False) := by
  have hW : ∀ n, IntKind.u64.wrap n = n % 18446744073709551616 := IntKind.wrap_u64
  have hW3 : ∀ n, IntKind.u32.wrap n = n % 4294967296 := IntKind.wrap_u32
  have b1 : bits .and .u64 6004799503160661 4503599627370495 = 1501199875790165 := by decide +kernel
  have b2 : bits .or .u64 0 4598175219545276416 = 4598175219545276416 := by decide +kernel
  have b3 : bits .or .u64 4598175219545276416 1501199875790165 = 4599676419421066581 := by decide +kernel
  have x3 : w.cell? ⟨x, 3, none⟩ = some (.int .u8 1) := blk_cell hx 3
  have x4 : w.cell? ⟨x, 4, none⟩ = some (.bool false) := blk_cell hx 4
  have x6 : w.cell? ⟨x, 6, none⟩ = some (.int .i32 (-1)) := blk_cell hx 6
  go_enter Tryz.func76, Tryz.ntmps76
  go_wp2_with fail
  refine (set_lit w.heap.size x b c ys _ (heap_alloc_new w _) ((Below.heap_alloc _ _ x (blk_lt hx)).trans hx) (((Only.refl w (fun _ => False)).alloc _).blk hb (fun h => h)) hn h0 h1 (by have := blk_lt hx; omega)).mono ?_
  rintro en w2 ⟨rfl, b', c', zs, hf2, hb2, hl2, y0, ho2, hbb⟩
  have hxx : w2.heap[x]? = some (.cells (fl 65 0 1 false (.slice (some ⟨b, 0, none⟩) 2 c) (-1)) 110 (0, 0)) := (ho2.kept x (by have := blk_lt hx; simp; omega) (by have := blk_lt hx; omega)).trans ((Below.heap_alloc _ _ x (blk_lt hx)).trans hx)
  have hoA : Only w w2 (fun _ => False) := ((Only.refl w (fun _ => False)).alloc _).step ho2 (by rintro i hi rfl; omega)
  have HO := Lib.hid hoA
  clear hoA ho2 hbb hx hb h0 h1 x3 x4 x6
  generalize w.heap.size = r at *
  have x4 : w2.cell? ⟨x, 4, none⟩ = some (.bool false) := blk_cell hxx 4
  have r2 : w2.cell? ⟨r, 2, none⟩ = some (.int .i8 (-1)) := blk_cell hf2 2
  have r3 : w2.cell? ⟨r, 3, none⟩ = some (.int .u8 1) := blk_cell hf2 3
  have r5 : w2.cell? ⟨r, 5, none⟩ = some (.slice (some ⟨b', 0, none⟩) 1 c') := blk_cell hf2 5
  have r6 : w2.cell? ⟨r, 6, none⟩ = some (.int .i32 (-1)) := blk_cell hf2 6
  have HM := Lib.hid (fun W hb => msb_lit b' c' zs 12297829382473033728 W hb hl2 y0)
  clear hf2 hxx
  go_wp2_with fail
  refine (HM.out _ hb2).mono ?_
  rintro en w' ⟨rfl, hw⟩
  rw [hw]
  clear hw w'
  go_wp2_with fail
  go_quiet (fail)
  go_wp2_with fail
  go_ret2
  exact ⟨rfl, HO.out.drewN nq⟩
end Go.Proofs.YtflhdplfkpdejaaGreatFmt
namespace Go.Proofs.YtflhdplfkpdejaaGreatFmt
open Go.RowKit Go.Proofs.YtflhdplfkpdejaaGreatFmtW.PrintWords Go.Proofs.YtflhdplfkpdejaaGreatFmtW.PrintLast
theorem Put.keep_ {w W : World} {g g2 : Nat} {z : Int} (h : Put w W g none z) {cs : Array Value} (hc : cs = #[.bool false, .slice none 0 0]) (hz : w.heap[g2]? = some (.cells cs 76 (0, 0))) (hne : g2 ≠ g) : IsInt W g2 none 0 := by
  subst hc
  obtain ⟨o', h1, h2, h3⟩ := h
  have e := h2.kept _ (blk_lt hz) (by rintro (h | h); exact hne h; cases h)
  exact ⟨_, e.trans hz, .nil⟩
theorem plus_end (w w6 : World) (R S : Nat) {wA : World} (g g1 : Nat) (zr e1 : Int) (ho : Only w6 wA (fun _ => False)) (hN : New w6.heap.size wA g zr) (ho6 : Only w w6 (fun _ => False))
    (hR : w6.heap[R]? = some (.cells #[.pointer none, .int .i64 0] 62 (0, 0))) (hS : w6.heap[S]? = some (.cells #[.pointer (some ⟨g1, 0, none⟩), .int .i64 e1] 62 (0, 0))) (hR0 : w.heap.size ≤ R) (hS0 : w.heap.size ≤ S) (hne : R ≠ S) :
    ∃ w7, w7 = (wA.setCell ⟨S, 0, none⟩ (.pointer (some ⟨g, 0, none⟩))).setCell ⟨S, 1, none⟩ (.int .i64 e1) ∧ w7.cell? ⟨S, 0, none⟩ = some (.pointer (some ⟨g, 0, none⟩)) ∧
    w7.cell? ⟨S, 1, none⟩ = some (.int .i64 e1) ∧
    w7.frozen? ⟨R, 0, none⟩ = false ∧
    w7.frozen? ⟨R, 1, none⟩ = false ∧ w7.cell? ⟨R, 0, none⟩ = some (.pointer none) ∧ w7.cell? ⟨R, 1, none⟩ = some (.int .i64 0) ∧
    ((w7.setCell ⟨R, 0, none⟩ (.pointer (some ⟨g, 0, none⟩))).setCell ⟨R, 1, none⟩ (.int .i64 e1)).heap[R]? = some (.cells #[.pointer (some ⟨g, 0, none⟩), .int .i64 e1] 62 (0, 0)) ∧
    New w.heap.size ((w7.setCell ⟨R, 0, none⟩ (.pointer (some ⟨g, 0, none⟩))).setCell ⟨R, 1, none⟩ (.int .i64 e1)) g zr ∧
    Only w ((w7.setCell ⟨R, 0, none⟩ (.pointer (some ⟨g, 0, none⟩))).setCell ⟨R, 1, none⟩ (.int .i64 e1)) (fun _ => False) := by
  have hSA := (ho.kept _ (blk_lt hS) (fun h => h)).trans hS
  have hRA := (ho.kept _ (blk_lt hR) (fun h => h)).trans hR
  have s1 := blk_set (blk_set hSA 0 (.pointer (some ⟨g, 0, none⟩))) 1 (.int .i64 e1)
  have r1 := blk_far (blk_far hRA (p := ⟨S, 0, none⟩) hne (.pointer (some ⟨g, 0, none⟩))) (p := ⟨S, 1, none⟩) hne (.int .i64 e1)
  have r2 := blk_set (blk_set r1 0 (.pointer (some ⟨g, 0, none⟩))) 1 (.int .i64 e1)
  have s2 : ((wA.setCell ⟨S, 0, none⟩ (.pointer (some ⟨g, 0, none⟩))).setCell ⟨S, 1, none⟩ (.int .i64 e1)).heap[S]? = some (.cells #[.pointer (some ⟨g, 0, none⟩), .int .i64 e1] 62 (0, 0)) := by simpa using s1
  have hoE : Only wA ((((wA.setCell ⟨S, 0, none⟩ (.pointer (some ⟨g, 0, none⟩))).setCell ⟨S, 1, none⟩ (.int .i64 e1)).setCell ⟨R, 0, none⟩ (.pointer (some ⟨g, 0, none⟩))).setCell ⟨R, 1, none⟩ (.int .i64 e1)) (fun k => k = S ∨ k = R) :=
    (((((Only.refl wA (fun k => k = S ∨ k = R)).set (.inr (.inl rfl)) _).set (.inr (.inl rfl)) _).set (.inr (.inr rfl)) _).set (.inr (.inr rfl)) _)
  have l1 := blk_lt hS
  have l2 := blk_lt hR
  have l3 := ho6.base.size
  refine ⟨_, rfl, blk_cell s2 0, blk_cell s2 1, blk_frozen r1 0, blk_frozen r1 1, blk_cell r1 0, blk_cell r1 1, by simpa using r2, hN.far l3 hoE ?_, (ho6.trans ho).step hoE ?_⟩
  · rintro k (rfl | rfl) <;> assumption
  · rintro k hk (rfl | rfl) <;> omega
set_option linter.unusedSimpArgs false in
set_option maxRecDepth 100000 in
set_option maxHeartbeats 16000000 in
theorem plus2_up (b g1 g2 : Nat) (o1 o2 : Option Nat) (z1 z2 e1 e2 zs zr : Int) (w : World) (hb : w.heap[b]? = some (.cells #[.pointer (some ⟨g1, 0, none⟩), .int .i64 e1, .pointer (some ⟨g2, 0, none⟩), .int .i64 e2] 62 (0, 0)))
    (h1 : IsInt w g1 o1 z1) (h2 : IsInt w g2 o2 z2) (n1 : z1 ≠ 0) (n2 : z2 ≠ 0) (he : e1 ≤ e2) (hb1 : -4611686018427387904 ≤ e1) (hb2 : e2 ≤ 4611686018427387904)
    (HL : ∀ (W : World) (gz : Nat), Only w W (fun _ => False) → IsInt W gz none 0 → w.heap.size ≤ gz → Calls Tryz.prog 37 #[.pointer (some ⟨gz, 0, none⟩), .pointer (some ⟨g2, 0, none⟩), .int .u64 (e2 - e1)] W fun e W' => e = .returned (.pointer (some ⟨gz, 0, none⟩)) ∧ Put W W' gz none zs)
    (HA : ∀ (W : World) (gz gy : Nat) (oy : Option Nat), Only w W (fun _ => False) → IsInt W gz none 0 → IsInt W gy oy zs → gz ≠ gy → Calls Tryz.prog 49 #[.pointer (some ⟨gz, 0, none⟩), .pointer (some ⟨g1, 0, none⟩), .pointer (some ⟨gy, 0, none⟩)] W fun e W' => e = .returned (.pointer (some ⟨gz, 0, none⟩)) ∧ Put W W' gz none zr) :
    Calls Tryz.prog 29 #[.slice (some ⟨b, 0, none⟩) 2 2] w fun en w' => ∃ g, en = .returned (.agg #[.pointer (some ⟨g, 0, none⟩), .int .i64 e1]) ∧ New w.heap.size w' g zr ∧ Only w w' (fun _ => False) := by
  have hlt : b < w.heap.size := blk_lt hb
  have c0 : w.cell? ⟨b, 0, none⟩ = some (.pointer (some ⟨g1, 0, none⟩)) := blk_cell hb 0
  have c1 : w.cell? ⟨b, 1, none⟩ = some (.int .i64 e1) := blk_cell hb 1
  have hs1 : (z1.sign == 0) = false := by rw [beq_eq_false_iff_ne]; intro h; exact n1 (Int.sign_eq_zero_iff_zero.1 h)
  have hs2 : (z2.sign == 0) = false := by rw [beq_eq_false_iff_ne]; intro h; exact n2 (Int.sign_eq_zero_iff_zero.1 h)
  have HLL := Lib.hid HL
  have HAA := Lib.hid HA
  have HN := Lib.hid (And.intro n1 n2)
  have HB := Lib.hid hb
  clear HL HA n1 n2 hb
  go_enter Tryz.func29, Tryz.ntmps29
  go_wp2_with fail
  obtain ⟨k1, k2, k3⟩ := heap_three w (.cells #[.pointer none, .int .i64 0] 62) (.cells #[.bool false, .slice none 0 0] 76) (.cells #[.pointer (some ⟨w.heap.size + 1, 0, none⟩), .int .i64 0] 62)
  have ho3 : Only w (((w.alloc (.cells #[.pointer none, .int .i64 0] 62)).alloc (.cells #[.bool false, .slice none 0 0] 76)).alloc (.cells #[.pointer (some ⟨w.heap.size + 1, 0, none⟩), .int .i64 0] 62)) (fun _ => False) := (((Only.refl w _).alloc _).alloc _).alloc _
  refine wp_loop_rounds 3 ?_
  rw [rounds_succ]
  generalize hw3 : (((w.alloc (.cells #[.pointer none, .int .i64 0] 62)).alloc (.cells #[.bool false, .slice none 0 0] 76)).alloc (.cells #[.pointer (some ⟨w.heap.size + 1, 0, none⟩), .int .i64 0] 62)) = w3 at *
  clear hw3 c0 c1
  rw [show w.heap.size + 2 = w.heap.size + 1 + 1 from rfl] at k3
  have hb3 := (ho3.kept _ hlt (fun h => h)).trans HB.out
  have hz3 : IsInt w3 (w.heap.size + 1) none 0 := ⟨_, k2, .nil⟩
  have hi1 := h1.only ho3 (fun h => h) (fun _ _ h => h)
  have c0 : w3.cell? ⟨b, 0, none⟩ = some (.pointer (some ⟨g1, 0, none⟩)) := blk_cell hb3 0
  have c1 : w3.cell? ⟨b, 1, none⟩ = some (.int .i64 e1) := blk_cell hb3 1
  have s0 : w3.cell? ⟨w.heap.size + 1 + 1, 0, none⟩ = some (.pointer (some ⟨w.heap.size + 1, 0, none⟩)) := blk_cell k3 0
  have s1 : w3.cell? ⟨w.heap.size + 1 + 1, 1, none⟩ = some (.int .i64 0) := blk_cell k3 1
  have fs0 := blk_frozen k3 0
  have fs1 := blk_frozen k3 1
  have hsz3 : w.heap.size + 1 + 1 < w3.heap.size := blk_lt k3
  have m1 : ¬ w.heap.size + 1 + 1 = w3.heap.size := by omega
  have m2 : ¬ b = w3.heap.size := by omega
  go_wp2_with fail
  refine (sign_int g1 o1 z1 _ (hi1.only ((Only.refl w3 (fun _ => False)).alloc _) (fun h => h) (fun _ _ h => h))).mono ?_
  rintro en w4 ⟨rfl, rfl⟩
  go_wp2_with fail
  refine (sign_nil (w.heap.size + 1) none 0 _ (hz3.only ((Only.refl w3 (fun _ => False)).alloc _) (fun h => h) (fun _ _ h => h)) rfl).mono ?_
  rintro en w4 ⟨rfl, rfl⟩
  go_wp2_with fail
  rw [rounds_succ]
  have hS4 := blk_set (blk_set k3 0 (.pointer (some ⟨g1, 0, none⟩))) 1 (.int .i64 e1)
  have ho4 := (ho3.set (p := ⟨w.heap.size + 1 + 1, 0, none⟩) (.inl (by show w.heap.size ≤ w.heap.size + 1 + 1; omega)) (.pointer (some ⟨g1, 0, none⟩))).set (p := ⟨w.heap.size + 1 + 1, 1, none⟩) (.inl (by show w.heap.size ≤ w.heap.size + 1 + 1; omega)) (.int .i64 e1)
  have hR4 := blk_far (blk_far k1 (p := ⟨w.heap.size + 1 + 1, 0, none⟩) (by show w.heap.size ≠ w.heap.size + 1 + 1; omega) (.pointer (some ⟨g1, 0, none⟩))) (p := ⟨w.heap.size + 1 + 1, 1, none⟩) (by show w.heap.size ≠ w.heap.size + 1 + 1; omega) (.int .i64 e1)
  generalize (w3.setCell ⟨w.heap.size + 1 + 1, 0, none⟩ (.pointer (some ⟨g1, 0, none⟩))).setCell ⟨w.heap.size + 1 + 1, 1, none⟩ (.int .i64 e1) = w4 at *
  have hS4' : w4.heap[w.heap.size + 1 + 1]? = some (.cells #[.pointer (some ⟨g1, 0, none⟩), .int .i64 e1] 62 (0, 0)) := by simpa using hS4
  have hS5 := blk_alloc hS4' (.cells #[.pointer (some ⟨g1, 0, none⟩), .int .i64 e1] 62)
  have hR5 := blk_alloc hR4 (.cells #[.pointer (some ⟨g1, 0, none⟩), .int .i64 e1] 62)
  have ho5 := ho4.alloc (.cells #[.pointer (some ⟨g1, 0, none⟩), .int .i64 e1] 62)
  clear c0 c1 s0 s1 fs0 fs1 hb3 hz3 hi1 k1 k2 k3 ho3 hS4 hR4 ho4 hS4' hsz3 m1 m2
  generalize w4.alloc (.cells #[.pointer (some ⟨g1, 0, none⟩), .int .i64 e1] 62) = w5 at *
  clear w4
  have hb5 := (ho5.kept _ hlt (fun h => h)).trans HB.out
  have hi15 := h1.only ho5 (fun h => h) (fun _ _ h => h)
  have hi25 := h2.only ho5 (fun h => h) (fun _ _ h => h)
  have c2 : w5.cell? ⟨b, 2, none⟩ = some (.pointer (some ⟨g2, 0, none⟩)) := blk_cell hb5 2
  have c3 : w5.cell? ⟨b, 3, none⟩ = some (.int .i64 e2) := blk_cell hb5 3
  have s0 : w5.cell? ⟨w.heap.size + 1 + 1, 0, none⟩ = some (.pointer (some ⟨g1, 0, none⟩)) := blk_cell hS5 0
  have s1 : w5.cell? ⟨w.heap.size + 1 + 1, 1, none⟩ = some (.int .i64 e1) := blk_cell hS5 1
  have hsz5 : w.heap.size + 1 + 1 < w5.heap.size := blk_lt hS5
  have m1 : ¬ w.heap.size + 1 + 1 = w5.heap.size := by omega
  have m2 : ¬ b = w5.heap.size := by omega
  go_wp2_with fail
  have hoB : Only w5 (w5.alloc (.cells #[.pointer (some ⟨g2, 0, none⟩), .int .i64 e2] 62)) (fun _ => False) := (Only.refl w5 _).alloc _
  have hX6 : (w5.alloc (.cells #[.pointer (some ⟨g2, 0, none⟩), .int .i64 e2] 62)).heap[w5.heap.size]? = some (.cells #[.pointer (some ⟨g2, 0, none⟩), .int .i64 e2] 62 (0, 0)) := by simpa using heap_alloc_new w5 (.cells #[.pointer (some ⟨g2, 0, none⟩), .int .i64 e2] 62)
  refine (sign_int g2 o2 z2 _ (hi25.only hoB (fun h => h) (fun _ _ h => h))).mono ?_
  rintro en w6 ⟨rfl, rfl⟩
  go_wp2_with fail
  refine (sign_int g1 o1 z1 _ (hi15.only hoB (fun h => h) (fun _ _ h => h))).mono ?_
  rintro en w6 ⟨rfl, rfl⟩
  have hS6 := blk_alloc hS5 (.cells #[.pointer (some ⟨g2, 0, none⟩), .int .i64 e2] 62)
  have hR6 := blk_alloc hR5 (.cells #[.pointer (some ⟨g2, 0, none⟩), .int .i64 e2] 62)
  have ho6 := ho5.trans hoB
  clear c2 c3 s0 s1 hb5 hi15 hi25 hS5 hR5 ho5 m1 m2 hoB
  generalize hX : w5.heap.size = X at *
  generalize w5.alloc (.cells #[.pointer (some ⟨g2, 0, none⟩), .int .i64 e2] 62) = w6 at *
  clear hX w5
  have s0 : w6.cell? ⟨w.heap.size + 1 + 1, 0, none⟩ = some (.pointer (some ⟨g1, 0, none⟩)) := blk_cell hS6 0
  have s1 : w6.cell? ⟨w.heap.size + 1 + 1, 1, none⟩ = some (.int .i64 e1) := blk_cell hS6 1
  have x0 : w6.cell? ⟨X, 0, none⟩ = some (.pointer (some ⟨g2, 0, none⟩)) := blk_cell hX6 0
  have x1 : w6.cell? ⟨X, 1, none⟩ = some (.int .i64 e2) := blk_cell hX6 1
  have fs0 := blk_frozen hS6 0
  have fs1 := blk_frozen hS6 1
  have hX6l : X < w6.heap.size := blk_lt hX6
  go_wp2_with fail
  have K : ∀ W, Only w6 W (fun _ => False) → W.cell? ⟨w.heap.size + 1 + 1, 0, none⟩ = some (.pointer (some ⟨g1, 0, none⟩)) ∧ W.cell? ⟨w.heap.size + 1 + 1, 1, none⟩ = some (.int .i64 e1) ∧ W.cell? ⟨X, 0, none⟩ = some (.pointer (some ⟨g2, 0, none⟩)) ∧ W.cell? ⟨X, 1, none⟩ = some (.int .i64 e2) ∧ W.frozen? ⟨w.heap.size + 1 + 1, 0, none⟩ = false ∧ W.frozen? ⟨w.heap.size + 1 + 1, 1, none⟩ = false ∧ (¬ w.heap.size + 1 + 1 = W.heap.size) ∧ (¬ X = W.heap.size) ∧ W.heap[w.heap.size + 1 + 1]? = some (.cells #[.pointer (some ⟨g1, 0, none⟩), .int .i64 e1] 62 (0, 0)) ∧ w6.heap.size ≤ W.heap.size := fun W h => by
    have h1 := (h.kept _ (blk_lt hS6) (fun h => h)).trans hS6
    have h2 := (h.kept _ (blk_lt hX6) (fun h => h)).trans hX6
    exact ⟨blk_cell h1 0, blk_cell h1 1, blk_cell h2 0, blk_cell h2 1, blk_frozen h1 0, blk_frozen h1 1, Nat.ne_of_lt (blk_lt h1), Nat.ne_of_lt (blk_lt h2), h1, h.base.size⟩
  have HK := Lib.hid K
  clear K
  have hsz6 : w.heap.size + 1 + 1 < w6.heap.size := blk_lt hS6
  have HSZ := Lib.hid (And.intro hsz6 hX6l)
  have m1 : ¬ w.heap.size + 1 + 1 = w6.heap.size := by omega
  have m2 : ¬ X = w6.heap.size := by omega
  have m3 : ¬ w.heap.size + 1 + 1 = w6.heap.size + 1 := by omega
  have m4 : ¬ X = w6.heap.size + 1 := by omega
  clear hsz6 hX6l
  have ho6a := ho6.alloc (.cells #[.bool false, .slice none 0 0] 76)
  have hoA : Only w6 (w6.alloc (.cells #[.bool false, .slice none 0 0] 76)) (fun _ => False) := (Only.refl w6 _).alloc _
  have hoB : Only w6 ((w6.alloc (.cells #[.bool false, .slice none 0 0] 76)).alloc (.cells #[.bool false, .slice none 0 0] 76)) (fun _ => False) := ((Only.refl w6 _).alloc _).alloc _
  obtain ⟨as0, as1, ax0, ax1, af0, af1, -, -, -, -⟩ := HK.out _ hoA
  obtain ⟨bs0, bs1, bx0, bx1, bf0, bf1, -, -, -, -⟩ := HK.out _ hoB
  have hA1 : (w6.alloc (.cells #[.bool false, .slice none 0 0] 76)).heap[w6.heap.size]? = some (.cells #[.bool false, .slice none 0 0] 76 (0, 0)) := by simpa using heap_alloc_new w6 (.cells #[.bool false, .slice none 0 0] 76)
  have hB1 := heap_two' w6 (.cells #[.bool false, .slice none 0 0] 76) (.cells #[.bool false, .slice none 0 0] 76)
  have hB2 := heap_two w6 (.cells #[.bool false, .slice none 0 0] 76) (.cells #[.bool false, .slice none 0 0] 76)
  have hwr : IntKind.u64.wrap (IntKind.i64.wrap (e2 - e1)) = e2 - e1 := by rw [IntKind.wrap_u64, IntKind.wrap_i64]; omega
  have HLW := HLL.out
  rw [← hwr] at HLW
  have HLL := Lib.hid HLW
  clear HLW hwr
  refine start_ (S := (fun W => Only w6 W (fun _ => False))) (ds := [17]) #[false, false, false, false, false, false, false, false, false, false, false, false, false, false, false, false, false, false] (by kernel_rfl) rfl rfl ?_ (fun hHeld => ?_)
  · exact (Only.refl w6 _).drew
  refine wpAnyLast_take (i := 1) (oi := ?o0) (v := ?v0) ?h0 (by kernel_rfl) (by kernel_rfl) (by kernel_rfl) (by kernel_rfl) (by kernel_rfl) ?q0 (Or.inl ⟨?w0, ?y0⟩) hHeld ?r0
  case h0 => (simp only [List.getElem?_toArray, List.getElem?_cons_succ, List.getElem?_cons_zero]; rfl)
  case q0 => exact fun _ _ _ h => h
  case w0 => rfl
  case y0 => (intro W hSw; obtain ⟨q0, q1, q2, q3, q4, q5, q6, q7, q8, q9⟩ := HK.out _ hSw; go_simp; first | done | with_reducible rfl)
  simp only [Act.put, List.setIfInBounds_toArray, List.set_cons_zero, List.set_cons_succ]
  refine wpAnyLast_take (i := 2) (oi := ?o1) (v := ?v1) ?h1 (by kernel_rfl) (by kernel_rfl) (by kernel_rfl) (by kernel_rfl) (by kernel_rfl) ?q1 (Or.inl ⟨?w1, ?y1⟩) hHeld ?r1
  case h1 => (simp only [List.getElem?_toArray, List.getElem?_cons_succ, List.getElem?_cons_zero]; rfl)
  case q1 => exact fun _ _ _ h => h
  case w1 => rfl
  case y1 => (intro W hSw; obtain ⟨q0, q1, q2, q3, q4, q5, q6, q7, q8, q9⟩ := HK.out _ hSw; go_simp; first | done | with_reducible rfl)
  simp only [Act.put, List.setIfInBounds_toArray, List.set_cons_zero, List.set_cons_succ]
  refine wpAnyLast_take (i := 4) (oi := ?o2) (v := ?v2) ?h2 (by kernel_rfl) (by kernel_rfl) (by kernel_rfl) (by kernel_rfl) (by kernel_rfl) ?q2 (Or.inl ⟨?w2, ?y2⟩) hHeld ?r2
  case h2 => (simp only [List.getElem?_toArray, List.getElem?_cons_succ, List.getElem?_cons_zero]; rfl)
  case q2 => exact fun _ _ _ h => h
  case w2 => rfl
  case y2 => (intro W hSw; obtain ⟨q0, q1, q2, q3, q4, q5, q6, q7, q8, q9⟩ := HK.out _ hSw; go_simp; first | done | with_reducible rfl)
  simp only [Act.put, List.setIfInBounds_toArray, List.set_cons_zero, List.set_cons_succ]
  refine wpAnyLast_take (i := 5) (oi := ?o3) (v := ?v3) ?h3 (by kernel_rfl) (by kernel_rfl) (by kernel_rfl) (by kernel_rfl) (by kernel_rfl) ?q3 (Or.inl ⟨?w3, ?y3⟩) hHeld ?r3
  case h3 => (simp only [List.getElem?_toArray, List.getElem?_cons_succ, List.getElem?_cons_zero]; rfl)
  case q3 => exact fun _ _ _ h => h
  case w3 => rfl
  case y3 => (intro W hSw; obtain ⟨q0, q1, q2, q3, q4, q5, q6, q7, q8, q9⟩ := HK.out _ hSw; go_simp; first | done | with_reducible rfl)
  simp only [Act.put, List.setIfInBounds_toArray, List.set_cons_zero, List.set_cons_succ]
  refine wpAnyLast_take (i := 6) (oi := ?o4) (v := ?v4) ?h4 (by kernel_rfl) (by kernel_rfl) (by kernel_rfl) (by kernel_rfl) (by kernel_rfl) ?q4 (Or.inl ⟨?w4, ?y4⟩) hHeld ?r4
  case h4 => (simp only [List.getElem?_toArray, List.getElem?_cons_succ, List.getElem?_cons_zero]; rfl)
  case q4 => exact fun _ _ _ h => h
  case w4 => rfl
  case y4 => (intro W hSw; obtain ⟨q0, q1, q2, q3, q4, q5, q6, q7, q8, q9⟩ := HK.out _ hSw; go_simp; first | done | with_reducible rfl)
  simp only [Act.put, List.setIfInBounds_toArray, List.set_cons_zero, List.set_cons_succ]
  refine wpAnyLast_take (i := 7) (oi := ?o5) (v := ?v5) ?h5 (by kernel_rfl) (by kernel_rfl) (by kernel_rfl) (by kernel_rfl) (by kernel_rfl) ?q5 (Or.inl ⟨?w5, ?y5⟩) hHeld ?r5
  case h5 => (simp only [List.getElem?_toArray, List.getElem?_cons_succ, List.getElem?_cons_zero]; rfl)
  case q5 => exact fun _ _ _ h => h
  case w5 => rfl
  case y5 => (intro W hSw; obtain ⟨q0, q1, q2, q3, q4, q5, q6, q7, q8, q9⟩ := HK.out _ hSw; go_simp; first | done | with_reducible rfl)
  simp only [Act.put, List.setIfInBounds_toArray, List.set_cons_zero, List.set_cons_succ]
  refine wpAnyLast_take (i := 8) (oi := ?o6) (v := ?v6) ?h6 (by kernel_rfl) (by kernel_rfl) (by kernel_rfl) (by kernel_rfl) (by kernel_rfl) ?q6 (Or.inl ⟨?w6, ?y6⟩) hHeld ?r6
  case h6 => (simp only [List.getElem?_toArray, List.getElem?_cons_succ, List.getElem?_cons_zero]; rfl)
  case q6 => exact fun _ _ _ h => h
  case w6 => rfl
  case y6 => (intro W hSw; obtain ⟨q0, q1, q2, q3, q4, q5, q6, q7, q8, q9⟩ := HK.out _ hSw; go_simp; first | done | with_reducible rfl)
  simp only [Act.put, List.setIfInBounds_toArray, List.set_cons_zero, List.set_cons_succ]
  refine wpAnyLast_take (i := 9) (oi := ?o7) (v := ?v7) ?h7 (by kernel_rfl) (by kernel_rfl) (by kernel_rfl) (by kernel_rfl) (by kernel_rfl) ?q7 (Or.inl ⟨?w7, ?y7⟩) hHeld ?r7
  case h7 => (simp only [List.getElem?_toArray, List.getElem?_cons_succ, List.getElem?_cons_zero]; rfl)
  case q7 => exact fun _ _ _ h => h
  case w7 => rfl
  case y7 => (intro W hSw; obtain ⟨q0, q1, q2, q3, q4, q5, q6, q7, q8, q9⟩ := HK.out _ hSw; go_simp; first | done | with_reducible rfl)
  simp only [Act.put, List.setIfInBounds_toArray, List.set_cons_zero, List.set_cons_succ]
  refine wpAnyLast_take (i := 10) (oi := ?o8) (v := ?v8) ?h8 (by kernel_rfl) (by kernel_rfl) (by kernel_rfl) (by kernel_rfl) (by kernel_rfl) ?q8 (Or.inl ⟨?w8, ?y8⟩) hHeld ?r8
  case h8 => (simp only [List.getElem?_toArray, List.getElem?_cons_succ, List.getElem?_cons_zero]; rfl)
  case q8 => exact fun _ _ _ h => h
  case w8 => rfl
  case y8 => (intro W hSw; obtain ⟨q0, q1, q2, q3, q4, q5, q6, q7, q8, q9⟩ := HK.out _ hSw; go_simp; first | done | with_reducible rfl)
  simp only [Act.put, List.setIfInBounds_toArray, List.set_cons_zero, List.set_cons_succ]
  refine wpAnyLast_take (i := 11) (oi := ?o9) (v := ?v9) ?h9 (by kernel_rfl) (by kernel_rfl) (by kernel_rfl) (by kernel_rfl) (by kernel_rfl) ?q9 (Or.inl ⟨?w9, ?y9⟩) hHeld ?r9
  case h9 => (simp only [List.getElem?_toArray, List.getElem?_cons_succ, List.getElem?_cons_zero]; rfl)
  case q9 => exact fun _ _ _ h => h
  case w9 => rfl
  case y9 => (intro W hSw; obtain ⟨q0, q1, q2, q3, q4, q5, q6, q7, q8, q9⟩ := HK.out _ hSw; go_simp; first | done | with_reducible rfl)
  simp only [Act.put, List.setIfInBounds_toArray, List.set_cons_zero, List.set_cons_succ]
  refine wpAnyLast_take (i := 14) (oi := ?o10) (v := ?v10) ?h10 (by kernel_rfl) (by kernel_rfl) (by kernel_rfl) (by kernel_rfl) (by kernel_rfl) ?q10 (Or.inl ⟨?w10, ?y10⟩) hHeld ?r10
  case h10 => (simp only [List.getElem?_toArray, List.getElem?_cons_succ, List.getElem?_cons_zero]; rfl)
  case q10 => exact fun _ _ _ h => h
  case w10 => rfl
  case y10 => (intro W hSw; obtain ⟨q0, q1, q2, q3, q4, q5, q6, q7, q8, q9⟩ := HK.out _ hSw; go_simp; first | done | with_reducible rfl)
  simp only [Act.put, List.setIfInBounds_toArray, List.set_cons_zero, List.set_cons_succ]
  refine wpAnyLast_take (i := 15) (oi := ?o11) (v := ?v11) ?h11 (by kernel_rfl) (by kernel_rfl) (by kernel_rfl) (by kernel_rfl) (by kernel_rfl) ?q11 (Or.inl ⟨?w11, ?y11⟩) hHeld ?r11
  case h11 => (simp only [List.getElem?_toArray, List.getElem?_cons_succ, List.getElem?_cons_zero]; rfl)
  case q11 => exact fun _ _ _ h => h
  case w11 => rfl
  case y11 => (intro W hSw; obtain ⟨q0, q1, q2, q3, q4, q5, q6, q7, q8, q9⟩ := HK.out _ hSw; go_simp; first | done | with_reducible rfl)
  simp only [Act.put, List.setIfInBounds_toArray, List.set_cons_zero, List.set_cons_succ]
  refine wpAnyLast_ready (rs := [0, 3]) (by kernel_rfl) (by simp) ?_
  refine AllReadyL.cons (o := ?o12) ?h12 (by simp) (fun K hK => ?s12) ?m12
  case h12 => (simp only [List.getElem?_toArray, List.getElem?_cons_succ, List.getElem?_cons_zero]; rfl)
  case s12 =>
    go_simp
    refine hK.out _ _ (hHeld.alloc _) (fun hHeld => ?_)
    clear hK K
    simp only [Act.put, List.setIfInBounds_toArray, List.set_cons_zero, List.set_cons_succ]
    refine wpAnyLast_ready (rs := [3]) (by kernel_rfl) (by simp) ?_
    refine AllReadyL.cons (o := ?o13) ?h13 (by simp) (fun K hK => ?s13) ?m13
    case h13 => (simp only [List.getElem?_toArray, List.getElem?_cons_succ, List.getElem?_cons_zero]; rfl)
    case m13 => exact AllReadyL.nil
    go_simp
    refine hK.out _ _ (hHeld.alloc _) (fun hHeld => ?_)
    clear hK K
    simp only [Act.put, List.setIfInBounds_toArray, List.set_cons_zero, List.set_cons_succ]
    refine wpAnyLast_ready (rs := [12]) (by kernel_rfl) (by simp) ?_
    refine AllReadyL.cons (o := ?o14) ?h14 (by simp) (fun K hK => ?s14) ?m14
    case h14 => (simp only [List.getElem?_toArray, List.getElem?_cons_succ, List.getElem?_cons_zero]; rfl)
    case m14 => exact AllReadyL.nil
    go_simp
    go_at_call 37
    have hsz := HSZ.out
    refine (HLL.out _ _ (ho6.trans hHeld) ?hi (by omega)).mono ?_
    case hi => first | exact ⟨_, blk_drew hA1, .nil⟩ | exact ⟨_, blk_drew hB1, .nil⟩ | exact ⟨_, blk_drew hB2, .nil⟩
    rintro en wL ⟨rfl, hP⟩
    obtain ⟨hNL, hoL⟩ := New.put (w0 := w6) rfl hHeld (by first | exact Nat.le_refl _ | exact Nat.le_succ _) (fun b h => by cases h) hP
    obtain ⟨oL, hLI, hLg, hLo⟩ := hNL
    first
      | have hI48 : IsInt wL w6.heap.size none 0 := hP.keep_ rfl (blk_drew hB1) (by omega)
      | have hI48 : IsInt wL (w6.heap.size + 1) none 0 := hP.keep_ rfl (blk_drew hB2) (by omega)
      | skip
    refine hK.out _ _ (hoL) (fun hHeld => ?_)
    clear hK K
    simp only [Act.put, List.setIfInBounds_toArray, List.set_cons_zero, List.set_cons_succ]
    refine wpAnyLast_ready (rs := [13]) (by kernel_rfl) (by simp) ?_
    refine AllReadyL.cons (o := ?o15) ?h15 (by simp) (fun K hK => ?s15) ?m15
    case h15 => (simp only [List.getElem?_toArray, List.getElem?_cons_succ, List.getElem?_cons_zero]; rfl)
    case m15 => exact AllReadyL.nil
    go_simp
    go_at_call 49
    refine (HAA.out _ _ _ oL (ho6.trans hHeld) ?hi ?hl ?hn).mono ?_
    case hi => first | exact hI48 | exact ⟨_, (show _ = _ by simpa using heap_alloc_new wL (.cells #[.bool false, .slice none 0 0] 76)), .nil⟩
    case hl => first | exact hLI | exact hLI.only ((Only.refl wL (fun _ => False)).alloc _) (fun h => h) (fun _ _ h => h)
    case hn => (have := hLI.lt; omega)
    rintro en wA ⟨rfl, hPA⟩
    obtain ⟨hNA, hoA6⟩ := New.put (w0 := w6) rfl hHeld (by first | exact Nat.le_refl _ | exact Nat.le_succ _ | exact hoL.base.size) (fun b h => by cases h) hPA
    refine hK.out _ _ (hoA6) (fun hHeld => ?_)
    clear hK K
    simp only [Act.put, List.setIfInBounds_toArray, List.set_cons_zero, List.set_cons_succ]
    refine wpAnyLast_take (i := 16) (oi := ?o16) (v := ?v16) ?h16 (by kernel_rfl) (by kernel_rfl) (by kernel_rfl) (by kernel_rfl) (by kernel_rfl) ?q16 (Or.inl ⟨?w16, ?y16⟩) hHeld ?r16
    case h16 => (simp only [List.getElem?_toArray, List.getElem?_cons_succ, List.getElem?_cons_zero]; rfl)
    case q16 => exact fun _ _ _ h => h
    case w16 => rfl
    case y16 => (intro W hSw; obtain ⟨q0, q1, q2, q3, q4, q5, q6, q7, q8, q9⟩ := HK.out _ hSw; go_simp; first | done | with_reducible rfl)
    simp only [Act.put, List.setIfInBounds_toArray, List.set_cons_zero, List.set_cons_succ]
    refine wpAnyLast_ready (rs := [17]) (by kernel_rfl) (by simp) ?_
    refine AllReadyL.cons_last (o := ?o17) ?h17 (by simp) (fun K hK => ?s17) ?m17
    case h17 => (simp only [List.getElem?_toArray, List.getElem?_cons_succ, List.getElem?_cons_zero]; rfl)
    case m17 => exact AllReadyL.nil
    obtain ⟨q0, q1, q2, q3, q4, q5, q6, q7, q8, q9⟩ := HK.out _ hHeld; go_simp
    refine hK.out _ _ ?_
    clear hK K
    simp only [Act.put, List.setIfInBounds_toArray, List.set_cons_zero, List.set_cons_succ]
    refine done_ (by kernel_rfl) ?_
    obtain ⟨w7, h7, t0, t1, t2, t3, t2c, t3c, t4, t5, t6⟩ := plus_end w w6 w.heap.size (w.heap.size + 1 + 1) _ g1 zr e1 hoA6 hNA ho6 hR6 hS6 (Nat.le_refl _) (by omega) (by omega)
    rw [← h7]
    clear h7 s0 s1 x0 x1 fs0 fs1 as0 as1 ax0 ax1 af0 af1 bs0 bs1 bx0 bx1 bf0 bf1 m1 m2 m3 m4 hA1 hB1 hB2 HK HAA HSZ hP hPA hoL hLI hLg hLo ho6a hoA hoB hNA hoA6 hHeld hsz hS6 hX6 hR6 ho6
    go_wp2_with fail
    rw [rounds_succ]
    go_wp2_with fail
    refine bodyPost_ret (results_cell_row rfl _ _ w.heap.size 62 #[.pointer (some ⟨_, 0, none⟩), .int .i64 e1] (0, 0) _ rfl t4 Tryz.underlying62 rfl (by kernel_rfl)) rfl ?_
    exact ⟨_, rfl, t5, t6⟩
  refine AllReadyL.cons (o := ?o18) ?h18 (by simp) (fun K hK => ?s18) ?m18
  case h18 => (simp only [List.getElem?_toArray, List.getElem?_cons_succ, List.getElem?_cons_zero]; rfl)
  case m18 => exact AllReadyL.nil
  case s18 =>
    go_simp
    refine hK.out _ _ (hHeld.alloc _) (fun hHeld => ?_)
    clear hK K
    simp only [Act.put, List.setIfInBounds_toArray, List.set_cons_zero, List.set_cons_succ]
    refine wpAnyLast_ready (rs := [0, 12]) (by kernel_rfl) (by simp) ?_
    refine AllReadyL.cons (o := ?o19) ?h19 (by simp) (fun K hK => ?s19) ?m19
    case h19 => (simp only [List.getElem?_toArray, List.getElem?_cons_succ, List.getElem?_cons_zero]; rfl)
    case s19 =>
      go_simp
      refine hK.out _ _ (hHeld.alloc _) (fun hHeld => ?_)
      clear hK K
      simp only [Act.put, List.setIfInBounds_toArray, List.set_cons_zero, List.set_cons_succ]
      refine wpAnyLast_ready (rs := [12]) (by kernel_rfl) (by simp) ?_
      refine AllReadyL.cons (o := ?o20) ?h20 (by simp) (fun K hK => ?s20) ?m20
      case h20 => (simp only [List.getElem?_toArray, List.getElem?_cons_succ, List.getElem?_cons_zero]; rfl)
      case m20 => exact AllReadyL.nil
      go_simp
      go_at_call 37
      have hsz := HSZ.out
      refine (HLL.out _ _ (ho6.trans hHeld) ?hi (by omega)).mono ?_
      case hi => first | exact ⟨_, blk_drew hA1, .nil⟩ | exact ⟨_, blk_drew hB1, .nil⟩ | exact ⟨_, blk_drew hB2, .nil⟩
      rintro en wL ⟨rfl, hP⟩
      obtain ⟨hNL, hoL⟩ := New.put (w0 := w6) rfl hHeld (by first | exact Nat.le_refl _ | exact Nat.le_succ _) (fun b h => by cases h) hP
      obtain ⟨oL, hLI, hLg, hLo⟩ := hNL
      first
        | have hI48 : IsInt wL w6.heap.size none 0 := hP.keep_ rfl (blk_drew hB1) (by omega)
        | have hI48 : IsInt wL (w6.heap.size + 1) none 0 := hP.keep_ rfl (blk_drew hB2) (by omega)
        | skip
      refine hK.out _ _ (hoL) (fun hHeld => ?_)
      clear hK K
      simp only [Act.put, List.setIfInBounds_toArray, List.set_cons_zero, List.set_cons_succ]
      refine wpAnyLast_ready (rs := [13]) (by kernel_rfl) (by simp) ?_
      refine AllReadyL.cons (o := ?o21) ?h21 (by simp) (fun K hK => ?s21) ?m21
      case h21 => (simp only [List.getElem?_toArray, List.getElem?_cons_succ, List.getElem?_cons_zero]; rfl)
      case m21 => exact AllReadyL.nil
      go_simp
      go_at_call 49
      refine (HAA.out _ _ _ oL (ho6.trans hHeld) ?hi ?hl ?hn).mono ?_
      case hi => first | exact hI48 | exact ⟨_, (show _ = _ by simpa using heap_alloc_new wL (.cells #[.bool false, .slice none 0 0] 76)), .nil⟩
      case hl => first | exact hLI | exact hLI.only ((Only.refl wL (fun _ => False)).alloc _) (fun h => h) (fun _ _ h => h)
      case hn => (have := hLI.lt; omega)
      rintro en wA ⟨rfl, hPA⟩
      obtain ⟨hNA, hoA6⟩ := New.put (w0 := w6) rfl hHeld (by first | exact Nat.le_refl _ | exact Nat.le_succ _ | exact hoL.base.size) (fun b h => by cases h) hPA
      refine hK.out _ _ (hoA6) (fun hHeld => ?_)
      clear hK K
      simp only [Act.put, List.setIfInBounds_toArray, List.set_cons_zero, List.set_cons_succ]
      refine wpAnyLast_take (i := 16) (oi := ?o22) (v := ?v22) ?h22 (by kernel_rfl) (by kernel_rfl) (by kernel_rfl) (by kernel_rfl) (by kernel_rfl) ?q22 (Or.inl ⟨?w22, ?y22⟩) hHeld ?r22
      case h22 => (simp only [List.getElem?_toArray, List.getElem?_cons_succ, List.getElem?_cons_zero]; rfl)
      case q22 => exact fun _ _ _ h => h
      case w22 => rfl
      case y22 => (intro W hSw; obtain ⟨q0, q1, q2, q3, q4, q5, q6, q7, q8, q9⟩ := HK.out _ hSw; go_simp; first | done | with_reducible rfl)
      simp only [Act.put, List.setIfInBounds_toArray, List.set_cons_zero, List.set_cons_succ]
      refine wpAnyLast_ready (rs := [17]) (by kernel_rfl) (by simp) ?_
      refine AllReadyL.cons_last (o := ?o23) ?h23 (by simp) (fun K hK => ?s23) ?m23
      case h23 => (simp only [List.getElem?_toArray, List.getElem?_cons_succ, List.getElem?_cons_zero]; rfl)
      case m23 => exact AllReadyL.nil
      obtain ⟨q0, q1, q2, q3, q4, q5, q6, q7, q8, q9⟩ := HK.out _ hHeld; go_simp
      refine hK.out _ _ ?_
      clear hK K
      simp only [Act.put, List.setIfInBounds_toArray, List.set_cons_zero, List.set_cons_succ]
      refine done_ (by kernel_rfl) ?_
      obtain ⟨w7, h7, t0, t1, t2, t3, t2c, t3c, t4, t5, t6⟩ := plus_end w w6 w.heap.size (w.heap.size + 1 + 1) _ g1 zr e1 hoA6 hNA ho6 hR6 hS6 (Nat.le_refl _) (by omega) (by omega)
      rw [← h7]
      clear h7 s0 s1 x0 x1 fs0 fs1 as0 as1 ax0 ax1 af0 af1 bs0 bs1 bx0 bx1 bf0 bf1 m1 m2 m3 m4 hA1 hB1 hB2 HK HAA HSZ hP hPA hoL hLI hLg hLo ho6a hoA hoB hNA hoA6 hHeld hsz hS6 hX6 hR6 ho6
      go_wp2_with fail
      rw [rounds_succ]
      go_wp2_with fail
      refine bodyPost_ret (results_cell_row rfl _ _ w.heap.size 62 #[.pointer (some ⟨_, 0, none⟩), .int .i64 e1] (0, 0) _ rfl t4 Tryz.underlying62 rfl (by kernel_rfl)) rfl ?_
      exact ⟨_, rfl, t5, t6⟩
    refine AllReadyL.cons (o := ?o24) ?h24 (by simp) (fun K hK => ?s24) ?m24
    case h24 => (simp only [List.getElem?_toArray, List.getElem?_cons_succ, List.getElem?_cons_zero]; rfl)
    case m24 => exact AllReadyL.nil
    case s24 =>
      go_simp
      go_at_call 37
      have hsz := HSZ.out
      refine (HLL.out _ _ (ho6.trans hHeld) ?hi (by omega)).mono ?_
      case hi => first | exact ⟨_, blk_drew hA1, .nil⟩ | exact ⟨_, blk_drew hB1, .nil⟩ | exact ⟨_, blk_drew hB2, .nil⟩
      rintro en wL ⟨rfl, hP⟩
      obtain ⟨hNL, hoL⟩ := New.put (w0 := w6) rfl hHeld (by first | exact Nat.le_refl _ | exact Nat.le_succ _) (fun b h => by cases h) hP
      obtain ⟨oL, hLI, hLg, hLo⟩ := hNL
      first
        | have hI48 : IsInt wL w6.heap.size none 0 := hP.keep_ rfl (blk_drew hB1) (by omega)
        | have hI48 : IsInt wL (w6.heap.size + 1) none 0 := hP.keep_ rfl (blk_drew hB2) (by omega)
        | skip
      refine hK.out _ _ (hoL) (fun hHeld => ?_)
      clear hK K
      simp only [Act.put, List.setIfInBounds_toArray, List.set_cons_zero, List.set_cons_succ]
      refine wpAnyLast_ready (rs := [0]) (by kernel_rfl) (by simp) ?_
      refine AllReadyL.cons (o := ?o25) ?h25 (by simp) (fun K hK => ?s25) ?m25
      case h25 => (simp only [List.getElem?_toArray, List.getElem?_cons_succ, List.getElem?_cons_zero]; rfl)
      case m25 => exact AllReadyL.nil
      go_simp
      refine hK.out _ _ (hHeld.alloc _) (fun hHeld => ?_)
      clear hK K
      simp only [Act.put, List.setIfInBounds_toArray, List.set_cons_zero, List.set_cons_succ]
      refine wpAnyLast_ready (rs := [13]) (by kernel_rfl) (by simp) ?_
      refine AllReadyL.cons (o := ?o26) ?h26 (by simp) (fun K hK => ?s26) ?m26
      case h26 => (simp only [List.getElem?_toArray, List.getElem?_cons_succ, List.getElem?_cons_zero]; rfl)
      case m26 => exact AllReadyL.nil
      go_simp
      go_at_call 49
      refine (HAA.out _ _ _ oL (ho6.trans hHeld) ?hi ?hl ?hn).mono ?_
      case hi => first | exact hI48 | exact ⟨_, (show _ = _ by simpa using heap_alloc_new wL (.cells #[.bool false, .slice none 0 0] 76)), .nil⟩
      case hl => first | exact hLI | exact hLI.only ((Only.refl wL (fun _ => False)).alloc _) (fun h => h) (fun _ _ h => h)
      case hn => (have := hLI.lt; omega)
      rintro en wA ⟨rfl, hPA⟩
      obtain ⟨hNA, hoA6⟩ := New.put (w0 := w6) rfl hHeld (by first | exact Nat.le_refl _ | exact Nat.le_succ _ | exact hoL.base.size) (fun b h => by cases h) hPA
      refine hK.out _ _ (hoA6) (fun hHeld => ?_)
      clear hK K
      simp only [Act.put, List.setIfInBounds_toArray, List.set_cons_zero, List.set_cons_succ]
      refine wpAnyLast_take (i := 16) (oi := ?o27) (v := ?v27) ?h27 (by kernel_rfl) (by kernel_rfl) (by kernel_rfl) (by kernel_rfl) (by kernel_rfl) ?q27 (Or.inl ⟨?w27, ?y27⟩) hHeld ?r27
      case h27 => (simp only [List.getElem?_toArray, List.getElem?_cons_succ, List.getElem?_cons_zero]; rfl)
      case q27 => exact fun _ _ _ h => h
      case w27 => rfl
      case y27 => (intro W hSw; obtain ⟨q0, q1, q2, q3, q4, q5, q6, q7, q8, q9⟩ := HK.out _ hSw; go_simp; first | done | with_reducible rfl)
      simp only [Act.put, List.setIfInBounds_toArray, List.set_cons_zero, List.set_cons_succ]
      refine wpAnyLast_ready (rs := [17]) (by kernel_rfl) (by simp) ?_
      refine AllReadyL.cons_last (o := ?o28) ?h28 (by simp) (fun K hK => ?s28) ?m28
      case h28 => (simp only [List.getElem?_toArray, List.getElem?_cons_succ, List.getElem?_cons_zero]; rfl)
      case m28 => exact AllReadyL.nil
      obtain ⟨q0, q1, q2, q3, q4, q5, q6, q7, q8, q9⟩ := HK.out _ hHeld; go_simp
      refine hK.out _ _ ?_
      clear hK K
      simp only [Act.put, List.setIfInBounds_toArray, List.set_cons_zero, List.set_cons_succ]
      refine done_ (by kernel_rfl) ?_
      obtain ⟨w7, h7, t0, t1, t2, t3, t2c, t3c, t4, t5, t6⟩ := plus_end w w6 w.heap.size (w.heap.size + 1 + 1) _ g1 zr e1 hoA6 hNA ho6 hR6 hS6 (Nat.le_refl _) (by omega) (by omega)
      rw [← h7]
      clear h7 s0 s1 x0 x1 fs0 fs1 as0 as1 ax0 ax1 af0 af1 bs0 bs1 bx0 bx1 bf0 bf1 m1 m2 m3 m4 hA1 hB1 hB2 HK HAA HSZ hP hPA hoL hLI hLg hLo ho6a hoA hoB hNA hoA6 hHeld hsz hS6 hX6 hR6 ho6
      go_wp2_with fail
      rw [rounds_succ]
      go_wp2_with fail
      refine bodyPost_ret (results_cell_row rfl _ _ w.heap.size 62 #[.pointer (some ⟨_, 0, none⟩), .int .i64 e1] (0, 0) _ rfl t4 Tryz.underlying62 rfl (by kernel_rfl)) rfl ?_
      exact ⟨_, rfl, t5, t6⟩
end Go.Proofs.YtflhdplfkpdejaaGreatFmt
