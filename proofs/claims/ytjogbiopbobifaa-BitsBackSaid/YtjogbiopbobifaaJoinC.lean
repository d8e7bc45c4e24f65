/- Walks: Join. -/
import Derived.Test.YtjogbiopbobifaaJoinB
namespace Go.Proofs.Ytjogbiopbobifaa
open Go.RowKit

/-- a width's kind of package bits lies in block g -/
abbrev K4 (g : Nat) (k0 k1 k2 k3 : Int) (w0 w' : World) : Prop :=
  w'.cell? ⟨g, 0, none⟩ = some (.int .i64 k0) ∧ w'.cell? ⟨g, 1, none⟩ = some (.int .i64 k1) ∧ w'.cell? ⟨g, 2, none⟩ = some (.int .i64 k2) ∧ w'.cell? ⟨g, 3, none⟩ = some (.int .i64 k3) ∧ g < w'.heap.size ∧ Below w0.heap.size w0 w'
section
variable {g : Nat} {k0 k1 k2 k3 : Int} {w0 w1 w2 : World}
theorem K4.on (h : K4 g k0 k1 k2 k3 w0 w1) (hb : Below w1.heap.size w1 w2) : K4 g k0 k1 k2 k3 w0 w2 := by
  obtain ⟨h0, h1, h2, h3, hg, hB⟩ := h
  have c := (bcell hb).1
  exact ⟨(c g 0 hg).trans h0, (c g 1 hg).trans h1, (c g 2 hg).trans h2, (c g 3 hg).trans h3, Nat.lt_of_lt_of_le hg hb.size, below_on hB hb⟩
theorem K4.first (h : Below w0.heap.size w0 w1) : K4 w1.heap.size k0 k1 k2 k3 w0 (w1.alloc (.cells #[.int .i64 k0, .int .i64 k1, .int .i64 k2, .int .i64 k3] 53)) := by
  refine ⟨?_, ?_, ?_, ?_, by simp, h.alloc h.size _⟩ <;> simp [World.cell?_alloc_new]
theorem K4.below (h : K4 g k0 k1 k2 k3 w0 w1) : Below w0.heap.size w0 w1 := h.2.2.2.2.2
theorem K4.low (h : K4 g k0 k1 k2 k3 w0 w1) : w1.cell? ⟨g, 2, none⟩ = some (.int .i64 k2) := h.2.2.1
end

/-- what Join does with the pattern that it has made -/
inductive Outcome (b v mag E low : Int) : Int → Bool → Prop
  | notFinite (pn : Bool) (h : Hid (Tells 43 #[.int .i64 b, .int .i64 v] (.tuple #[.bool pn, .int .i64 0, .int .i64 0, .bool false]))) : Outcome b v mag E low 0 false
  | nought (pn : Bool) (pe : Int) (h : Hid (Tells 43 #[.int .i64 b, .int .i64 v] (.tuple #[.bool pn, .int .i64 0, .int .i64 pe, .bool true]))) : Outcome b v mag E low 0 false
  | other (pn : Bool) (pm pe o x o2 x2 : Int) (h : Hid (Tells 43 #[.int .i64 b, .int .i64 v] (.tuple #[.bool pn, .int .i64 pm, .int .i64 pe, .bool true]))) (hm : (pm == 0) = false)
      (h1 : Hid (Tells 94 #[.int .i64 pm, .int .i64 pe] (.agg #[.int .i64 o, .int .i64 x]))) (h2 : Hid (Tells 94 #[.int .i64 mag, .int .i64 E] (.agg #[.int .i64 o2, .int .i64 x2])))
      (hd : Hid (¬ (o = o2 ∧ x = x2))) : Outcome b v mag E low 0 false
  | same (pn : Bool) (pm pe o x : Int) (h : Hid (Tells 43 #[.int .i64 b, .int .i64 v] (.tuple #[.bool pn, .int .i64 pm, .int .i64 pe, .bool true]))) (hm : (pm == 0) = false)
      (h1 : Hid (Tells 94 #[.int .i64 pm, .int .i64 pe] (.agg #[.int .i64 o, .int .i64 x]))) (h2 : Hid (Tells 94 #[.int .i64 mag, .int .i64 E] (.agg #[.int .i64 o, .int .i64 x])))
      (hl : ¬ pe < low) : Outcome b v mag E low b true

/-- exp, kept between -3000 and 3000 -/
def Clamped (exp E : Int) : Prop := (exp < -3000 ∧ E = -3000) ∨ (3000 < exp ∧ E = 3000) ∨ (-3000 ≤ exp ∧ exp ≤ 3000 ∧ E = exp)

theorem eq_two (d : Nat) (a b c e : Int) (w : World) : (Op.equalIn (d + 1 + 1) 62 (.agg #[.int .i64 a, .int .i64 b]) (.agg #[.int .i64 c, .int .i64 e])).run Try.prog w = .ok (a == c && b == e) w := by
  have h : Try.prog.underlying 62 = some (.array 2 3) := Try.underlying62
  have h3 : Try.prog.underlying 3 = some (.int .i64) := Try.underlying3
  have hi : ∀ (a b : Int) (w : World), (Op.equalIn (d + 1) 3 (.int .i64 a) (.int .i64 b)).run Try.prog w = .ok (a == b) w := fun a b w => run_equalIn_int w d 3 .i64 .i64 a b h3
  have hp0 : ∀ (x y : Int) (w : World), (part 3 #[.int .i64 x, .int .i64 y] 0).run Try.prog w = .ok (.int .i64 x) w := fun x y w => by kernel_rfl
  have hp1 : ∀ (x y : Int) (w : World), (part 3 #[.int .i64 x, .int .i64 y] 1).run Try.prog w = .ok (.int .i64 y) w := fun x y w => by kernel_rfl
  have hs : ∀ w : World, (sizeOf 3).run Try.prog w = .ok 1 w := fun w => by kernel_rfl
  rw [Op.equalIn]
  have hr : List.range' 0 2 = [0, 1] := rfl
  simp only [Sem.run_bind, run_underlying h, Result.andThen_ok, hs, Std.Legacy.Range.forIn_eq_forIn_range', Std.Legacy.Range.size]
  simp [hr, hp0, hp1, hi]
  by_cases c1 : a = c <;> by_cases c2 : b = e <;> simp [c1, c2]
theorem neq_two (a b c e : Int) (w : World) : (binOp .neq 62 (.agg #[.int .i64 a, .int .i64 b]) (.agg #[.int .i64 c, .int .i64 e])).run Try.prog w = .ok (.bool (!(a == c && b == e))) w := by
  rw [run_neq_struct, eq_two 9998]; rfl

set_option maxRecDepth 100000 in
set_option maxHeartbeats 8000000 in
theorem join64_pos_f (mag exp E b r : Int) (ok : Bool) (Y : Nat) (hm0 : 0 ≤ mag) (hm : (mag == 0) = false) (hE : Clamped exp E)
    (hL : Hid (∀ w, Calls Try.prog 92 #[.float .f64 (floatOfInt .f64 mag), .int .i64 E] w fun e w' => e = .returned (.float .f64 Y) ∧ w = w'))
    (hO : Hid (∀ w, Calls Try.prog 19 #[.float .f64 Y] w fun e w' => e = .returned (.int .i64 b) ∧ w = w'))
    (out : Outcome b 64 mag E (-1074) r ok) :
    Tells 44 #[.bool false, .int .i64 mag, .int .i64 exp, .int .i64 64] (.tuple #[.int .i64 r, .bool ok]) := by
  intro w
  have HB : Below w.heap.size w w := Below.refl _ _
  rcases hE with ⟨hx, rfl⟩ | ⟨hx, rfl⟩ | ⟨hx, hx2, rfl⟩
  all_goals
    go_enter Try.func44, Try.ntmps44
    go_wp2_with fail
    refine (F.bits_of.calls 64 52 2047 (-1074) (-9223372036854775808) true _ rfl).mono ?_
    rintro e w1 ⟨rfl, hb1⟩
    have hk := K4.first (k0 := 52) (k1 := 2047) (k2 := (-1074)) (k3 := (-9223372036854775808)) hb1
    clear hb1 HB
    have HK := Lib.hid hk
    clear hk
    go_wp2_with fail
    refine (hL.out _).mono ?_
    rintro e w2 ⟨rfl, rfl⟩
    go_wp2_with fail
    refine (hO.out _).mono ?_
    rintro e w2 ⟨rfl, rfl⟩
    go_wp2_with fail
    cases out with
    | notFinite pn h =>
      refine (h.out _).mono ?_
      rintro e w2 ⟨rfl, hb1⟩
      have hk := HK.out.on hb1
      clear hb1 HK
      have HK := Lib.hid hk.below
      clear hk
      go_wp2_with fail
      go_ret2
      exact ⟨rfl, HK.out⟩
    | nought pn pe h =>
      refine (h.out _).mono ?_
      rintro e w2 ⟨rfl, hb1⟩
      have hk := HK.out.on hb1
      clear hb1 HK
      have HK := Lib.hid hk.below
      clear hk
      go_wp2_with fail
      go_ret2
      exact ⟨rfl, HK.out⟩
    | other pn pm pe o x o2 x2 h hm2 h1 h2 hd =>
      refine (h.out _).mono ?_
      rintro e w2 ⟨rfl, hb1⟩
      have hk := HK.out.on hb1
      clear hb1 HK
      have HK := Lib.hid hk
      clear hk
      go_wp2_with fail
      refine (h1.out _).mono ?_
      rintro e w3 ⟨rfl, hb1⟩
      have hk := HK.out.on hb1
      clear hb1 HK
      have HK := Lib.hid hk
      clear hk
      have hq : ∀ w : World, (binOp .neq 62 (.agg #[.int .i64 o, .int .i64 x]) (.agg #[.int .i64 o2, .int .i64 x2])).run Try.prog w = .ok (.bool true) w := fun w => by
        rw [neq_two]; congr 3; rw [Bool.not_eq_true', Bool.and_eq_false_imp, beq_iff_eq, beq_eq_false_iff_ne]; exact fun a b => hd.out ⟨a, b⟩
      go_wp2_with fail
      refine (h2.out _).mono ?_
      rintro e w4 ⟨rfl, hb1⟩
      have hk := HK.out.on hb1
      clear hb1 HK
      have HK := Lib.hid hk.below
      clear hk
      go_wp2_with fail
      go_ret2
      exact ⟨rfl, HK.out⟩
    | same pn pm pe o x h hm2 h1 h2 hl =>
      refine (h.out _).mono ?_
      rintro e w2 ⟨rfl, hb1⟩
      have hk := HK.out.on hb1
      clear hb1 HK
      have HK := Lib.hid hk
      clear hk
      go_wp2_with fail
      refine (h1.out _).mono ?_
      rintro e w3 ⟨rfl, hb1⟩
      have hk := HK.out.on hb1
      clear hb1 HK
      have HK := Lib.hid hk
      clear hk
      have hq : ∀ w : World, (binOp .neq 62 (.agg #[.int .i64 o, .int .i64 x]) (.agg #[.int .i64 o, .int .i64 x])).run Try.prog w = .ok (.bool false) w := fun w => by rw [neq_two]; simp
      go_wp2_with fail
      refine (h2.out _).mono ?_
      rintro e w4 ⟨rfl, hb1⟩
      have hk := HK.out.on hb1
      clear hb1 HK
      have HK := Lib.hid hk.below
      have hlow := hk.low
      clear hk
      go_wp2_with fail
      go_ret2
      exact ⟨rfl, HK.out⟩

set_option maxRecDepth 100000 in
set_option maxHeartbeats 8000000 in
theorem join64_pos_t (mag exp E b r : Int) (ok : Bool) (X Y : Nat) (hm0 : 0 ≤ mag) (hm : (mag == 0) = false) (hE : Clamped exp E)
    (hL : Hid (∀ w, Calls Try.prog 92 #[.float .f64 (floatOfInt .f64 mag), .int .i64 E] w fun e w' => e = .returned (.float .f64 X) ∧ w = w'))
    (hC : Hid (∀ w, Calls Try.prog 93 #[.float .f64 X, .float .f64 13830554455654793216] w fun e w' => e = .returned (.float .f64 Y) ∧ w = w'))
    (hO : Hid (∀ w, Calls Try.prog 19 #[.float .f64 Y] w fun e w' => e = .returned (.int .i64 b) ∧ w = w'))
    (out : Outcome b 64 mag E (-1074) r ok) :
    Tells 44 #[.bool true, .int .i64 mag, .int .i64 exp, .int .i64 64] (.tuple #[.int .i64 r, .bool ok]) := by
  intro w
  have HB : Below w.heap.size w w := Below.refl _ _
  rcases hE with ⟨hx, rfl⟩ | ⟨hx, rfl⟩ | ⟨hx, hx2, rfl⟩
  all_goals
    go_enter Try.func44, Try.ntmps44
    go_wp2_with fail
    refine (F.bits_of.calls 64 52 2047 (-1074) (-9223372036854775808) true _ rfl).mono ?_
    rintro e w1 ⟨rfl, hb1⟩
    have hk := K4.first (k0 := 52) (k1 := 2047) (k2 := (-1074)) (k3 := (-9223372036854775808)) hb1
    clear hb1 HB
    have HK := Lib.hid hk
    clear hk
    go_wp2_with fail
    refine (hL.out _).mono ?_
    rintro e w2 ⟨rfl, rfl⟩
    go_wp2_with fail
    refine (hC.out _).mono ?_
    rintro e w2 ⟨rfl, rfl⟩
    go_wp2_with fail
    refine (hO.out _).mono ?_
    rintro e w2 ⟨rfl, rfl⟩
    go_wp2_with fail
    cases out with
    | notFinite pn h =>
      refine (h.out _).mono ?_
      rintro e w2 ⟨rfl, hb1⟩
      have hk := HK.out.on hb1
      clear hb1 HK
      have HK := Lib.hid hk.below
      clear hk
      go_wp2_with fail
      go_ret2
      exact ⟨rfl, HK.out⟩
    | nought pn pe h =>
      refine (h.out _).mono ?_
      rintro e w2 ⟨rfl, hb1⟩
      have hk := HK.out.on hb1
      clear hb1 HK
      have HK := Lib.hid hk.below
      clear hk
      go_wp2_with fail
      go_ret2
      exact ⟨rfl, HK.out⟩
    | other pn pm pe o x o2 x2 h hm2 h1 h2 hd =>
      refine (h.out _).mono ?_
      rintro e w2 ⟨rfl, hb1⟩
      have hk := HK.out.on hb1
      clear hb1 HK
      have HK := Lib.hid hk
      clear hk
      go_wp2_with fail
      refine (h1.out _).mono ?_
      rintro e w3 ⟨rfl, hb1⟩
      have hk := HK.out.on hb1
      clear hb1 HK
      have HK := Lib.hid hk
      clear hk
      have hq : ∀ w : World, (binOp .neq 62 (.agg #[.int .i64 o, .int .i64 x]) (.agg #[.int .i64 o2, .int .i64 x2])).run Try.prog w = .ok (.bool true) w := fun w => by
        rw [neq_two]; congr 3; rw [Bool.not_eq_true', Bool.and_eq_false_imp, beq_iff_eq, beq_eq_false_iff_ne]; exact fun a b => hd.out ⟨a, b⟩
      go_wp2_with fail
      refine (h2.out _).mono ?_
      rintro e w4 ⟨rfl, hb1⟩
      have hk := HK.out.on hb1
      clear hb1 HK
      have HK := Lib.hid hk.below
      clear hk
      go_wp2_with fail
      go_ret2
      exact ⟨rfl, HK.out⟩
    | same pn pm pe o x h hm2 h1 h2 hl =>
      refine (h.out _).mono ?_
      rintro e w2 ⟨rfl, hb1⟩
      have hk := HK.out.on hb1
      clear hb1 HK
      have HK := Lib.hid hk
      clear hk
      go_wp2_with fail
      refine (h1.out _).mono ?_
      rintro e w3 ⟨rfl, hb1⟩
      have hk := HK.out.on hb1
      clear hb1 HK
      have HK := Lib.hid hk
      clear hk
      have hq : ∀ w : World, (binOp .neq 62 (.agg #[.int .i64 o, .int .i64 x]) (.agg #[.int .i64 o, .int .i64 x])).run Try.prog w = .ok (.bool false) w := fun w => by rw [neq_two]; simp
      go_wp2_with fail
      refine (h2.out _).mono ?_
      rintro e w4 ⟨rfl, hb1⟩
      have hk := HK.out.on hb1
      clear hb1 HK
      have HK := Lib.hid hk.below
      have hlow := hk.low
      clear hk
      go_wp2_with fail
      go_ret2
      exact ⟨rfl, HK.out⟩
end Go.Proofs.Ytjogbiopbobifaa
