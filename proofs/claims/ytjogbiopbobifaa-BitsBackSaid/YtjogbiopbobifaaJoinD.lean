/- Walks: Join of a binary32. -/
import Derived.Test.YtjogbiopbobifaaJoinC
namespace Go.Proofs.Ytjogbiopbobifaa
open Go.RowKit

set_option maxRecDepth 100000 in
set_option maxHeartbeats 8000000 in
theorem join32_pos_f (mag exp E b0 r : Int) (ok : Bool) (Y : Nat) (hm0 : 0 ≤ mag) (hm : (mag == 0) = false) (hE : Clamped exp E)
    (hL : Hid (∀ w, Calls Try.prog 92 #[.float .f64 (floatOfInt .f64 mag), .int .i64 E] w fun e w' => e = .returned (.float .f64 Y) ∧ w = w'))
    (hO : Hid (∀ w, Calls Try.prog 19 #[.float .f64 Y] w fun e w' => e = .returned (.int .i64 b0) ∧ w = w'))
    (hV : Hid (∀ w : World, ∃ n w2, (convert 24 26 (.float .f64 Y)).run Try.prog w = .ok (.float .f32 n) w2 ∧ Below w.heap.size w w2 ∧ (∀ w, Calls Try.prog 20 #[.float .f32 n] w fun e w' => e = .returned (.int .i64 (told32 n)) ∧ w = w') ∧ Outcome (told32 n) 32 mag E (-149) r ok)) :
    Tells 44 #[.bool false, .int .i64 mag, .int .i64 exp, .int .i64 32] (.tuple #[.int .i64 r, .bool ok]) := by
  intro w
  have HB : Below w.heap.size w w := Below.refl _ _
  rcases hE with ⟨hx, rfl⟩ | ⟨hx, rfl⟩ | ⟨hx, hx2, rfl⟩
  all_goals
    go_enter Try.func44, Try.ntmps44
    go_wp2_with fail
    refine (F.bits_of.calls 32 23 255 (-149) 2147483648 true _ rfl).mono ?_
    rintro e w1 ⟨rfl, hb1⟩
    have hk := K4.first (k0 := 23) (k1 := 255) (k2 := (-149)) (k3 := 2147483648) hb1
    clear hb1 HB
    have HK := Lib.hid hk
    clear hk
    go_wp2_with fail
    refine (hL.out _).mono ?_
    rintro e w2 ⟨rfl, rfl⟩
    go_wp2_with fail
    refine (hO.out _).mono ?_
    rintro e w2 ⟨rfl, rfl⟩
    obtain ⟨n, w3, hrun, hb1, hO2, out⟩ := hV.out (w1.alloc (.cells #[.int .i64 23, .int .i64 255, .int .i64 (-149), .int .i64 2147483648] 53))
    have HO2 := Lib.hid hO2
    clear hO2
    have hk := HK.out.on hb1
    clear hb1 HK
    have HK := Lib.hid hk
    clear hk
    generalize told32 n = b at *
    go_wp2_with fail
    refine (HO2.out _).mono ?_
    rintro e w2 ⟨rfl, rfl⟩
    clear hrun
    go_wp2_with fail
    cases out with
    | notFinite pn h =>
      refine (h.out _).mono ?_
      rintro e w2 ⟨rfl, hb1⟩
      have hk := HK.out.on hb1
      clear hb1 HK
      have HK := Lib.hid hk.below
      clear hk
      go_wp2_with fail
      go_ret2
      exact ⟨rfl, HK.out⟩
    | nought pn pe h =>
      refine (h.out _).mono ?_
      rintro e w2 ⟨rfl, hb1⟩
      have hk := HK.out.on hb1
      clear hb1 HK
      have HK := Lib.hid hk.below
      clear hk
      go_wp2_with fail
      go_ret2
      exact ⟨rfl, HK.out⟩
    | other pn pm pe o x o2 x2 h hm2 h1 h2 hd =>
      refine (h.out _).mono ?_
      rintro e w2 ⟨rfl, hb1⟩
      have hk := HK.out.on hb1
      clear hb1 HK
      have HK := Lib.hid hk
      clear hk
      go_wp2_with fail
      refine (h1.out _).mono ?_
      rintro e w3 ⟨rfl, hb1⟩
      have hk := HK.out.on hb1
      clear hb1 HK
      have HK := Lib.hid hk
      clear hk
      have hq : ∀ w : World, (binOp .neq 62 (.agg #[.int .i64 o, .int .i64 x]) (.agg #[.int .i64 o2, .int .i64 x2])).run Try.prog w = .ok (.bool true) w := fun w => by
        rw [neq_two]; congr 3; rw [Bool.not_eq_true', Bool.and_eq_false_imp, beq_iff_eq, beq_eq_false_iff_ne]; exact fun a b => hd.out ⟨a, b⟩
      go_wp2_with fail
      refine (h2.out _).mono ?_
      rintro e w4 ⟨rfl, hb1⟩
      have hk := HK.out.on hb1
      clear hb1 HK
      have HK := Lib.hid hk.below
      clear hk
      go_wp2_with fail
      go_ret2
      exact ⟨rfl, HK.out⟩
    | same pn pm pe o x h hm2 h1 h2 hl =>
      refine (h.out _).mono ?_
      rintro e w2 ⟨rfl, hb1⟩
      have hk := HK.out.on hb1
      clear hb1 HK
      have HK := Lib.hid hk
      clear hk
      go_wp2_with fail
      refine (h1.out _).mono ?_
      rintro e w3 ⟨rfl, hb1⟩
      have hk := HK.out.on hb1
      clear hb1 HK
      have HK := Lib.hid hk
      clear hk
      have hq : ∀ w : World, (binOp .neq 62 (.agg #[.int .i64 o, .int .i64 x]) (.agg #[.int .i64 o, .int .i64 x])).run Try.prog w = .ok (.bool false) w := fun w => by rw [neq_two]; simp
      go_wp2_with fail
      refine (h2.out _).mono ?_
      rintro e w4 ⟨rfl, hb1⟩
      have hk := HK.out.on hb1
      clear hb1 HK
      have HK := Lib.hid hk.below
      have hlow := hk.low
      clear hk
      go_wp2_with fail
      go_ret2
      exact ⟨rfl, HK.out⟩

set_option maxRecDepth 100000 in
set_option maxHeartbeats 8000000 in
theorem join32_pos_t (mag exp E b0 r : Int) (ok : Bool) (X Y : Nat) (hm0 : 0 ≤ mag) (hm : (mag == 0) = false) (hE : Clamped exp E)
    (hL : Hid (∀ w, Calls Try.prog 92 #[.float .f64 (floatOfInt .f64 mag), .int .i64 E] w fun e w' => e = .returned (.float .f64 X) ∧ w = w'))
    (hC : Hid (∀ w, Calls Try.prog 93 #[.float .f64 X, .float .f64 13830554455654793216] w fun e w' => e = .returned (.float .f64 Y) ∧ w = w'))
    (hO : Hid (∀ w, Calls Try.prog 19 #[.float .f64 Y] w fun e w' => e = .returned (.int .i64 b0) ∧ w = w'))
    (hV : Hid (∀ w : World, ∃ n w2, (convert 24 26 (.float .f64 Y)).run Try.prog w = .ok (.float .f32 n) w2 ∧ Below w.heap.size w w2 ∧ (∀ w, Calls Try.prog 20 #[.float .f32 n] w fun e w' => e = .returned (.int .i64 (told32 n)) ∧ w = w') ∧ Outcome (told32 n) 32 mag E (-149) r ok)) :
    Tells 44 #[.bool true, .int .i64 mag, .int .i64 exp, .int .i64 32] (.tuple #[.int .i64 r, .bool ok]) := by
  intro w
  have HB : Below w.heap.size w w := Below.refl _ _
  rcases hE with ⟨hx, rfl⟩ | ⟨hx, rfl⟩ | ⟨hx, hx2, rfl⟩
  all_goals
    go_enter Try.func44, Try.ntmps44
    go_wp2_with fail
    refine (F.bits_of.calls 32 23 255 (-149) 2147483648 true _ rfl).mono ?_
    rintro e w1 ⟨rfl, hb1⟩
    have hk := K4.first (k0 := 23) (k1 := 255) (k2 := (-149)) (k3 := 2147483648) hb1
    clear hb1 HB
    have HK := Lib.hid hk
    clear hk
    go_wp2_with fail
    refine (hL.out _).mono ?_
    rintro e w2 ⟨rfl, rfl⟩
    go_wp2_with fail
    refine (hC.out _).mono ?_
    rintro e w2 ⟨rfl, rfl⟩
    go_wp2_with fail
    refine (hO.out _).mono ?_
    rintro e w2 ⟨rfl, rfl⟩
    obtain ⟨n, w3, hrun, hb1, hO2, out⟩ := hV.out (w1.alloc (.cells #[.int .i64 23, .int .i64 255, .int .i64 (-149), .int .i64 2147483648] 53))
    have HO2 := Lib.hid hO2
    clear hO2
    have hk := HK.out.on hb1
    clear hb1 HK
    have HK := Lib.hid hk
    clear hk
    generalize told32 n = b at *
    go_wp2_with fail
    refine (HO2.out _).mono ?_
    rintro e w2 ⟨rfl, rfl⟩
    clear hrun
    go_wp2_with fail
    cases out with
    | notFinite pn h =>
      refine (h.out _).mono ?_
      rintro e w2 ⟨rfl, hb1⟩
      have hk := HK.out.on hb1
      clear hb1 HK
      have HK := Lib.hid hk.below
      clear hk
      go_wp2_with fail
      go_ret2
      exact ⟨rfl, HK.out⟩
    | nought pn pe h =>
      refine (h.out _).mono ?_
      rintro e w2 ⟨rfl, hb1⟩
      have hk := HK.out.on hb1
      clear hb1 HK
      have HK := Lib.hid hk.below
      clear hk
      go_wp2_with fail
      go_ret2
      exact ⟨rfl, HK.out⟩
    | other pn pm pe o x o2 x2 h hm2 h1 h2 hd =>
      refine (h.out _).mono ?_
      rintro e w2 ⟨rfl, hb1⟩
      have hk := HK.out.on hb1
      clear hb1 HK
      have HK := Lib.hid hk
      clear hk
      go_wp2_with fail
      refine (h1.out _).mono ?_
      rintro e w3 ⟨rfl, hb1⟩
      have hk := HK.out.on hb1
      clear hb1 HK
      have HK := Lib.hid hk
      clear hk
      have hq : ∀ w : World, (binOp .neq 62 (.agg #[.int .i64 o, .int .i64 x]) (.agg #[.int .i64 o2, .int .i64 x2])).run Try.prog w = .ok (.bool true) w := fun w => by
        rw [neq_two]; congr 3; rw [Bool.not_eq_true', Bool.and_eq_false_imp, beq_iff_eq, beq_eq_false_iff_ne]; exact fun a b => hd.out ⟨a, b⟩
      go_wp2_with fail
      refine (h2.out _).mono ?_
      rintro e w4 ⟨rfl, hb1⟩
      have hk := HK.out.on hb1
      clear hb1 HK
      have HK := Lib.hid hk.below
      clear hk
      go_wp2_with fail
      go_ret2
      exact ⟨rfl, HK.out⟩
    | same pn pm pe o x h hm2 h1 h2 hl =>
      refine (h.out _).mono ?_
      rintro e w2 ⟨rfl, hb1⟩
      have hk := HK.out.on hb1
      clear hb1 HK
      have HK := Lib.hid hk
      clear hk
      go_wp2_with fail
      refine (h1.out _).mono ?_
      rintro e w3 ⟨rfl, hb1⟩
      have hk := HK.out.on hb1
      clear hb1 HK
      have HK := Lib.hid hk
      clear hk
      have hq : ∀ w : World, (binOp .neq 62 (.agg #[.int .i64 o, .int .i64 x]) (.agg #[.int .i64 o, .int .i64 x])).run Try.prog w = .ok (.bool false) w := fun w => by rw [neq_two]; simp
      go_wp2_with fail
      refine (h2.out _).mono ?_
      rintro e w4 ⟨rfl, hb1⟩
      have hk := HK.out.on hb1
      clear hb1 HK
      have HK := Lib.hid hk.below
      have hlow := hk.low
      clear hk
      go_wp2_with fail
      go_ret2
      exact ⟨rfl, HK.out⟩
end Go.Proofs.Ytjogbiopbobifaa
