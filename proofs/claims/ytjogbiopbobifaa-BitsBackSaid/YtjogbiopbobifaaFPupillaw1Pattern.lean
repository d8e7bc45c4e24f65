import Derived.Test.YtjogbiopbobifaaFBase
namespace Go.Proofs.Ytjogbiopbobifaa.F
open Go.RowKit Go.Proofs.YtjogbiopbobifaaW.PrintWords Go.Proofs.YtjogbiopbobifaaW.PrintLast Go.Proofs.YtjogbiopbobifaaW.PrintMore
attribute [local go_sem] max2_int min2_int max_two min_two max_three min_three max_four min_four   -- for this text's walks alone
set_option linter.unusedVariables false
set_option linter.unusedSimpArgs false

/-! ### pupillaw1_pattern: function 23 -/
def pupillaw1_pattern.f (a0 : Int) (a1 : Int) : Option (Int) := if a1 = 32 then (some (Go.bits .and .i64 a0 4294967295)) else (some a0)
set_option maxHeartbeats 8000000 in
set_option maxRecDepth 100000 in
theorem pupillaw1_pattern.calls (a0 : Int) (a1 : Int) (r : Int) (w : World) (h : pupillaw1_pattern.f a0 a1 = some r) :
    Calls Try.prog 23 #[.int .i64 a0, .int .i64 a1] w fun e w' => e = .returned (.int .i64 r) ∧ Drawn0 w w' := by
  have H : (if a1 = 32 then (some (Go.bits .and .i64 a0 4294967295)) else (some a0)) = some r := h
  clear h
  by_cases c3 : a1 = 32
  · rw [if_pos c3] at H
    have c3b0 : (a1 == 32) = true := beq_iff_eq.mpr c3
    have c3b1 : (a1 != 32) = false := bne_eq_false_iff_eq.mpr c3
    clear c3
    obtain rfl := Option.some.inj H
    go_enter Try.func23, Try.ntmps23
    go_wp2
    go_ret
    exact ⟨by first | rfl | (simp; done) | (simp [*]; done), by repeat (first | exact Drawn0.refl _ | apply Drawn0.step)⟩
  · rw [if_neg c3] at H
    have c3b0 : (a1 == 32) = false := beq_eq_false_iff_ne.mpr c3
    have c3b1 : (a1 != 32) = true := bne_iff_ne.mpr c3
    obtain rfl := Option.some.inj H
    go_enter Try.func23, Try.ntmps23
    go_wp2
    go_ret
    exact ⟨by first | rfl | (simp; done) | (simp [*]; done), by repeat (first | exact Drawn0.refl _ | apply Drawn0.step)⟩

end Go.Proofs.Ytjogbiopbobifaa.F
