import Derived.Test.YtjogbiopbobifaaFBase
namespace Go.Proofs.Ytjogbiopbobifaa.F
open Go.RowKit Go.Proofs.YtjogbiopbobifaaW.PrintWords Go.Proofs.YtjogbiopbobifaaW.PrintLast Go.Proofs.YtjogbiopbobifaaW.PrintMore
attribute [local go_sem] max2_int min2_int max_two min_two max_three min_three max_four min_four   -- for this text's walks alone
set_option linter.unusedVariables false
set_option linter.unusedSimpArgs false

/-! ### pupillaw1_either: function 22 -/
def pupillaw1_either.f (a0 : Int) : Option (Int) := some (wrap64 (32 + (wrap64 (32 * (Go.bits .and .i64 a0 1)))))
set_option maxHeartbeats 8000000 in
set_option maxRecDepth 100000 in
theorem pupillaw1_either.calls (a0 : Int) (r : Int) (w : World) (h : pupillaw1_either.f a0 = some r) :
    Calls Try.prog 22 #[.int .i64 a0] w fun e w' => e = .returned (.int .i64 r) ∧ Drawn0 w w' := by
  have H : (some (wrap64 (32 + (wrap64 (32 * (Go.bits .and .i64 a0 1)))))) = some r := h
  clear h
  obtain rfl := Option.some.inj H
  go_enter Try.func22, Try.ntmps22
  go_wp2
  go_ret
  exact ⟨by first | rfl | (simp; done) | (simp [*]; done), by repeat (first | exact Drawn0.refl _ | apply Drawn0.step)⟩

end Go.Proofs.Ytjogbiopbobifaa.F
