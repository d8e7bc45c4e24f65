/- Walks: the odd number and its exponent. -/
import Derived.Test.YtjogbiopbobifaaJoinA
namespace Go.Proofs.Ytjogbiopbobifaa
open Go.RowKit

/-- what is left after j rounds -/
def redV (o t j : Nat) : Int := ((o * 2 ^ (t - j) : Nat) : Int)
def RedAt (o t : Nat) (e : Int) (a b : Value) : Prop := ∃ j : Nat, j ≤ t ∧ a = .int .i64 (redV o t j) ∧ b = .int .i64 (e + j)
theorem red_even (o t j : Nat) (h : j < t) : bits .and .i64 (redV o t j) 1 = 0 := by
  unfold redV
  rw [Flt.i64_and_mask _ 1 (by omega) 1 (by decide), show t - j = (t - j - 1) + 1 by omega]
  have e : (2 : Int) ^ 1 = 2 := rfl
  rw [e, Nat.pow_succ, ← Nat.mul_assoc]
  omega
theorem redV_end (o t : Nat) : redV o t t = o := by unfold redV; simp
theorem red_odd (o t : Nat) (h : o % 2 = 1) : bits .and .i64 (redV o t t) 1 = 1 := by
  rw [redV_end, Flt.i64_and_mask _ 1 (by omega) 1 (by decide)]
  have e : (2 : Int) ^ 1 = 2 := rfl
  rw [e]
  omega
theorem red_next (o t j : Nat) (h : j < t) : redV o t j / 2 = redV o t (j + 1) := by
  unfold redV
  rw [show t - j = (t - (j + 1)) + 1 by omega, Nat.pow_succ, ← Nat.mul_assoc]
  omega
theorem redV_nonneg (o t j : Nat) : 0 ≤ redV o t j := by unfold redV; omega

set_option maxRecDepth 100000 in
set_option maxHeartbeats 1000000 in
theorem reduced_at (m : Int) (o t : Nat) (e : Int) (hm : Hid (m = redV o t 0)) (ho : Hid (o % 2 = 1)) (e0 : -10000 ≤ e) (e1 : e ≤ 10000) (ht : t ≤ 63) :
    Tells 94 #[.int .i64 m, .int .i64 e] (.agg #[.int .i64 (o : Int), .int .i64 (e + (t : Int))]) := by
  intro w
  go_enter Try.func94, Try.ntmps94
  go_wp2
  go_loop [0, 1] (fun a b => RedAt o t e a b) (fun _ b => (e + t - intOf b).toNat)
  case atStart => exact ⟨0, Nat.zero_le _, congrArg (Value.int .i64) hm.out, by simp⟩
  case round =>
    obtain ⟨j, hj, rfl, rfl⟩ := hrel
    have hn := redV_nonneg o t j
    by_cases hlt : j < t
    · have h1 : (bits .and .i64 (redV o t j) 1 == 0) = true := by rw [red_even o t j hlt]; rfl
      go_wp2
      go_round
      case rel => exact ⟨j + 1, by omega, congrArg (Value.int .i64) (red_next o t j hlt), by go_num⟩
      case measure => simp [intOf]; omega
    · obtain rfl : j = t := by omega
      have h1 : (bits .and .i64 (redV o j j) 1 == 0) = false := by rw [red_odd o j ho.out]; rfl
      go_wp2
      refine bodyPost_ret (v := .agg #[.int .i64 (redV o j j), .int .i64 (e + (j : Int))]) (by simp [results, Try.results94, go_sem]) rfl ⟨?_, ?_⟩
      · rw [redV_end]
      · exact ((Below.refl _ _).alloc (Nat.le_refl _) _)
theorem reduced_any (m : Int) (o t : Nat) (e : Int) (hm : m = ((o * 2 ^ t : Nat) : Int)) (ho : o % 2 = 1) (e0 : -10000 ≤ e) (e1 : e ≤ 10000) (ht : t ≤ 63) :
    Tells 94 #[.int .i64 m, .int .i64 e] (.agg #[.int .i64 (o : Int), .int .i64 (e + (t : Int))]) :=
  reduced_at m o t e (Lib.hid hm) (Lib.hid ho) e0 e1 ht
end Go.Proofs.Ytjogbiopbobifaa
