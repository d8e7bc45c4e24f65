/- BitsNext: the cases joined. -/
import Derived.Test.YtjogbiopbobifaaNextA
namespace Go.Proofs.Ytjogbiopbobifaa
open Go.RowKit

theorem Flt.cls_three {b v : Int} (h : Flt.Pat b v) (c : Flt.cls b v = 3) : Flt.sr b v = Flt.top v ∨ Flt.sr b v = -Flt.top v := by
  rcases h with ⟨rfl, h⟩ | ⟨rfl, h⟩
  · have c' : Flt.cls64 b = 3 := c
    show Flt.sr64 b = (9218868437227405312 : Int) ∨ Flt.sr64 b = -9218868437227405312
    obtain ⟨h0, h1⟩ := h
    unfold Flt.cls64 at c'
    unfold Flt.sr64
    by_cases k : b / 4503599627370496 % 2048 = 2047
    · rw [if_pos k] at c'
      split at c'
      · split <;> omega
      · omega
    · rw [if_neg k] at c'; (repeat' split at c') <;> omega
  · have c' : Flt.cls32 b = 3 := c
    show Flt.sr32 b = (2139095040 : Int) ∨ Flt.sr32 b = -2139095040
    obtain ⟨h0, h1⟩ := Flt.valid_bounds h
    unfold Flt.cls32 at c'
    rw [if_pos h] at c'
    unfold Flt.sr32
    by_cases k : b / 8388608 % 256 = 255
    · rw [if_pos k] at c'
      split at c'
      · split <;> omega
      · omega
    · rw [if_neg k] at c'; (repeat' split at c') <;> omega
theorem Flt.at_top {b v : Int} (h : Flt.Pat b v) (ci : Flt.sr b v = Flt.top v) : Flt.cls b v = 3 ∧ Flt.nxt b v = b := by
  rcases h with ⟨rfl, h⟩ | ⟨rfl, h⟩
  · have e : Flt.sr64 b = 9218868437227405312 := ci
    obtain ⟨h0, h1⟩ := h
    have : b = Flt.inf64 := by
      unfold Flt.sr64 at e
      show b = 9218868437227405312
      split at e <;> omega
    subst this
    exact ⟨by decide, by decide⟩
  · have e : Flt.sr32 b = 2139095040 := ci
    obtain ⟨h0, h1⟩ := Flt.valid_bounds h
    have : b = Flt.inf32 := by
      unfold Flt.sr32 at e
      show b = 2139095040
      split at e <;> omega
    subst this
    exact ⟨by decide, by decide⟩
theorem Flt.top_pos {v : Int} (h : v = 64 ∨ v = 32) : 2 < Flt.top v := by rcases h with rfl | rfl <;> decide
theorem Flt.zero_pat {v : Int} (h : v = 64 ∨ v = 32) : Flt.Pat 0 v ∧ Flt.sr 0 v = 0 ∧ ¬ Flt.cls 0 v = 4 := by
  rcases h with rfl | rfl
  · exact ⟨.inl ⟨rfl, by decide, by decide⟩, by decide, by decide⟩
  · exact ⟨.inr ⟨rfl, by decide⟩, by decide, by decide⟩
theorem Flt.nless_num {a b v : Int} (c1 : ¬ Flt.cls a v = 4) (c2 : ¬ Flt.cls b v = 4) : Flt.nless a b v = decide (Flt.sr a v < Flt.sr b v) := by
  unfold Flt.nless; rw [decide_eq_false c1, decide_eq_false c2]; rfl
theorem Flt.nsame_num {a b v : Int} (c1 : ¬ Flt.cls a v = 4) (c2 : ¬ Flt.cls b v = 4) : Flt.nsame a b v = decide (Flt.sr a v = Flt.sr b v) := by
  unfold Flt.nsame; rw [decide_eq_false c1, decide_eq_false c2]; rfl

theorem bitsNext_walk (b0 c0 w0 : Int) (hb0 : Flt.I64 b0) (hc0 : Flt.I64 c0) : Tells 7 #[.int .i64 b0, .int .i64 c0, .int .i64 w0] (.bool true) := by
  have hE := Lib.hid (either_any w0)
  have pb := Flt.pat_pat b0 w0 hb0
  have pc := Flt.pat_pat c0 w0 hc0
  have hPB := Lib.hid (pattern_any b0 (Flt.eit w0))
  have hPC := Lib.hid (pattern_any c0 (Flt.eit w0))
  have hv := Flt.eit_or w0
  generalize Flt.eit w0 = v at *
  generalize Flt.pat b0 v = b at *
  generalize Flt.pat c0 v = c at *
  have ib := pb.i64
  have ic := pc.i64
  have hN := Lib.hid (next_any b v ib)
  have hA := Lib.hid (class_any b v)
  have T : ∀ (c k : Int), c = k → (c == k) = true := fun c k h => beq_iff_eq.2 h
  have N : ∀ (c k : Int), ¬ c = k → (c == k) = false := fun c k h => beq_eq_false_iff_ne.2 h
  by_cases c4 : Flt.cls b v = 4
  · have hM := class_any (Flt.nxt b v) v
    have e : Flt.cls (Flt.nxt b v) v = 4 := by
      rcases pb with ⟨rfl, _⟩ | ⟨rfl, _⟩
      · have c' : Flt.cls64 b = 4 := c4
        have : Flt.nxt b 64 = Flt.nan64 := by show Flt.nxt64 b = _; unfold Flt.nxt64; rw [if_pos c']
        rw [this]; decide
      · have c' : Flt.cls32 b = 4 := c4
        have : Flt.nxt b 32 = Flt.nan32 := by show Flt.nxt32 b = _; unfold Flt.nxt32; rw [if_pos c']
        rw [this]; decide
    rw [e] at hM
    exact nextlaw_nan b0 c0 w0 b c v _ _ 0 hE hPB hPC hN hA (T _ _ c4) (Lib.hid hM)
  · have hz := Flt.zero_pat hv
    have htp := Flt.top_pos hv
    have hL0 := less_wide b 0 v (Lib.hid hv) (Lib.hid ib) (Lib.hid hz.1.i64)
    rw [Flt.nless_num c4 hz.2.2, hz.2.1] at hL0
    by_cases ci : Flt.sr b v = Flt.top v
    · have ⟨c3, en⟩ := Flt.at_top pb ci
      rw [en] at hN
      rw [decide_eq_false (by omega)] at hL0
      exact nextlaw_inf b0 c0 w0 b c v 0 _ 0 hE hPB hPC hN hA (N _ _ c4) (T _ _ c3) (Lib.hid hL0)
    · have ⟨sn, pn⟩ := Flt.sr_nxt pb c4 ci
      have k1 := Flt.cls_of_sr pb
      have k2 := Flt.cls_of_sr pn
      have c4n : ¬ Flt.cls (Flt.nxt b v) v = 4 := by
        rw [k2, sn]; rw [k1] at c4; omega
      have hL1 := less_wide b (Flt.nxt b v) v (Lib.hid hv) (Lib.hid ib) (Lib.hid pn.i64)
      have l1 : Flt.nless b (Flt.nxt b v) v = true := by rw [Flt.nless_num c4 c4n, sn]; exact decide_eq_true (by omega)
      rw [l1] at hL1
      have hO := order_wide b (Flt.nxt b v) v hv ib pn.i64
      rw [Flt.nless_nord pb pn l1] at hO
      have hP := prev_any (Flt.nxt b v) v pn.i64
      have ⟨s1, p1, d1⟩ := Flt.sr_nneg pn c4n
      have ci1 : ¬ Flt.sr (Flt.nneg (Flt.nxt b v) v) v = Flt.top v := by
        rw [s1, sn]; rw [k1] at c4; omega
      have ⟨s2, p2⟩ := Flt.sr_nxt p1 d1 ci1
      have d2 : ¬ Flt.cls (Flt.nxt (Flt.nneg (Flt.nxt b v) v) v) v = 4 := by
        rw [Flt.cls_of_sr p2, s2, s1, sn]; rw [k1] at c4; omega
      have ⟨s3, p3, d3⟩ := Flt.sr_nneg p2 d2
      have sp : Flt.sr (Flt.nprev (Flt.nxt b v) v) v = Flt.sr b v := by
        show Flt.sr (Flt.nneg (Flt.nxt (Flt.nneg (Flt.nxt b v) v) v) v) v = _
        rw [s3, s2, s1, sn]; omega
      have hS := same_wide (Flt.nprev (Flt.nxt b v) v) b v (Lib.hid hv) (Lib.hid (show Flt.I64 (Flt.nneg (Flt.nxt (Flt.nneg (Flt.nxt b v) v) v) v) from p3.i64)) (Lib.hid ib)
      have d4 : ¬ Flt.cls (Flt.nprev (Flt.nxt b v) v) v = 4 := d3
      rw [Flt.nsame_num d4 c4, decide_eq_true sp] at hS
      have hL2 := less_wide b c v (Lib.hid hv) (Lib.hid ib) (Lib.hid ic)
      have hL3 := less_wide c (Flt.nxt b v) v (Lib.hid hv) (Lib.hid ic) (Lib.hid pn.i64)
      have key : Flt.nless b c v = true → Flt.nless c (Flt.nxt b v) v = false := by
        intro l
        by_cases cc : Flt.cls c v = 4
        · unfold Flt.nless; rw [decide_eq_true cc]; rfl
        · rw [Flt.nless_num c4 cc, decide_eq_true_iff] at l
          rw [Flt.nless_num cc c4n, sn, decide_eq_false_iff_not]; omega
      by_cases c3 : Flt.cls b v = 3
      · have neg : Flt.sr b v < 0 := by rcases Flt.cls_three pb c3 with h | h <;> omega
        rw [decide_eq_true neg] at hL0
        cases l : Flt.nless b c v
        · rw [l] at hL2
          exact nextlaw_downf b0 c0 w0 b c v _ _ _ hE hPB hPC hN hA (N _ _ c4) (T _ _ c3) (Lib.hid hL0) (Lib.hid hL1) (Lib.hid hP) (Lib.hid hS) (Lib.hid hL2) (Lib.hid hO)
        · rw [l] at hL2
          rw [key l] at hL3
          exact nextlaw_downt b0 c0 w0 b c v _ _ _ hE hPB hPC hN hA (N _ _ c4) (T _ _ c3) (Lib.hid hL0) (Lib.hid hL1) (Lib.hid hP) (Lib.hid hS) (Lib.hid hL2) (Lib.hid hL3) (Lib.hid hO)
      · cases l : Flt.nless b c v
        · rw [l] at hL2
          exact nextlaw_finf b0 c0 w0 b c v _ _ _ hE hPB hPC hN hA (N _ _ c4) (N _ _ c3) (Lib.hid hL1) (Lib.hid hP) (Lib.hid hS) (Lib.hid hL2) (Lib.hid hO)
        · rw [l] at hL2
          rw [key l] at hL3
          exact nextlaw_fint b0 c0 w0 b c v _ _ _ hE hPB hPC hN hA (N _ _ c4) (N _ _ c3) (Lib.hid hL1) (Lib.hid hP) (Lib.hid hS) (Lib.hid hL2) (Lib.hid hL3) (Lib.hid hO)
end Go.Proofs.Ytjogbiopbobifaa
