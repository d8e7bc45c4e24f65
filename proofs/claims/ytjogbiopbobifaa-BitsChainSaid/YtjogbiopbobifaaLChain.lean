/- BitsChain: the cases joined. -/
import Derived.Test.YtjogbiopbobifaaChainA
import Derived.Test.YtjogbiopbobifaaRefA
namespace Go.Proofs.Ytjogbiopbobifaa
open Go.RowKit

theorem cls_nanw (v : Int) (hv : v = 64 ∨ v = 32) : Flt.cls (Flt.nanw v) v = 4 := by rcases hv with rfl | rfl <;> decide
theorem bitsChain_walk (a0 b0 c0 w0 : Int) (ha0 : Flt.I64 a0) (hb0 : Flt.I64 b0) (hc0 : Flt.I64 c0) : Tells 6 #[.int .i64 a0, .int .i64 b0, .int .i64 c0, .int .i64 w0] (.bool true) := by
  have hE := either_any w0
  have pa := Flt.pat_pat a0 w0 ha0
  have pb := Flt.pat_pat b0 w0 hb0
  have pc := Flt.pat_pat c0 w0 hc0
  have hPA := pattern_any a0 (Flt.eit w0)
  have hPB := pattern_any b0 (Flt.eit w0)
  have hPC := pattern_any c0 (Flt.eit w0)
  have hv := Flt.eit_or w0
  generalize Flt.eit w0 = v at *
  generalize Flt.pat a0 v = a at *
  generalize Flt.pat b0 v = b at *
  generalize Flt.pat c0 v = c at *
  have ia := pa.i64
  have ib := pb.i64
  have ic := pc.i64
  have hX := order_wide a b v hv ia ib
  have hY := order_wide b a v hv ib ia
  have hZ := order_wide b c v hv ib ic
  have hU := order_wide a c v hv ia ic
  have hL := less_wide a b v (Lib.hid hv) (Lib.hid ia) (Lib.hid ib)
  have hLo := min_any a b v ia ib
  have hHi := max_any a b v ia ib
  have hA := class_any a v
  have hB := class_any b v
  have hN := class_any (Flt.nanw v) v
  rw [cls_nanw v hv] at hN
  have hw : Flt.isW v = true := by rcases hv with rfl | rfl <;> decide
  have tr := Flt.nord_trans a b c v
  have tn := Flt.nord_turn b a v
  have lx : Flt.nless a b v = true → Flt.nord a b v = -1 := Flt.nless_nord pa pb
  unfold Flt.pickv at hLo hHi
  rw [if_pos hw] at hLo hHi
  have T : ∀ c : Int, c = 4 → (c == 4) = true := fun c h => beq_iff_eq.2 h
  have N : ∀ c : Int, ¬ c = 4 → (c == 4) = false := fun c h => beq_eq_false_iff_ne.2 h
  have uq : Flt.nord a b v ≤ 0 → Flt.nord b c v ≤ 0 → decide (0 < Flt.nord a c v) = false := fun h k => decide_eq_false (by have := tr h k; omega)
  by_cases c1 : Flt.cls a v = 4
  · rw [if_pos (.inl c1)] at hLo hHi
    by_cases c2 : Flt.cls b v = 4
    · have x : Flt.nord a b v = 0 := by unfold Flt.nord; rw [if_pos c1, if_pos c2]
      have l : Flt.nless a b v = false := Bool.eq_false_iff.2 fun h => by have := lx h; omega
      rw [x] at hX tn
      rw [tn] at hY
      rw [l] at hL
      by_cases zq : Flt.nord b c v ≤ 0
      · exact chain_nnt a0 b0 c0 w0 a b c v _ _ _ 0 _ false (Lib.hid hE) (Lib.hid hPA) (Lib.hid hPB) (Lib.hid hPC) (Lib.hid hX) (Lib.hid hY) (Lib.hid hL) (Lib.hid hZ) (decide_eq_true zq) (Lib.hid hU) (uq (by omega) zq) (Lib.hid hLo) (Lib.hid hHi) (Lib.hid hA) (T _ c1) (Lib.hid hN)
      · exact chain_nnf a0 b0 c0 w0 a b c v _ 0 _ 0 _ false (Lib.hid hE) (Lib.hid hPA) (Lib.hid hPB) (Lib.hid hPC) (Lib.hid hX) (Lib.hid hY) (Lib.hid hL) (Lib.hid hZ) (decide_eq_false zq) (Lib.hid hLo) (Lib.hid hHi) (Lib.hid hA) (T _ c1) (Lib.hid hN)
    · have x : Flt.nord a b v = 1 := by unfold Flt.nord; rw [if_pos c1, if_neg c2]
      have l : Flt.nless a b v = false := Bool.eq_false_iff.2 fun h => by have := lx h; omega
      rw [x] at hX tn
      rw [tn] at hY
      rw [l] at hL
      exact chain_nx a0 b0 c0 w0 a b c v 0 0 _ 0 _ false (Lib.hid hE) (Lib.hid hPA) (Lib.hid hPB) (Lib.hid hPC) (Lib.hid hX) (Lib.hid hY) (Lib.hid hL) (Lib.hid hLo) (Lib.hid hHi) (Lib.hid hA) (T _ c1) (Lib.hid hN)
  · by_cases c2 : Flt.cls b v = 4
    · rw [if_pos (.inr c2)] at hLo hHi
      have x : Flt.nord a b v = -1 := by unfold Flt.nord; rw [if_neg c1, if_pos c2]
      rw [x] at hX tn
      rw [tn] at hY
      by_cases zq : Flt.nord b c v ≤ 0
      · exact chain_xnt a0 b0 c0 w0 a b c v _ _ _ _ _ _ (Lib.hid hE) (Lib.hid hPA) (Lib.hid hPB) (Lib.hid hPC) (Lib.hid hX) (Lib.hid hY) (Lib.hid hL) (Lib.hid hZ) (decide_eq_true zq) (Lib.hid hU) (uq (by omega) zq) (Lib.hid hLo) (Lib.hid hHi) (Lib.hid hA) (N _ c1) (Lib.hid hB) (T _ c2) (Lib.hid hN)
      · exact chain_xnf a0 b0 c0 w0 a b c v _ 0 _ _ _ _ (Lib.hid hE) (Lib.hid hPA) (Lib.hid hPB) (Lib.hid hPC) (Lib.hid hX) (Lib.hid hY) (Lib.hid hL) (Lib.hid hZ) (decide_eq_false zq) (Lib.hid hLo) (Lib.hid hHi) (Lib.hid hA) (N _ c1) (Lib.hid hB) (T _ c2) (Lib.hid hN)
    · rw [if_neg (fun h => h.elim c1 c2)] at hLo hHi
      rcases Flt.nord_range a b v with x | x | x
      · rw [x] at hX tn hLo hHi
        rw [tn] at hY
        rw [if_neg (by decide)] at hLo
        rw [if_pos rfl] at hHi
        by_cases zq : Flt.nord b c v ≤ 0
        · exact chain_ltt a0 b0 c0 w0 a b c v _ _ _ _ 0 _ (Lib.hid hE) (Lib.hid hPA) (Lib.hid hPB) (Lib.hid hPC) (Lib.hid hX) (Lib.hid hY) (Lib.hid hL) (Lib.hid hZ) (decide_eq_true zq) (Lib.hid hU) (uq (by omega) zq) (Lib.hid hLo) (Lib.hid hHi) (Lib.hid hA) (N _ c1) (Lib.hid hB) (N _ c2)
        · exact chain_ltf a0 b0 c0 w0 a b c v _ 0 _ _ 0 _ (Lib.hid hE) (Lib.hid hPA) (Lib.hid hPB) (Lib.hid hPC) (Lib.hid hX) (Lib.hid hY) (Lib.hid hL) (Lib.hid hZ) (decide_eq_false zq) (Lib.hid hLo) (Lib.hid hHi) (Lib.hid hA) (N _ c1) (Lib.hid hB) (N _ c2)
      · have e : a = b := by
          refine Flt.place_inj pa pb ?_
          unfold Flt.nord at x
          rw [if_neg c1, if_neg c2] at x
          omega
        have l : Flt.nless a b v = false := Bool.eq_false_iff.2 fun h => by have := lx h; omega
        rw [x] at hX tn hLo hHi
        rw [tn] at hY
        rw [l] at hL
        rw [if_neg (by decide)] at hLo hHi
        have hHi' : Tells 27 #[.int .i64 a, .int .i64 b, .int .i64 v] (.int .i64 b) := by
          have t := hHi
          revert t
          generalize hq : (Value.int IntKind.i64 a) = q at *
          rw [e] at hq
          rw [hq]
          exact fun t => t
        by_cases zq : Flt.nord b c v ≤ 0
        · exact chain_eqt a0 b0 c0 w0 a b c v _ _ _ _ 0 false (Lib.hid hE) (Lib.hid hPA) (Lib.hid hPB) (Lib.hid hPC) (Lib.hid hX) (Lib.hid hY) (Lib.hid hL) (Lib.hid hZ) (decide_eq_true zq) (Lib.hid hU) (uq (by omega) zq) (Lib.hid hLo) (Lib.hid hHi') (Lib.hid hA) (N _ c1) (Lib.hid hB) (N _ c2)
        · exact chain_eqf a0 b0 c0 w0 a b c v _ 0 _ _ 0 false (Lib.hid hE) (Lib.hid hPA) (Lib.hid hPB) (Lib.hid hPC) (Lib.hid hX) (Lib.hid hY) (Lib.hid hL) (Lib.hid hZ) (decide_eq_false zq) (Lib.hid hLo) (Lib.hid hHi') (Lib.hid hA) (N _ c1) (Lib.hid hB) (N _ c2)
      · have l : Flt.nless a b v = false := Bool.eq_false_iff.2 fun h => by have := lx h; omega
        have ne : (b == a) = false := by
          rw [beq_eq_false_iff_ne]
          rintro rfl
          rw [x] at tn; omega
        rw [x] at hX tn hLo hHi
        rw [tn] at hY
        rw [l] at hL
        rw [if_pos rfl] at hLo
        rw [if_neg (by decide)] at hHi
        exact chain_gt a0 b0 c0 w0 a b c v 0 0 _ _ 0 false (Lib.hid hE) (Lib.hid hPA) (Lib.hid hPB) (Lib.hid hPC) (Lib.hid hX) (Lib.hid hY) (Lib.hid hL) (Lib.hid hLo) (Lib.hid hHi) (Lib.hid hA) (N _ c1) (Lib.hid hB) (N _ c2) ne
end Go.Proofs.Ytjogbiopbobifaa
