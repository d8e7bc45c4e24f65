/- Part 20 of the walk: LawBp LawR LawS LawT ExW0 NumA NumOpen LawMi ExW. -/
import Derived.Test.YtlfmgdpbjapdjaaGreatFmtBesafterPt19
import Derived.Test.YtlfmgdpbjapdjaaGreatFmtBesafterPt17
import Derived.Test.YtlfmgdpbjapdjaaGreatFmtBesafterPt15
import Derived.Test.YtlfmgdpbjapdjaaGreatFmtBesafterPt12
import Derived.Lib.SmallJoins
import Derived.ChangeSlices
import Derived.ProofKit
namespace Go.Proofs.YtlfmgdpbjapdjaaGreatFmtBesafter
open Go.RowKit
def Sc (s z e m : Int) : Prop := (z = 0 ∧ m = 0) ∨ ∃ j : Nat, (j : Int) = e + s ∧ m = z * 2 ^ j
theorem Sc.neg {s z e m : Int} (h : Sc s z e m) : Sc s (-z) e (-m) := by
  rcases h with ⟨rfl, rfl⟩ | ⟨j, hj, rfl⟩
  · exact .inl ⟨rfl, rfl⟩
  · exact .inr ⟨j, hj, (Int.neg_mul _ _).symm⟩
theorem Sc.sign {s z e m : Int} (h : Sc s z e m) : z.sign = m.sign := by
  rcases h with ⟨rfl, rfl⟩ | ⟨j, _, rfl⟩
  · rfl
  · rw [Int.sign_mul, Int.sign_eq_one_of_pos (Int.pow_pos (by omega)), Int.mul_one]
theorem Sc.zero {s z e m : Int} (h : Sc s z e m) (hz : z = 0) : m = 0 := by
  rcases h with ⟨_, h⟩ | ⟨j, _, h⟩
  · exact h
  · rw [h, hz, Int.zero_mul]
theorem Sc.sum {s z1 e1 m1 z2 e2 m2 : Int} (h1 : Sc s z1 e1 m1) (h2 : Sc s z2 e2 m2) : Sc s (sumZ z1 e1 z2 e2) (sumE z1 e1 z2 e2) (m1 + m2) := by
  unfold sumZ sumE
  by_cases n1 : z1 = 0
  · rw [if_pos n1, if_pos n1, h1.zero n1, Int.zero_add]
    by_cases n2 : z2 = 0
    · exact .inl ⟨n2, h2.zero n2⟩
    · rw [if_neg n2]; exact h2
  · rw [if_neg n1, if_neg n1]
    by_cases n2 : z2 = 0
    · rw [if_pos n2, if_pos n2, h2.zero n2, Int.add_zero]; exact h1
    · rw [if_neg n2, if_neg n2]
      obtain ⟨j1, a1, rfl⟩ := h1.resolve_left (fun h => n1 h.1)
      obtain ⟨j2, a2, rfl⟩ := h2.resolve_left (fun h => n2 h.1)
      obtain ⟨j, hj⟩ : ∃ j : Nat, (j : Int) = min e1 e2 + s := ⟨(min e1 e2 + s).toNat, by omega⟩
      refine .inr ⟨j, hj, ?_⟩
      rw [Int.add_mul, Int.mul_assoc, Int.mul_assoc, ← Int.pow_add, ← Int.pow_add, show (e1 - min e1 e2).toNat + j = j1 by omega, show (e2 - min e1 e2).toNat + j = j2 by omega]
theorem Sc.up {s z e z' m : Int} (t : Nat) (h : Sc s z e m) (hz : z = z' * 2 ^ t) : Sc s z' (e + t) m := by
  subst hz
  rcases h with ⟨h0, rfl⟩ | ⟨j, hj, rfl⟩
  · refine .inl ⟨?_, rfl⟩
    rcases Int.mul_eq_zero.1 h0 with h | h
    · exact h
    · have : (0 : Int) < 2 ^ t := Int.pow_pos (by omega)
      omega
  · exact .inr ⟨j + t, by omega, by rw [Int.mul_assoc, ← Int.pow_add, Nat.add_comm]⟩
def svl (v : Int) (t : Nat) (n : Bool) (r : Nat) : Int := if n = true then -((Flt.val (wB v) r : Int) * 2 ^ t) else (Flt.val (wB v) r : Int) * 2 ^ t
theorem val_zero (B : Nat) (hB : 0 < B) : Flt.val B 0 = 0 := by unfold Flt.val; rw [if_pos hB]
theorem pat_zero (v : Int) (n : Bool) : pat v n 0 = 0 := by unfold pat; rw [if_pos rfl]
theorem pat_fin (v : Int) (n : Bool) (r : Nat) (hv : v = 64 ∨ v = 32) (hr : r < wI v) : Flt.fin (pat v n r) v = true := by
  by_cases h0 : r = 0
  · subst h0; rw [pat_zero]; rcases hv with rfl | rfl <;> decide +kernel
  · rcases hv with rfl | rfl
    · rw [pat_b64 h0]
      have hr' : r < 9218868437227405312 := hr
      have hc : Flt.cls64 (b64 n r) ≤ 2 := by
        unfold Flt.cls64 b64
        cases n
        · simp only [Bool.false_eq_true, if_false]
          split
          · omega
          · split
            · split <;> omega
            · omega
        · simp only [if_true]
          split
          · omega
          · split
            · split <;> omega
            · omega
      show (true && decide (Flt.cls64 (b64 n r) ≤ 2)) = true
      rw [decide_eq_true hc]; rfl
    · rw [pat_b32 h0]
      have hr' : r < 2139095040 := hr
      have hc : Flt.cls32 (b32 n r) ≤ 2 := by
        unfold Flt.cls32 b32 Flt.valid32
        cases n
        · simp only [Bool.false_eq_true, if_false]
          rw [if_pos (show (decide (0 ≤ (r : Int)) && decide ((r : Int) < 4294967296)) = true by simp; omega)]
          split
          · omega
          · split
            · split <;> omega
            · omega
        · simp only [if_true]
          rw [if_pos (show (decide (0 ≤ (r : Int) + 2147483648) && decide ((r : Int) + 2147483648 < 4294967296)) = true by simp; omega)]
          split
          · omega
          · split
            · split <;> omega
            · omega
      show (true && decide (Flt.cls32 (b32 n r) ≤ 2)) = true
      rw [decide_eq_true hc]; rfl
theorem pat_inf (v : Int) (n : Bool) (hv : v = 64 ∨ v = 32) : Flt.fin (pat v n (wI v)) v = false := by
  rcases hv with rfl | rfl <;> cases n <;> decide +kernel
theorem pat_parts (v : Int) (n : Bool) (r : Nat) (hv : v = 64 ∨ v = 32) (hr : r < wI v) : ∃ k : Nat, Flt.exp (pat v n r) v = k - wL v ∧ Flt.mag (pat v n r) v * 2 ^ k = Flt.val (wB v) r ∧ (r ≠ 0 → Flt.neg (pat v n r) v = n) := by
  have hI := pat_I v n r hv (by omega)
  have hf := pat_fin v n r hv hr
  rcases hv with rfl | rfl
  · obtain ⟨_, h2, h3⟩ := Flt.parts64_rung _ hI hf
    have hr' : r < 9218868437227405312 := hr
    have e : Flt.rung64 (pat 64 n r) = r := by
      unfold Flt.rung64
      by_cases h0 : r = 0
      · subst h0; rw [pat_zero]; rfl
      · rw [pat_b64 h0]; unfold b64; cases n <;> simp <;> omega
    rw [e] at h2 h3
    refine ⟨Flt.ex Ieee.double r, ?_, ?_, fun h0 => ?_⟩
    · show Flt.exp64 _ = _
      rw [h3, Flt.dplace, show wL 64 = 1074 from rfl]; omega
    · show Flt.mag64 _ * _ = _
      have := Flt.val_eq Ieee.double r
      rw [Flt.dfields.2.2] at this
      rw [h2, show wB 64 = 4503599627370496 from rfl, this, Int.natCast_mul, Int.natCast_pow]; rfl
    · show Flt.neg64 _ = n
      rw [pat_b64 h0]; unfold Flt.neg64 b64; cases n
      · simp
      · simp; omega
  · have hr' : r < 2139095040 := hr
    have hval : Flt.valid32 (pat 32 n r) = true := by
      by_cases h0 : r = 0
      · subst h0; rw [pat_zero]; rfl
      · rw [pat_b32 h0]; unfold Flt.valid32 b32; cases n <;> simp <;> omega
    obtain ⟨_, h2, h3⟩ := Flt.parts32_rung _ hval hf
    have e : Flt.rung32 (pat 32 n r) = r := by
      unfold Flt.rung32
      by_cases h0 : r = 0
      · subst h0; rw [pat_zero]; rfl
      · rw [pat_b32 h0]; unfold b32; cases n <;> simp <;> omega
    rw [e] at h2 h3
    refine ⟨Flt.ex Ieee.single r, ?_, ?_, fun h0 => ?_⟩
    · show Flt.exp32 _ = _
      rw [h3, Flt.splace, show wL 32 = 149 from rfl]; omega
    · show Flt.mag32 _ * _ = _
      have := Flt.val_eq Ieee.single r
      rw [Flt.sfields.2.2] at this
      rw [h2, show wB 32 = 8388608 from rfl, this, Int.natCast_mul, Int.natCast_pow]; rfl
    · show Flt.neg32 _ = n
      rw [pat_b32 h0]; unfold Flt.neg32 b32; cases n
      · simp; omega
      · simp; omega
theorem nxt_pat_pos (v : Int) (r : Nat) (hv : v = 64 ∨ v = 32) (hr : r < wI v) : Flt.ncan (Flt.nxt (pat v false r) v) v = pat v false (r + 1) := by
  have e : ∀ v : Int, pat v false r = r := fun v => by unfold pat; split <;> simp_all
  rcases hv with rfl | rfl
  · rw [e 64, show ((r : Int)) = b64 false r from rfl, nxt_pos64 r hr]; exact ncan_b64 _ _ hr
  · rw [e 32, show ((r : Int)) = b32 false r from rfl, nxt_pos32 r hr]; exact ncan_b32 _ _ hr
theorem nxt_pat_neg (v : Int) (r : Nat) (hv : v = 64 ∨ v = 32) (hr : r < wI v) : Flt.ncan (Flt.nxt (pat v true (r + 1)) v) v = pat v true r := by
  rcases hv with rfl | rfl
  · rw [pat_b64 (by omega), nxt_neg64 (r + 1) (by omega) hr]; exact ncan_b64 _ _ (Nat.le_of_lt hr)
  · rw [pat_b32 (by omega), nxt_neg32 (r + 1) (by omega) hr]; exact ncan_b32 _ _ (Nat.le_of_lt hr)
theorem pat_even (v : Int) (n : Bool) (r : Nat) (hv : v = 64 ∨ v = 32) (hr : r ≤ wI v) (h : r % 2 = 0) : bits .and .i64 (pat v n r) 1 = 0 := by
  rw [Flt.i64_and_mask _ 1 (by omega) 1 (by decide), show (2 : Int) ^ 1 = 2 from rfl]
  unfold pat
  by_cases h0 : r = 0
  · rw [if_pos h0]; rfl
  · rw [if_neg h0]
    rcases hv with rfl | rfl
    · cases n <;> simp <;> omega
    · cases n <;> simp <;> omega
theorem cell {B I : Nat} {x s : Int} {rd ru rn : Nat} {o1 o2 o3 : Bool} (hB : 0 < B) (hI : 0 < I) (hx : 0 < x) (hd : Rd B I 1 x s rd o1) (hu : Rd B I 2 x s ru o2) (hn : Rd B I 0 x s rn o3) :
    o1 = o2 ∧ o1 = o3 ∧ ∃ i t : Nat, (i : Int) - t = s ∧
      ((o1 = false ∧ rd < I ∧ ru = rd ∧ rn = rd ∧ x * 2 ^ i = (Flt.val B rd : Int) * 2 ^ t) ∨
      (o1 = true ∧ rd < I ∧ ru = rd + 1 ∧ (rn = rd ∨ rn = rd + 1) ∧ (Flt.val B rd : Int) * 2 ^ t < x * 2 ^ i ∧
        (rd + 1 < I → x * 2 ^ i < (Flt.val B (rd + 1) : Int) * 2 ^ t ∧ (rn = rd → 2 * (x * 2 ^ i) ≤ (Flt.val B rd : Int) * 2 ^ t + (Flt.val B (rd + 1) : Int) * 2 ^ t) ∧ (rn = rd + 1 → (Flt.val B rd : Int) * 2 ^ t + (Flt.val B (rd + 1) : Int) * 2 ^ t ≤ 2 * (x * 2 ^ i)) ∧ ((Flt.val B rd : Int) * 2 ^ t + (Flt.val B (rd + 1) : Int) * 2 ^ t = 2 * (x * 2 ^ i) → rn % 2 = 0)))) := by
  rcases hd with ⟨h0, _⟩ | ⟨_, K, up, ex, hNR, rfl, rfl⟩
  · omega
  have hu2 : Rd B I 2 x s (rung I 2 K up ex) (!(ex && decide (K < I))) := .inr ⟨hx, K, up, ex, hNR, rfl, rfl⟩
  have hn2 : Rd B I 0 x s (rung I 0 K up ex) (!(ex && decide (K < I))) := .inr ⟨hx, K, up, ex, hNR, rfl, rfl⟩
  obtain ⟨rfl, rfl⟩ := hu.unique hB hu2
  obtain ⟨rfl, rfl⟩ := hn.unique hB hn2
  clear hu hn hu2 hn2
  obtain ⟨i, t, his, hN⟩ := hNR
  refine ⟨rfl, rfl, i, t, his, ?_⟩
  have hH : (0 : Int) < 2 ^ t := Int.pow_pos (by omega)
  have hlt : ∀ a b : Nat, a < b → (Flt.val B a : Int) * 2 ^ t < (Flt.val B b : Int) * 2 ^ t := fun a b h => Int.mul_lt_mul_of_pos_right (by have := Flt.val_lt_of_lt hB h; omega) hH
  have hle : ∀ a b : Nat, a ≤ b → (Flt.val B a : Int) * 2 ^ t ≤ (Flt.val B b : Int) * 2 ^ t := fun a b h => by
    rcases Nat.lt_or_ge a b with h2 | h2
    · exact Int.le_of_lt (hlt a b h2)
    · rw [show a = b by omega]; exact Int.le_refl _
  have e1 : rung I 1 K up ex = min (if up = true then K - 1 else K) (I - 1) := by unfold rung; rw [if_pos rfl]
  have e2 : rung I 2 K up ex = min (if up = true ∨ ex = true then K else K + 1) I := by unfold rung; rw [if_neg (by decide), if_pos rfl]
  have e0 : rung I 0 K up ex = min K I := by unfold rung; rw [if_neg (by decide), if_neg (by decide)]
  rw [e1, e2, e0]
  clear e1 e2 e0
  have hxx := hN.exact
  have hnb := hN.not_both
  by_cases hK : I ≤ K
  · have r1 : min (if up = true then K - 1 else K) (I - 1) = I - 1 := by split <;> omega
    have r2 : min (if up = true ∨ ex = true then K else K + 1) I = I := by split <;> omega
    rw [r1, r2, show min K I = I by omega, decide_eq_false (show ¬ K < I by omega), Bool.and_false]
    refine .inr ⟨rfl, by omega, by omega, .inr (by omega), ?_, fun h => by omega⟩
    cases up
    · have b1 := (hN.below rfl).1
      have c1 := hlt (I - 1) I (by omega)
      have c2 := hle I K hK
      omega
    · obtain ⟨a0, a1, a2, a3, _⟩ := hN.above rfl
      rw [Int.add_mul] at a3
      have c1 := hle (I - 1) (K - 1) (by omega)
      have c2 := hlt (K - 1) K (by omega)
      omega
  · rw [decide_eq_true (show K < I by omega), Bool.and_true, show min K I = K by omega]
    cases up
    · obtain ⟨b1, b2, b3, b4⟩ := hN.below rfl
      rw [Int.add_mul] at b3 b4
      cases ex
      · have hne : ¬ x * 2 ^ i = (Flt.val B K : Int) * 2 ^ t := fun h => by have := hxx.2 h; cases this
        have r1 : min (if false = true then K - 1 else K) (I - 1) = K := by simp; omega
        have r2 : min (if false = true ∨ false = true then K else K + 1) I = K + 1 := by simp; omega
        rw [r1, r2]
        exact .inr ⟨rfl, by omega, rfl, .inl rfl, by omega, fun _ => ⟨b2, fun _ => b3, fun h => by omega, fun h => b4 h.symm⟩⟩
      · have r1 : min (if false = true then K - 1 else K) (I - 1) = K := by simp; omega
        have r2 : min (if false = true ∨ true = true then K else K + 1) I = K := by simp; omega
        rw [r1, r2]
        exact .inl ⟨rfl, by omega, rfl, rfl, hxx.1 rfl⟩
    · obtain ⟨rfl, _⟩ := hnb rfl
      obtain ⟨a0, a1, a2, a3, a4⟩ := hN.above rfl
      rw [Int.add_mul] at a3 a4
      have c2 := hlt (K - 1) K (by omega)
      have r1 : min (if true = true then K - 1 else K) (I - 1) = K - 1 := by simp; omega
      have r2 : min (if true = true ∨ false = true then K else K + 1) I = K := by simp; omega
      rw [r1, r2]
      have e : K - 1 + 1 = K := by omega
      refine .inr ⟨rfl, by omega, by omega, .inr (by omega), by omega, fun _ => ?_⟩
      rw [e]
      exact ⟨a2, fun h => by omega, fun _ => a3, fun h => a4 h⟩
theorem wI_pos (v : Int) : 0 < wI v := by unfold wI; split <;> decide
theorem between {v z e cd cu cn : Int} {o1 o2 o3 : Bool} (hv : v = 64 ∨ v = 32) (h1 : RSpec v 1 z e cd o1) (h2 : RSpec v 2 z e cu o2) (h3 : RSpec v 0 z e cn o3) :
    o1 = o2 ∧ o1 = o3 ∧ ∃ (n : Bool) (t : Nat) (Y : Int) (rd ru rn : Nat), Sc (wL v + t) z e Y ∧ cd = pat v n rd ∧ cu = pat v n ru ∧ cn = pat v n rn ∧ rd ≤ wI v ∧ ru ≤ wI v ∧ rn ≤ wI v ∧
      ((o1 = false ∧ rd < wI v ∧ ru = rd ∧ rn = rd ∧ Y = svl v t n rd) ∨
      (o1 = true ∧ Flt.ncan (Flt.nxt cd v) v = cu ∧ (rn = rd ∨ rn = ru) ∧ (rd < wI v → svl v t n rd < Y) ∧ (rd = wI v → n = true ∧ ru < wI v) ∧ (ru < wI v → Y < svl v t n ru) ∧ (ru = wI v → n = false ∧ rd < wI v) ∧
        (rd < wI v → ru < wI v → (2 * Y < svl v t n rd + svl v t n ru → rn = rd) ∧ (svl v t n rd + svl v t n ru < 2 * Y → rn = ru) ∧ (2 * Y = svl v t n rd + svl v t n ru → rn % 2 = 0)))) := by
  obtain ⟨rd, l1, d1, rfl⟩ := h1
  obtain ⟨ru, l2, d2, rfl⟩ := h2
  obtain ⟨rn, l3, d3, rfl⟩ := h3
  by_cases hz : z = 0
  · subst hz
    have n0 : ¬ (0 : Int) < ((Int.natAbs 0 : Nat) : Int) := by simp
    rcases d1 with ⟨_, rfl, rfl⟩ | ⟨h, _⟩
    · rcases d2 with ⟨_, rfl, rfl⟩ | ⟨h, _⟩
      · rcases d3 with ⟨_, rfl, rfl⟩ | ⟨h, _⟩
        · refine ⟨rfl, rfl, decide ((0 : Int) < 0), 0, 0, 0, 0, 0, .inl ⟨rfl, rfl⟩, rfl, rfl, rfl, l1, l2, l3, .inl ⟨rfl, wI_pos v, rfl, rfl, ?_⟩⟩
          unfold svl
          rw [val_zero _ (wB_pos v)]; simp
        · exact absurd h n0
      · exact absurd h n0
    · exact absurd h n0
  · have hx : (0 : Int) < ((Int.natAbs z : Nat) : Int) := by omega
    by_cases hs : z < 0
    · rw [decide_eq_true hs] at d1 d2 d3 ⊢
      rw [show tw (Int.toNat 1) true = 2 by decide] at d1
      rw [show tw (Int.toNat 2) true = 1 by decide] at d2
      rw [show tw (Int.toNat 0) true = 0 by decide] at d3
      obtain ⟨rfl, rfl, i, t, his, hc⟩ := cell (wB_pos v) (wI_pos v) hx d2 d1 d3
      have ez : ((Int.natAbs z : Nat) : Int) = -z := by omega
      rw [ez, Int.neg_mul] at hc
      refine ⟨rfl, rfl, true, t, z * 2 ^ i, rd, ru, rn, .inr ⟨i, by omega, rfl⟩, rfl, rfl, rfl, l1, l2, l3, ?_⟩
      generalize z * 2 ^ i = Y at *
      unfold svl
      simp only [if_true]
      rcases hc with ⟨rfl, c1, rfl, rfl, c4⟩ | ⟨rfl, c1, rfl, c3, c4, c5⟩
      · exact .inl ⟨rfl, c1, rfl, rfl, by omega⟩
      · refine .inr ⟨rfl, nxt_pat_neg v ru hv c1, by omega, fun h => by have := (c5 h).1; omega, fun h => ⟨by trivial, by omega⟩, fun _ => by omega, fun h => by omega, fun h _ => ?_⟩
        obtain ⟨g1, g2, g3, g4⟩ := c5 h
        refine ⟨fun hh => ?_, fun hh => ?_, fun hh => g4 (by omega)⟩
        · rcases c3 with c3 | c3
          · have := g2 c3; omega
          · exact c3
        · rcases c3 with c3 | c3
          · exact c3
          · have := g3 c3; omega
    · rw [decide_eq_false hs] at d1 d2 d3 ⊢
      rw [show tw (Int.toNat 1) false = 1 by decide] at d1
      rw [show tw (Int.toNat 2) false = 2 by decide] at d2
      rw [show tw (Int.toNat 0) false = 0 by decide] at d3
      obtain ⟨rfl, rfl, i, t, his, hc⟩ := cell (wB_pos v) (wI_pos v) hx d1 d2 d3
      have ez : ((Int.natAbs z : Nat) : Int) = z := by omega
      rw [ez] at hc
      refine ⟨rfl, rfl, false, t, z * 2 ^ i, rd, ru, rn, .inr ⟨i, by omega, rfl⟩, rfl, rfl, rfl, l1, l2, l3, ?_⟩
      generalize z * 2 ^ i = Y at *
      unfold svl
      simp only [Bool.false_eq_true, if_false]
      rcases hc with ⟨rfl, c1, rfl, rfl, c4⟩ | ⟨rfl, c1, rfl, c3, c4, c5⟩
      · exact .inl ⟨rfl, c1, rfl, rfl, c4⟩
      · refine .inr ⟨rfl, nxt_pat_pos v rd hv c1, by omega, fun _ => c4, fun h => by omega, fun h => (c5 h).1, fun _ => ⟨by trivial, c1⟩, fun _ h => ?_⟩
        obtain ⟨g1, g2, g3, g4⟩ := c5 h
        refine ⟨fun hh => ?_, fun hh => ?_, fun hh => g4 (by omega)⟩
        · rcases c3 with c3 | c3
          · exact c3
          · have := g3 c3; omega
        · rcases c3 with c3 | c3
          · have := g2 c3; omega
          · exact c3
theorem BLen.shift {x : Int} {k s : Nat} (h : BLen x k) (hk : 0 < k) : BLen (x * 2 ^ s) (k + s) := by
  have hp : (0 : Int) < 2 ^ s := Int.pow_pos (by omega)
  refine ⟨?_, fun _ => ?_⟩
  · rw [Int.pow_add]
    exact Int.mul_lt_mul_of_pos_right h.1 hp
  · rw [show k + s - 1 = k - 1 + s by omega, Int.pow_add]
    exact Int.mul_le_mul_of_nonneg_right (h.2 hk) (Int.le_of_lt hp)
theorem BLen.pos {x : Int} {k : Nat} (h : BLen x k) (hx : 0 < x) : 0 < k := by
  rcases Nat.eq_zero_or_pos k with e | e
  · rw [e] at h
    have := h.1
    simp at this
    omega
  · exact e
end Go.Proofs.YtlfmgdpbjapdjaaGreatFmtBesafter
namespace Go.Proofs.YtlfmgdpbjapdjaaGreatFmtBesafter
open Go.RowKit Go.Proofs.YtlfmgdpbjapdjaaGreatFmtBesafterW.PrintWords
theorem results_of {fn : Func} {p q : Tmp} (h : fn.results = #[.cell p 24, .tmp q]) (tmps : Array Value) (w : World) (Y : Nat) (a b c d : Value)
    (hp : tmps.getD p undef = .pointer (some ⟨Y, 0, none⟩)) (hg : w.heap[Y]? = some (.cells #[a, b, c] 24 (0, 0))) (hq : tmps.getD q undef = d) :
    (results fn tmps).run Tryz.prog w = .ok (.tuple #[.agg #[a, b, c], d]) w := by
  have hp' : tmps[p]?.getD undef = .pointer (some ⟨Y, 0, none⟩) := by simpa using hp
  have hq' : tmps[q]?.getD undef = d := by simpa using hq
  have h0 : w.cell? ⟨Y, 0, none⟩ = some a := blk_cell hg 0
  have h1 : w.cell? ⟨Y, 1, none⟩ = some b := blk_cell hg 1
  have h2 : w.cell? ⟨Y, 2, none⟩ = some c := blk_cell hg 2
  simp [results, h, hp', hq', asAddr, go_sem, h0, h1, h2]
def OfBad (w : World) (n : Int) (en : Ending) (w' : World) : Prop := en = .returned (.tuple #[.agg #[.bool false, .slice none 0 0, .int .i64 0], .int .i64 n]) ∧ Only w w' (fun _ => False)
theorem Tells.only {f : FuncId} {args : Array Value} {v : Value} (h : Tells f args v) (w : World) : Calls Tryz.prog f args w fun e w' => e = .returned v ∧ Only w w' (fun _ => False) :=
  (h w).mono fun _ _ ⟨h1, h2⟩ => ⟨h1, Only.of_below h2⟩
set_option maxRecDepth 100000 in
set_option maxHeartbeats 4000000 in
theorem of_inf (b v : Int) (w : World) (hb : Flt.I64 b) (hv : v = 64 ∨ v = 32) (hf : Flt.fin b v = false) : Calls Tryz.prog 10 #[.int .i64 b, .int .i64 v] w (OfBad w 6) := by
  have v1 : (v != 64 && v != 32) = false := by rcases hv with rfl | rfl <;> rfl
  have HP := Lib.hid (fun w => Tells.only (parts_any b v hb) w)
  have hY := heap_alloc_new w (.cells #[.bool false, .slice none 0 0, .int .i64 0] 24)
  have HO := Lib.hid (Only.alloc (Only.refl w (fun _ => False)) (.cells #[.bool false, .slice none 0 0, .int .i64 0] 24))
  have HY := Lib.hid hY
  have HV := Lib.hid hv
  clear hv hY hb
  go_enter Tryz.func10, Tryz.ntmps10
  go_upto_region 1 with (fail)
  go_cut [15] (fun s wx => s = .bool false ∧ wx = w.alloc (.cells #[.bool false, .slice none 0 0, .int .i64 0] 24))
  case first =>
    rcases HV.out with rfl | rfl
    · go_wp2_with fail
      go_meet
      exact ⟨rfl, rfl⟩
    · go_wp2_with fail
      go_meet
      exact ⟨rfl, rfl⟩
  case rest =>
  obtain ⟨rfl, hwc⟩ := hcut
  rw [← hwc] at HO HY
  clear hwc v1 HV
  go_wp2_with fail
  refine (HP.out wc).mono ?_
  rintro en w2 ⟨rfl, ho2⟩
  have hY2 := (ho2.kept _ (blk_lt HY.out) (fun h => h)).trans HY.out
  have y0 : w2.cell? ⟨w.heap.size, 0, none⟩ = some (.bool false) := blk_cell hY2 0
  have y1 : w2.cell? ⟨w.heap.size, 1, none⟩ = some (.slice none 0 0) := blk_cell hY2 1
  have y2 : w2.cell? ⟨w.heap.size, 2, none⟩ = some (.int .i64 0) := blk_cell hY2 2
  have fy0 := blk_frozen hY2 0
  have fy1 := blk_frozen hY2 1
  have fy2 := blk_frozen hY2 2
  have hs : ∀ a b c : Value, (((w2.setCell ⟨w.heap.size, 0, none⟩ a).setCell ⟨w.heap.size, 1, none⟩ b).setCell ⟨w.heap.size, 2, none⟩ c).heap[w.heap.size]? = some (.cells #[a, b, c] 24 (0, 0)) ∧ Only w (((w2.setCell ⟨w.heap.size, 0, none⟩ a).setCell ⟨w.heap.size, 1, none⟩ b).setCell ⟨w.heap.size, 2, none⟩ c) (fun _ => False) := fun a b c =>
    ⟨by simpa using blk_set (blk_set (blk_set hY2 0 a) 1 b) 2 c, (((HO.out.trans ho2).set (.inl (Nat.le_refl _)) _).set (.inl (Nat.le_refl _)) _).set (.inl (Nat.le_refl _)) _⟩
  have HS := Lib.hid hs
  clear hs hY2 ho2 HO HY HP
  unfold partsV at *
  go_wp2_with fail
  obtain ⟨s1, s2⟩ := HS.out (.bool false) (.slice none 0 0) (.int .i64 0)
  exact bodyPost_ret (results_of rfl _ _ w.heap.size _ _ _ _ rfl s1 rfl) rfl ⟨rfl, s2⟩
def OfFin (w : World) (b v : Int) (en : Ending) (w' : World) : Prop := Only w w' (fun _ => False) ∧ ((Flt.mag b v = 0 ∧ en = .returned (.tuple #[.agg #[.bool false, .slice none 0 0, .int .i64 0], .int .i64 0])) ∨
  (0 < Flt.mag b v ∧ ∃ (t : Nat) (q : Int) (A : Option Addr) (ds : List Int) (c : Nat), Flt.mag b v = q * 2 ^ t ∧ q % 2 = 1 ∧ 0 < q ∧ en = .returned (.tuple #[.agg #[.bool (Flt.neg b v), .slice A ds.length c, .int .i64 (Flt.exp b v + t)], .int .i64 0]) ∧ w'.ownsRow w.heap.size 3 1 (.slice A ds.length c) ds.length (nums .i64 ds) ∧ val ds = q ∧ Nm ds))
theorem parts_range (b v : Int) (hv : v = 64 ∨ v = 32) : 0 ≤ Flt.mag b v ∧ Flt.mag b v < 9007199254740992 ∧ -1074 ≤ Flt.exp b v ∧ Flt.exp b v ≤ 973 := by
  rcases hv with rfl | rfl
  · show 0 ≤ Flt.mag64 b ∧ Flt.mag64 b < _ ∧ _ ≤ Flt.exp64 b ∧ Flt.exp64 b ≤ _
    unfold Flt.mag64 Flt.exp64
    split <;> omega
  · show 0 ≤ Flt.mag32 b ∧ Flt.mag32 b < _ ∧ _ ≤ Flt.exp32 b ∧ Flt.exp32 b ≤ _
    unfold Flt.mag32 Flt.exp32
    split <;> omega
set_option maxRecDepth 100000 in
set_option maxHeartbeats 8000000 in
theorem of_fin (b v : Int) (w : World) (hb : Flt.I64 b) (hv : v = 64 ∨ v = 32) (hf : Flt.fin b v = true) (hT : Tab w) : Calls Tryz.prog 10 #[.int .i64 b, .int .i64 v] w (OfFin w b v) := by
  have v1 : (v != 64 && v != 32) = false := by rcases hv with rfl | rfl <;> rfl
  obtain ⟨m0, m1, e0, e1⟩ := parts_range b v hv
  have hp := parts_any b v hb
  unfold partsV Flt.pneg Flt.pmag Flt.pexp at hp
  rw [hf, if_pos rfl, if_pos rfl, Bool.true_and] at hp
  have HP := Lib.hid (fun w => Tells.only hp w)
  have hY := heap_alloc_new w (.cells #[.bool false, .slice none 0 0, .int .i64 0] 24)
  have HO := Lib.hid (Only.alloc (Only.refl w (fun _ => False)) (.cells #[.bool false, .slice none 0 0, .int .i64 0] 24))
  have HY := Lib.hid hY
  have HV := Lib.hid hv
  have HZ : Hid (∃ z, z = if Flt.neg b v = true then -Flt.mag b v else Flt.mag b v) := Lib.hid ⟨_, rfl⟩
  clear hv hY hb hp hf
  obtain ⟨z, hz⟩ := HZ.out
  have HZ2 := Lib.hid hz
  have hzr : -9007199254740992 < z ∧ z < 9007199254740992 ∧ ((Int.natAbs z : Nat) : Int) = Flt.mag b v ∧ (0 < Flt.mag b v → decide (z < 0) = Flt.neg b v) := by
    rw [hz]
    cases Flt.neg b v
    · refine ⟨by simp; omega, by simp; omega, by simp; omega, fun h => ?_⟩
      rw [decide_eq_false_iff_not]; simp; omega
    · refine ⟨by simp; omega, by simp; omega, by simp; omega, fun h => ?_⟩
      rw [decide_eq_true_eq]; simp; omega
  have HZR := Lib.hid hzr
  clear hz HZ hzr
  generalize hN : Flt.neg b v = ng at *
  generalize hM : Flt.mag b v = mg at *
  generalize hE : Flt.exp b v = ex at *
  have HNM := Lib.hid (And.intro hN (And.intro hM hE))
  clear hN hM hE
  go_enter Tryz.func10, Tryz.ntmps10
  go_upto_region 1 with (fail)
  go_cut [15] (fun s wx => s = .bool false ∧ wx = w.alloc (.cells #[.bool false, .slice none 0 0, .int .i64 0] 24))
  case first =>
    rcases HV.out with rfl | rfl
    · go_wp2_with fail
      go_meet
      exact ⟨rfl, rfl⟩
    · go_wp2_with fail
      go_meet
      exact ⟨rfl, rfl⟩
  case rest =>
  obtain ⟨rfl, hwc⟩ := hcut
  rw [← hwc] at HO HY
  clear hwc v1
  go_wp2_with fail
  refine (HP.out wc).mono ?_
  rintro en w2 ⟨rfl, ho2⟩
  have hY2 := (ho2.kept _ (blk_lt HY.out) (fun h => h)).trans HY.out
  have HO2 := Lib.hid (HO.out.trans ho2)
  have HY2 := Lib.hid hY2
  clear hY2 ho2 HO HY HP
  have hn1 : wrap64 (-mg) = -mg := by unfold wrap64; omega
  have hn2 : IntKind.i64.wrap (-mg) = -mg := by rw [IntKind.wrap_i64]; omega
  go_upto_if 28 with (fail)
  go_cut [7] (fun s wx => s = .int .i64 z ∧ w2 = wx)
  case first =>
    cases ng
    · go_wp2_with fail
      go_meet
      exact ⟨by rw [HZ2.out]; rfl, rfl⟩
    · go_wp2_with fail
      go_meet
      exact ⟨by rw [HZ2.out]; rfl, rfl⟩
  case rest =>
  obtain ⟨rfl, rfl⟩ := hcut
  have hz0 := HZR.out.1
  have hz1 := HZR.out.2.1
  go_wp2_with fail
  refine (newInt_all z w2 (by omega) (by omega)).mono ?_
  rintro en w3 ⟨g, rfl, ⟨o, hi, hgB, hoB⟩, ho3⟩
  have HO3 := Lib.hid (HO2.out.trans ho3)
  have hY3 := (ho3.kept _ (blk_lt HY2.out) (fun h => h)).trans HY2.out
  have HY3 := Lib.hid hY3
  have hsz : w.heap.size < w3.heap.size := blk_lt hY3
  clear hY3 ho3
  go_wp2_with fail
  have hfit : Fits ((Int.natAbs z : Nat) : Int) := Fits.of (k := 53) (by rw [show (2 : Int) ^ 53 = 9007199254740992 by decide]; omega) (by omega)
  refine (told_any g o z ex w3 hi hfit (hT.only HO3.out) (by omega) (by omega)).mono ?_
  rintro en w7 ⟨ho7, hcase⟩
  have hY7 := (ho7.kept _ (blk_lt HY3.out) (fun h => h)).trans HY3.out
  have y0 : w7.cell? ⟨w.heap.size, 0, none⟩ = some (.bool false) := blk_cell hY7 0
  have y1 : w7.cell? ⟨w.heap.size, 1, none⟩ = some (.slice none 0 0) := blk_cell hY7 1
  have y2 : w7.cell? ⟨w.heap.size, 2, none⟩ = some (.int .i64 0) := blk_cell hY7 2
  have fy0 := blk_frozen hY7 0
  have fy1 := blk_frozen hY7 1
  have fy2 := blk_frozen hY7 2
  have HOW := Lib.hid (HO3.out.trans ho7)
  have hst : ∀ a b c : Value, (((w7.setCell ⟨w.heap.size, 0, none⟩ a).setCell ⟨w.heap.size, 1, none⟩ b).setCell ⟨w.heap.size, 2, none⟩ c).heap[w.heap.size]? = some (.cells #[a, b, c] 24 (0, 0)) ∧ Only w7 (((w7.setCell ⟨w.heap.size, 0, none⟩ a).setCell ⟨w.heap.size, 1, none⟩ b).setCell ⟨w.heap.size, 2, none⟩ c) (fun k => k = w.heap.size) := fun a b c =>
    ⟨by simpa using blk_set (blk_set (blk_set hY7 0 a) 1 b) 2 c, (((Only.refl w7 (fun k => k = w.heap.size)).set (.inr rfl) _).set (.inr rfl) _).set (.inr rfl) _⟩
  have HST := Lib.hid (And.intro hY7 hst)
  clear hst hY7
  rcases hcase with ⟨hz, rfl⟩ | ⟨hz, t, k, q, a1, a2, a3, a4, hb⟩
  · have HZ := Lib.hid hz
    clear hz
    go_wp2_with fail
    obtain ⟨s1, s3⟩ := HST.out.2 (.bool false) (.slice none 0 0) (.int .i64 0)
    refine bodyPost_ret (results_of rfl _ _ w.heap.size _ _ _ _ rfl s1 rfl) rfl ⟨HOW.out.step s3 (by rintro i hi rfl; omega), .inl ⟨?_, rfl⟩⟩
    rw [HNM.out.2.1, ← HZR.out.2.2.1, HZ.out]; rfl
  · have hP : (0 : Int) < 2 ^ t := Int.pow_pos (by omega)
    have hzm := HZR.out.2.2.1
    have htn : (2 : Int) ^ t ≤ ((Int.natAbs z : Nat) : Int) := by
      rw [a1]
      have := Int.mul_le_mul_of_nonneg_right (show (1 : Int) ≤ q by omega) (Int.le_of_lt hP)
      omega
    have hqn : q ≤ ((Int.natAbs z : Nat) : Int) := by
      rw [a1]
      have := Int.mul_le_mul_of_nonneg_left (show (1 : Int) ≤ 2 ^ t by omega) (Int.le_of_lt a3)
      omega
    have ht : t < 53 := pow_lt (Int.lt_of_le_of_lt htn (by rw [show (2 : Int) ^ 53 = 9007199254740992 by decide]; omega))
    have hk : k ≤ 53 := by
      rcases Nat.eq_zero_or_pos k with h | h
      · omega
      · have := pow_lt (Int.lt_of_le_of_lt (a4.2 h) (show q < 2 ^ 53 by rw [show (2 : Int) ^ 53 = 9007199254740992 by decide]; omega))
        omega
    rcases hb with ⟨hbad, rfl⟩ | ⟨b1, b2, b3, A7, ds7, c7, rfl, hown, hval, hnm⟩
    · exact absurd hbad (by omega)
    · have HA := Lib.hid (And.intro hz (And.intro a1 (And.intro a2 (And.intro a3 (And.intro hown (And.intro hval (And.intro hnm hzm)))))))
      clear hz a1 a2 a3 a4 hown hval hnm hP hqn htn hzm
      go_wp2_with fail
      obtain ⟨s1, s3⟩ := HST.out.2 (.bool (decide (z < 0))) (.slice A7 ds7.length c7) (.int .i64 (ex + t))
      obtain ⟨g1, g2, g3, g4, g6, g7, g8, g9⟩ := HA.out
      have hpos : 0 < mg := by omega
      refine bodyPost_ret (results_of rfl _ _ w.heap.size _ _ _ _ rfl s1 rfl) rfl ⟨HOW.out.step s3 (by rintro i hi rfl; omega), .inr ⟨by rw [HNM.out.2.1]; exact hpos, t, q, A7, ds7, c7, by rw [HNM.out.2.1, ← g9]; exact g2, g3, g4, by rw [HNM.out.1, HNM.out.2.2, HZR.out.2.2.2 hpos]; rfl, own_weaken (own_other_num g6 HST.out.1 s3) ?_, g7, g8⟩⟩
      have := HO3.out.base.size
      omega
theorem sumE_bound {z1 z2 e1 e2 : Int} (a1 : -1048576 ≤ e1) (a2 : e1 ≤ 1048576) (b1 : -1048576 ≤ e2) (b2 : e2 ≤ 1048576) : -1048576 ≤ sumE z1 e1 z2 e2 ∧ sumE z1 e1 z2 e2 ≤ 1048576 := by
  unfold sumE; split
  · split <;> omega
  · split <;> omega
theorem natAbs_add_le (a b : Int) : (Int.natAbs (a + b) : Int) ≤ Int.natAbs a + Int.natAbs b := by omega
theorem sum_fits {z1 z2 e1 e2 : Int} {k1 k2 : Nat} (h1 : Bits k1 z1) (h2 : Bits k2 z2) (l1 : k1 ≤ 60000) (l2 : k2 ≤ 60000) (a1 : -1048576 ≤ e1) (a2 : e1 ≤ 1048576) (b1 : -1048576 ≤ e2) (b2 : e2 ≤ 1048576) : Fits (Int.natAbs (sumZ z1 e1 z2 e2) : Nat) := by
  unfold sumZ
  split
  · exact h2.fits (by omega)
  · split
    · exact h1.fits (by omega)
    · obtain ⟨s, hs⟩ : ∃ s, (e1 - min e1 e2).toNat = s ∧ s ≤ 2097152 := ⟨_, rfl, by omega⟩
      obtain ⟨t, ht⟩ : ∃ t, (e2 - min e1 e2).toNat = t ∧ t ≤ 2097152 := ⟨_, rfl, by omega⟩
      rw [hs.1, ht.1]
      have x1 : Bits (k1 + s) (z1 * 2 ^ s) := h1.shl
      have x2 : Bits (k2 + t) (z2 * 2 ^ t) := h2.shl
      obtain ⟨m, hm⟩ : ∃ m, m = max (k1 + s) (k2 + t) := ⟨_, rfl⟩
      have p1 : (2 : Int) ^ (k1 + s) ≤ 2 ^ m := by exact_mod_cast Nat.pow_le_pow_right (by omega : 2 > 0) (by omega : k1 + s ≤ m)
      have p2 : (2 : Int) ^ (k2 + t) ≤ 2 ^ m := by exact_mod_cast Nat.pow_le_pow_right (by omega : 2 > 0) (by omega : k2 + t ≤ m)
      unfold Bits at x1 x2
      refine Fits.of (k := m + 1) ?_ (by omega)
      rw [Int.pow_succ]
      have := natAbs_add_le (z1 * 2 ^ s) (z2 * 2 ^ t)
      omega
def lowd (xs : List Int) (k : Nat) : List Int := (xs.take k).map (· % 1073741824)
theorem lowd_len {xs : List Int} {k : Nat} (h : k ≤ xs.length) : (lowd xs k).length = k := by unfold lowd; rw [List.length_map, List.length_take]; omega
theorem lowd_snoc {xs : List Int} {k : Nat} (h : k < xs.length) : lowd xs k ++ [xs.getD k 0 % 1073741824] = lowd xs (k + 1) := by
  unfold lowd
  rw [List.take_add_one, List.map_append, List.getElem?_eq_getElem h]
  simp [List.getD, h]
theorem lowd_digs (xs : List Int) (k : Nat) : Digs (lowd xs k) := by
  intro d hd
  unfold lowd at hd
  obtain ⟨x, _, rfl⟩ := List.mem_map.1 hd
  omega
theorem own_some {w : World} {B n : Nat} {v : Value} {ds : List Int} (h : w.ownsRow B 3 1 v n (nums .i64 ds)) (hn : n = ds.length) : ∃ A c, v = .slice A ds.length c ∧ ReadsInt w .i64 A ds.length ds ∧ ds.length ≤ c := by
  subst hn
  by_cases h0 : 0 < ds.length
  · exact own_read1 h h0
  · have e0 : ds.length = 0 := by omega
    have e1 : ds = [] := List.length_eq_zero_iff.1 e0
    rcases h.2 with ⟨rfl, _⟩ | ⟨g, cap, cur, rfl, hb, _, hc, _⟩
    · exact ⟨none, 0, by rw [e0], ⟨rfl, by rw [e0]; simp, fun h => absurd h h0⟩, by omega⟩
    · exact ⟨_, cap, rfl, ⟨rfl, by rw [e0]; simp, fun h => absurd h h0⟩, hc⟩
theorem Ans.num2 {w w' : World} {z e : Int} {en : Ending} {k : Nat} (h : Ans w z e en w') (hz : (Int.natAbs z : Int) < 2 ^ k) (hk : k ≤ 60000) (he0 : -1048576 ≤ e) (he1 : e + k ≤ 1048576) :
    ∃ (neg : Bool) (A : Option Addr) (ds : List Int) (c : Nat) (z' e' : Int), en = .returned (.tuple #[.agg #[.bool neg, .slice A ds.length c, .int .i64 e'], .int .i64 0]) ∧ (∀ (S : Nat → Prop) W2, (∀ k, S k → k < w.heap.size) → Only w' W2 S → NumV W2 (.agg #[.bool neg, .slice A ds.length c, .int .i64 e']) z' e') ∧ Only w w' (fun _ => False) ∧ ((z = 0 ∧ z' = 0 ∧ e' = 0) ∨ (z' ≠ 0 ∧ ∃ t : Nat, z = z' * 2 ^ t ∧ e' = e + t ∧ t < k)) := by
  obtain ⟨v, z', e', he, hN, ho, hc⟩ := h.num hz hk he0 he1
  obtain ⟨neg, A, ds, c, rfl, h1, h2, h3, h4⟩ := hN
  refine ⟨neg, A, ds, c, z', e', he, fun S W2 hY hW => ⟨neg, A, ds, c, rfl, ?_, h2, h3, h4⟩, ho, hc⟩
  have pick : ∀ (en1 : Ending) (v2 : Value) (n m : Int) (b : Bool), en1 = .returned (.tuple #[.agg #[.bool b, v2, .int .i64 n], .int .i64 m]) → en = en1 → v2 = .slice A ds.length c := by
    rintro en1 v2 n m b rfl h
    rw [he] at h
    injection h with h
    injection h with h
    have h0 := congrArg (fun a : Array Value => a.getD 0 undef) h
    injection (show Value.agg _ = Value.agg _ from h0) with h1
    exact (congrArg (fun a : Array Value => a.getD 1 undef) h1).symm
  obtain ⟨_, ⟨_, h5⟩ | ⟨_, t, j, q, _, _, _, _, ⟨_, h5⟩ | ⟨_, _, _, v2, ds2, h5, hown, _, _⟩⟩⟩ := h
  · have h6 := pick _ (.slice none 0 0) 0 0 false rfl h5
    injection h6 with h7 h8 h9
    subst h7
    exact ⟨h1.1, h1.2.1, fun h => by omega⟩
  · have h6 := pick _ (.slice none 0 0) 0 2 false rfl h5
    injection h6 with h7 h8 h9
    subst h7
    exact ⟨h1.1, h1.2.1, fun h => by omega⟩
  · have e3 := pick _ v2 _ _ _ rfl h5
    subst e3
    refine reads_only h1 hW (fun ad hA hS => ?_)
    have hb := hY _ hS
    rcases hown.2 with ⟨h0, _⟩ | ⟨g, cap, cur, h0, hbg, _⟩
    · injection h0 with h7; rw [h7] at hA; cases hA
    · injection h0 with h7; rw [h7] at hA; cases hA
      simp at hb; omega
def Made (w : World) (mx : Int) (nd : Nat) (w' : World) (v : Value) : Prop := ∃ z' e', (∀ (S : Nat → Prop) W2, (∀ k, S k → k < w.heap.size) → Only w' W2 S → NumV W2 v z' e') ∧ Only w w' (fun _ => False) ∧ Bits (30 * nd) z' ∧ -mx ≤ e' ∧ e' ≤ mx + 30 * nd
theorem made_of {w wr W W' : World} {neg : Bool} {xs : List Int} {k nd : Nat} {e mx : Int} {en : Ending} (hk1 : k ≤ nd) (hk2 : k ≤ xs.length) (hnd : nd ≤ 2000) (hmx0 : 0 < mx) (hmx1 : mx ≤ 200000) (hoR : Only w wr (fun _ => False)) (hW : Only wr W (fun _ => False)) (h : Ans W (sval neg (lowd xs k)) (min (max (Int.tmod e mx) (-4194304)) 4194304) en W') :
    ∃ (neg1 : Bool) (A2 : Option Addr) (ds1 : List Int) (c1 : Nat) (e1 : Int), en = .returned (.tuple #[.agg #[.bool neg1, .slice A2 ds1.length c1, .int .i64 e1], .int .i64 0]) ∧ Only wr W' (fun _ => False) ∧ ∀ (S : Nat → Prop) W2, (∀ k, S k → w.heap.size ≤ k ∧ k < W.heap.size) → Only W' W2 S → Made w mx nd W2 (.agg #[.bool neg1, .slice A2 ds1.length c1, .int .i64 e1]) := by
  have hv := val_range _ (lowd_digs xs k)
  rw [lowd_len hk2] at hv
  have hn : (Int.natAbs (sval neg (lowd xs k)) : Int) = val (lowd xs k) := by unfold sval; split <;> omega
  have t1 := Int.tmod_lt_of_pos e hmx0
  have t0 : -mx < Int.tmod e mx := by
    have := Int.lt_tmod_of_pos e hmx0
    omega
  rw [show min (max (Int.tmod e mx) (-4194304)) 4194304 = Int.tmod e mx by omega] at h
  obtain ⟨neg1, A2, ds1, c1, z', e', rfl, hN, ho, hc⟩ := h.num2 (k := 30 * k) (by rw [hn]; exact hv.2) (by omega) (by omega) (by omega)
  refine ⟨neg1, A2, ds1, c1, e', rfl, hW.trans ho, fun S W2 hS hW2 => ⟨z', e', fun S2 W3 hS2 hW3 => hN (fun k => S k ∨ S2 k) W3 (fun k h => by
      have h9 := (hoR.trans hW).base.size
      rcases h with h | h
      · exact (hS k h).2
      · have := hS2 k h; omega) ((hW2.mono (fun _ _ h => .inl h)).trans (hW3.mono (fun _ _ h => .inr h))), ((hoR.trans hW).trans ho).step hW2 (fun i hi h => by have := (hS i h).1; omega), ?_, ?_, ?_⟩⟩
  · unfold Bits
    have hp : (2 : Int) ^ (30 * k) ≤ 2 ^ (30 * nd) := by exact_mod_cast Nat.pow_le_pow_right (by omega : 2 > 0) (by omega : 30 * k ≤ 30 * nd)
    refine Int.lt_of_lt_of_le ?_ hp
    rcases hc with ⟨_, rfl, _⟩ | ⟨_, t, hz, _⟩
    · exact Int.pow_pos (by omega)
    · have hz2 := congrArg (fun x : Int => (Int.natAbs x : Int)) hz
      rw [natAbs_pow, hn] at hz2
      have h3 := Int.mul_le_mul_of_nonneg_left (show (1 : Int) ≤ 2 ^ t from Int.pow_pos (by omega)) (show (0 : Int) ≤ Int.natAbs z' by omega)
      omega
  · rcases hc with ⟨_, _, rfl⟩ | ⟨_, t, _, rfl, _⟩ <;> omega
  · rcases hc with ⟨_, _, rfl⟩ | ⟨_, t, _, rfl, _⟩ <;> omega
theorem made_ret {W : World} {R X : Nat} {x y z a b c : Value} (hR : W.heap[R]? = some (.cells #[x, y, z] 24 (0, 0))) (hX : W.heap[X]? = some (.cells #[a, b, c] 24 (0, 0))) :
    W.cell? ⟨X, 0, none⟩ = some a ∧ W.cell? ⟨X, 1, none⟩ = some b ∧ W.cell? ⟨X, 2, none⟩ = some c ∧ W.cell? ⟨R, 0, none⟩ = some x ∧ W.cell? ⟨R, 1, none⟩ = some y ∧ W.cell? ⟨R, 2, none⟩ = some z ∧ W.frozen? ⟨R, 0, none⟩ = false ∧ W.frozen? ⟨R, 1, none⟩ = false ∧ W.frozen? ⟨R, 2, none⟩ = false ∧
    (((W.setCell ⟨R, 0, none⟩ a).setCell ⟨R, 1, none⟩ b).setCell ⟨R, 2, none⟩ c).heap[R]? = some (.cells #[a, b, c] 24 (0, 0)) ∧ Only W (((W.setCell ⟨R, 0, none⟩ a).setCell ⟨R, 1, none⟩ b).setCell ⟨R, 2, none⟩ c) (fun k => k = R) :=
  ⟨blk_cell hX 0, blk_cell hX 1, blk_cell hX 2, blk_cell hR 0, blk_cell hR 1, blk_cell hR 2, blk_frozen hR 0, blk_frozen hR 1, blk_frozen hR 2, by simpa using blk_set (blk_set (blk_set hR 0 a) 1 b) 2 c, (((Only.refl W (fun k => k = R)).set (.inr rfl) _).set (.inr rfl) _).set (.inr rfl) _⟩
theorem made_a {w wM : World} {mx : Int} {nd B R : Nat} {neg1 : Bool} {A2 : Option Addr} {ds1 : List Int} {q1 : Nat} {f1 : Int} (hRM : wM.heap[R]? = some (.cells #[.bool false, .slice none 0 0, .int .i64 0] 24 (0, 0))) (hm : ∀ (S : Nat → Prop) W2, (∀ k, S k → w.heap.size ≤ k ∧ k < B) → Only wM W2 S → Made w mx nd W2 (.agg #[.bool neg1, .slice A2 ds1.length q1, .int .i64 f1])) (hR0 : w.heap.size ≤ R) (hRB : R < B) :
    ∃ WN, WN = wM.alloc (.cells #[.bool neg1, .slice A2 ds1.length q1, .int .i64 f1] 24) ∧
    WN.cell? ⟨wM.heap.size, 0, none⟩ = some (.bool neg1) ∧ WN.cell? ⟨wM.heap.size, 1, none⟩ = some (.slice A2 ds1.length q1) ∧ WN.cell? ⟨wM.heap.size, 2, none⟩ = some (.int .i64 f1) ∧ WN.cell? ⟨R, 0, none⟩ = some (.bool false) ∧ WN.cell? ⟨R, 1, none⟩ = some (.slice none 0 0) ∧ WN.cell? ⟨R, 2, none⟩ = some (.int .i64 0) ∧ WN.frozen? ⟨R, 0, none⟩ = false ∧ WN.frozen? ⟨R, 1, none⟩ = false ∧ WN.frozen? ⟨R, 2, none⟩ = false ∧
    (((WN.setCell ⟨R, 0, none⟩ (.bool neg1)).setCell ⟨R, 1, none⟩ (.slice A2 ds1.length q1)).setCell ⟨R, 2, none⟩ (.int .i64 f1)).heap[R]? = some (.cells #[.bool neg1, .slice A2 ds1.length q1, .int .i64 f1] 24 (0, 0)) ∧ Made w mx nd (((WN.setCell ⟨R, 0, none⟩ (.bool neg1)).setCell ⟨R, 1, none⟩ (.slice A2 ds1.length q1)).setCell ⟨R, 2, none⟩ (.int .i64 f1)) (.agg #[.bool neg1, .slice A2 ds1.length q1, .int .i64 f1]) := by
  have hXN := heap_alloc_new wM (.cells #[.bool neg1, .slice A2 ds1.length q1, .int .i64 f1] 24)
  have hRN := blk_alloc hRM (.cells #[.bool neg1, .slice A2 ds1.length q1, .int .i64 f1] 24)
  have hoN : Only wM (wM.alloc (.cells #[.bool neg1, .slice A2 ds1.length q1, .int .i64 f1] 24)) (fun _ => False) := (Only.refl wM _).alloc _
  obtain ⟨t0, t1, t2, t3, t4, t5, t6, t7, t8, t9, t10⟩ := made_ret hRN hXN
  exact ⟨_, rfl, t0, t1, t2, t3, t4, t5, t6, t7, t8, t9, hm (fun k => k = R) _ (by rintro k rfl; omega) ((hoN.mono (fun _ _ h => h.elim)).trans t10)⟩
theorem made_b {w wM : World} {mx : Int} {nd B R : Nat} {neg1 : Bool} {A2 : Option Addr} {ds1 : List Int} {q1 : Nat} {f1 : Int} (hRM : wM.heap[R]? = some (.cells #[.bool false, .slice none 0 0, .int .i64 0] 24 (0, 0))) {X : Nat} {x y z : Value} (hXM : wM.heap[X]? = some (.cells #[x, y, z] 24 (0, 0))) (hm : ∀ (S : Nat → Prop) W2, (∀ k, S k → w.heap.size ≤ k ∧ k < B) → Only wM W2 S → Made w mx nd W2 (.agg #[.bool neg1, .slice A2 ds1.length q1, .int .i64 f1])) (hR0 : w.heap.size ≤ R) (hRB : R < X) (hXB : X < B) (hX0 : w.heap.size ≤ X) :
    ∃ WN, WN = ((wM.setCell ⟨X, 0, none⟩ (.bool neg1)).setCell ⟨X, 1, none⟩ (.slice A2 ds1.length q1)).setCell ⟨X, 2, none⟩ (.int .i64 f1) ∧
    WN.cell? ⟨X, 0, none⟩ = some (.bool neg1) ∧ WN.cell? ⟨X, 1, none⟩ = some (.slice A2 ds1.length q1) ∧ WN.cell? ⟨X, 2, none⟩ = some (.int .i64 f1) ∧ WN.cell? ⟨R, 0, none⟩ = some (.bool false) ∧ WN.cell? ⟨R, 1, none⟩ = some (.slice none 0 0) ∧ WN.cell? ⟨R, 2, none⟩ = some (.int .i64 0) ∧ WN.frozen? ⟨R, 0, none⟩ = false ∧ WN.frozen? ⟨R, 1, none⟩ = false ∧ WN.frozen? ⟨R, 2, none⟩ = false ∧
    (((WN.setCell ⟨R, 0, none⟩ (.bool neg1)).setCell ⟨R, 1, none⟩ (.slice A2 ds1.length q1)).setCell ⟨R, 2, none⟩ (.int .i64 f1)).heap[R]? = some (.cells #[.bool neg1, .slice A2 ds1.length q1, .int .i64 f1] 24 (0, 0)) ∧ Made w mx nd (((WN.setCell ⟨R, 0, none⟩ (.bool neg1)).setCell ⟨R, 1, none⟩ (.slice A2 ds1.length q1)).setCell ⟨R, 2, none⟩ (.int .i64 f1)) (.agg #[.bool neg1, .slice A2 ds1.length q1, .int .i64 f1]) := by
  have hne : R ≠ X := by omega
  have hXN := blk_set (blk_set (blk_set hXM 0 (.bool neg1)) 1 (.slice A2 ds1.length q1)) 2 (.int .i64 f1)
  have hXN : (((wM.setCell ⟨X, 0, none⟩ (.bool neg1)).setCell ⟨X, 1, none⟩ (.slice A2 ds1.length q1)).setCell ⟨X, 2, none⟩ (.int .i64 f1)).heap[X]? = some (.cells #[.bool neg1, .slice A2 ds1.length q1, .int .i64 f1] 24 (0, 0)) := by simpa using hXN
  have hRN := blk_far (blk_far (blk_far hRM (p := ⟨X, 0, none⟩) hne (.bool neg1)) (p := ⟨X, 1, none⟩) hne (.slice A2 ds1.length q1)) (p := ⟨X, 2, none⟩) hne (.int .i64 f1)
  have hoN : Only wM (((wM.setCell ⟨X, 0, none⟩ (.bool neg1)).setCell ⟨X, 1, none⟩ (.slice A2 ds1.length q1)).setCell ⟨X, 2, none⟩ (.int .i64 f1)) (fun k => k = X ∨ k = R) := (((Only.refl wM (fun k => k = X ∨ k = R)).set (.inr (.inl rfl)) _).set (.inr (.inl rfl)) _).set (.inr (.inl rfl)) _
  obtain ⟨t0, t1, t2, t3, t4, t5, t6, t7, t8, t9, t10⟩ := made_ret hRN hXN
  exact ⟨_, rfl, t0, t1, t2, t3, t4, t5, t6, t7, t8, t9, hm (fun k => k = X ∨ k = R) _ (by rintro k (rfl | rfl) <;> omega) (hoN.trans (t10.mono (fun _ _ h => .inr h)))⟩
set_option maxRecDepth 100000 in
set_option maxHeartbeats 8000000 in
theorem num_calls (neg : Bool) (A : Option Addr) (c : Nat) (xs : List Int) (e mx : Int) (nd : Nat) (w : World) (hr : ReadsInt w .i64 A xs.length xs) (hc : xs.length ≤ c) (hT : Tab w) (hnd : nd ≤ 2000) (hmx0 : 0 < mx) (hmx1 : mx ≤ 200000) :
    Calls Tryz.prog 13 #[.agg #[.bool neg, .slice A xs.length c, .int .i64 e], .int .i64 (nd : Int), .int .i64 mx] w fun en w' => ∃ v z' e', en = .returned v ∧ (∀ (S : Nat → Prop) W2, (∀ k, S k → k < w.heap.size) → Only w' W2 S → NumV W2 v z' e') ∧ Only w w' (fun _ => False) ∧ Bits (30 * nd) z' ∧ -mx ≤ e' ∧ e' ≤ mx + 30 * nd := by
  have hb := heap_two' w (.cells #[.bool neg, .slice A xs.length c, .int .i64 e] 24) (.cells #[.bool false, .slice none 0 0, .int .i64 0] 24)
  have hR := heap_two w (.cells #[.bool neg, .slice A xs.length c, .int .i64 e] 24) (.cells #[.bool false, .slice none 0 0, .int .i64 0] 24)
  have ho := ((Only.refl w (fun _ => False)).alloc (.cells #[.bool neg, .slice A xs.length c, .int .i64 e] 24)).alloc (.cells #[.bool false, .slice none 0 0, .int .i64 0] 24)
  have HR := Lib.hid (And.intro hr (And.intro hc hT))
  go_enter Tryz.func13, Tryz.ntmps13
  go_wp2_with fail
  generalize (w.alloc (.cells #[.bool neg, .slice A xs.length c, .int .i64 e] 24)).alloc (.cells #[.bool false, .slice none 0 0, .int .i64 0] 24) = w2 at *
  have hl1 := blk_lt hb
  have hl2 := blk_lt hR
  have HB := Lib.hid (And.intro hb (And.intro hR ho))
  clear hb hR ho
  go_loopw [7, 8] (fun l i wr => ∃ k : Nat, k ≤ nd ∧ k ≤ xs.length ∧ i = .int .i64 k ∧ Below w2.heap.size w2 wr ∧ wr.ownsRow w2.heap.size 3 1 l k (nums .i64 (lowd xs k)))
    (fun _ i _ => nd - (intOf i).toNat)
  case atStart => exact ⟨0, Nat.zero_le _, Nat.zero_le _, rfl, Below.refl _ _, own_nil _ _ _ _⟩
  case round =>
    obtain ⟨k, hk1, hk2, rfl, hB, hown⟩ := hrel
    have hbr := (hB.block _ hl1).trans HB.out.1
    have c0 : wr.cell? ⟨w.heap.size, 0, none⟩ = some (.bool neg) := blk_cell hbr 0
    have c1 : wr.cell? ⟨w.heap.size, 1, none⟩ = some (.slice A xs.length c) := blk_cell hbr 1
    have c2 : wr.cell? ⟨w.heap.size, 2, none⟩ = some (.int .i64 e) := blk_cell hbr 2
    have HO := Lib.hid hown
    clear hown hbr
    by_cases hgo : k < nd ∧ k < xs.length
    · obtain ⟨hlt1, hlt2⟩ := hgo
      have i1 : (k : Int) < nd := by omega
      have i2 : (k : Int) < xs.length := by omega
      have i1d : decide (k < nd) = true := by rw [decide_eq_true_eq]; exact hlt1
      have i2d : decide (k < xs.length) = true := by rw [decide_eq_true_eq]; exact hlt2
      have hcell : ∃ ad, A = some ad ∧ wr.cell? (ad.add k) = some (.int .i64 (xs.getD k 0)) := by
        obtain ⟨ad, h1, h2⟩ := (reads_only HR.out.1 (HB.out.2.2.trans (Only.of_below hB)) (fun _ _ h => h)).2.2 (by omega)
        exact ⟨ad, h1, h2 _ hlt2⟩
      obtain ⟨ad, hA, hcl⟩ := hcell
      subst hA
      obtain ⟨x, hx⟩ : ∃ x, xs.getD k 0 = x := ⟨_, rfl⟩
      rw [hx] at hcl
      have hand : bits .and .i64 x 1073741823 = x % 1073741824 := Flt.i64_and_mask x 30 (by omega) 1073741823 (by decide)
      have HX := Lib.hid hx
      clear hx
      have hown' : wr.ownsRow w2.heap.size 3 1 u7 (lowd xs k).length (nums .i64 (lowd xs k)) := by rw [lowd_len hk2]; exact HO.out
      obtain ⟨A1, cp, hv7, _⟩ := own_some HO.out (lowd_len hk2).symm
      subst hv7
      have HW := Lib.hid (And.intro hown' hB)
      clear hown'
      go_wp2_with (at_builtin; refine print_append_num (w0 := w2) w2.heap.size rfl (.tmp 23) (.tmp 30) 22 3 .i64 8 rfl Tryz.underlying22 int3 (by decide) (.slice A1 (lowd xs k).length cp) (lowd xs k) (x % 1073741824) rfl rfl HW.out.1 HW.out.2 ?_ ?_ ?_)
      · exact hB.size
      · rw [lowd_len hk2]; omega
      intro v1 w1 hown1 hB1 hg1 hat1
      rw [lowd_len hk2, ← HX.out] at hown1
      have HO1 := Lib.hid hown1
      clear hown1 hg1 hat1 HW
      go_wp2_with fail
      go_roundw
      case rel =>
        refine ⟨k + 1, by omega, by omega, by go_num, hB1, ?_⟩
        have := HO1.out
        rw [lowd_snoc hlt2] at this
        exact this
      case measure => simp [intOf]; omega
    · by_cases h2 : k < xs.length
      · have i1d : decide (k < nd) = false := by rw [decide_eq_false_iff_not]; omega
        have i2d : decide (k < xs.length) = true := by rw [decide_eq_true_eq]; exact h2
        go_wp2_with fail
        obtain ⟨A1, cp, hv7, hr1, hc1⟩ := own_some HO.out (lowd_len hk2).symm
        subst hv7
        have hmx9 : ¬ mx = 0 := by omega
        have m1 : ¬ w.heap.size = wr.heap.size := by have := hB.size; omega
        have hbA := blk_alloc ((hB.block _ hl1).trans HB.out.1) (.cells #[.bool false, .slice none 0 0, .int .i64 0] 24)
        have a0 : (wr.alloc (.cells #[.bool false, .slice none 0 0, .int .i64 0] 24)).cell? ⟨w.heap.size, 0, none⟩ = some (.bool neg) := blk_cell hbA 0
        have a2 : (wr.alloc (.cells #[.bool false, .slice none 0 0, .int .i64 0] 24)).cell? ⟨w.heap.size, 2, none⟩ = some (.int .i64 e) := blk_cell hbA 2
        clear hbA
        have hoR : Only w wr (fun _ => False) := HB.out.2.2.trans (Only.of_below hB)
        have HMR := Lib.hid (fun W (hW : Only wr W (fun _ => False)) => make_ok neg A1 cp (lowd xs k) (Int.tmod e mx) W (reads_only hr1 hW (fun _ _ h => h)) hc1 (HR.out.2.2.only (hoR.trans hW)) (lowd_digs xs k) (by rw [lowd_len hk2]; omega))
        have HA : Hid (∀ W en W', Only wr W (fun _ => False) → Ans W (sval neg (lowd xs k)) (min (max (Int.tmod e mx) (-4194304)) 4194304) en W' → ∃ (neg1 : Bool) (A2 : Option Addr) (ds1 : List Int) (c1 : Nat) (e1 : Int), en = .returned (.tuple #[.agg #[.bool neg1, .slice A2 ds1.length c1, .int .i64 e1], .int .i64 0]) ∧ Only wr W' (fun _ => False) ∧ ∀ (S : Nat → Prop) W2, (∀ k, S k → w.heap.size ≤ k ∧ k < W.heap.size) → Only W' W2 S → Made w mx nd W2 (.agg #[.bool neg1, .slice A2 ds1.length c1, .int .i64 e1])) := Lib.hid (fun W en W' hW h => made_of hk1 hk2 hnd hmx0 hmx1 hoR hW h)
        clear HO
        go_region_law (go_simp; go_at_call 16; first | (have HM1 := HMR.out _ (Only.refl wr (fun _ => False)).drew; refine HM1.mono ?_; rintro en wM hAns; obtain ⟨neg1, A2, ds1, q1, f1, rfl, hoM, hmade⟩ := HA.out _ _ _ (Only.refl wr (fun _ => False)).drew hAns) | (have HM1 := HMR.out _ ((Only.refl wr (fun _ => False)).alloc (.cells #[.bool false, .slice none 0 0, .int .i64 0] 24)).drew; refine HM1.mono ?_; rintro en wM hAns; have hX := (hAns.1.kept _ (blk_lt (heap_alloc_new wr (.cells #[.bool false, .slice none 0 0, .int .i64 0] 24))) (fun h => h)).trans (heap_alloc_new wr (.cells #[.bool false, .slice none 0 0, .int .i64 0] 24)); have x0 := blk_cell hX 0; have x1 := blk_cell hX 1; have x2 := blk_cell hX 2; have fx0 := blk_frozen hX 0; have fx1 := blk_frozen hX 1; have fx2 := blk_frozen hX 2; have hXM := hX; clear hX; obtain ⟨neg1, A2, ds1, q1, f1, rfl, hoM, hmade⟩ := HA.out _ _ _ ((Only.refl wr (fun _ => False)).alloc (.cells #[.bool false, .slice none 0 0, .int .i64 0] 24)).drew hAns))
        all_goals
          have hRM := (hoM.kept _ (Nat.lt_of_lt_of_le hl2 hB.size) (fun h => h)).trans ((hB.block _ hl2).trans HB.out.2.1)
          have m3 : w.heap.size + 1 < wM.heap.size := blk_lt hRM
          have m4 : w2.heap.size ≤ wr.heap.size := hB.size
          first
            | (obtain ⟨WN, hW, t0, t1, t2, t3, t4, t5, t6, t7, t8, t9, t10⟩ := made_a (q1 := q1) (f1 := f1) hRM hmade (by omega) (by show w.heap.size + 1 < wr.heap.size; omega)
               rw [← hW]; clear hW)
            | (obtain ⟨WN, hW, t0, t1, t2, t3, t4, t5, t6, t7, t8, t9, t10⟩ := made_b (q1 := q1) (f1 := f1) (X := wr.heap.size) hRM hXM hmade (by omega) (by omega) (by simp) (by omega)
               rw [← hW]; clear hW)
          have HMM := Lib.hid t10
          clear hmade HMR HA m3 m4 hRM hoM hAns HB HR c0 c1 c2 a0 a2 t10 hr1 hoR hr hB hc1
          go_wp2_with fail
          refine bodyPost_ret (results_cell_row rfl _ _ (w.heap.size + 1) 24 #[.bool neg1, .slice A2 ds1.length q1, .int .i64 f1] (0, 0) _ rfl t9 Tryz.underlying24 rfl (by kernel_rfl)) rfl ?_
          obtain ⟨z', e', h1, h2, h3⟩ := HMM.out
          exact ⟨_, z', e', rfl, h1, h2, h3⟩
      · have i2d : decide (k < xs.length) = false := by rw [decide_eq_false_iff_not]; omega
        go_wp2_with fail
        obtain ⟨A1, cp, hv7, hr1, hc1⟩ := own_some HO.out (lowd_len hk2).symm
        subst hv7
        have hmx9 : ¬ mx = 0 := by omega
        have m1 : ¬ w.heap.size = wr.heap.size := by have := hB.size; omega
        have hbA := blk_alloc ((hB.block _ hl1).trans HB.out.1) (.cells #[.bool false, .slice none 0 0, .int .i64 0] 24)
        have a0 : (wr.alloc (.cells #[.bool false, .slice none 0 0, .int .i64 0] 24)).cell? ⟨w.heap.size, 0, none⟩ = some (.bool neg) := blk_cell hbA 0
        have a2 : (wr.alloc (.cells #[.bool false, .slice none 0 0, .int .i64 0] 24)).cell? ⟨w.heap.size, 2, none⟩ = some (.int .i64 e) := blk_cell hbA 2
        clear hbA
        have hoR : Only w wr (fun _ => False) := HB.out.2.2.trans (Only.of_below hB)
        have HMR := Lib.hid (fun W (hW : Only wr W (fun _ => False)) => make_ok neg A1 cp (lowd xs k) (Int.tmod e mx) W (reads_only hr1 hW (fun _ _ h => h)) hc1 (HR.out.2.2.only (hoR.trans hW)) (lowd_digs xs k) (by rw [lowd_len hk2]; omega))
        have HA : Hid (∀ W en W', Only wr W (fun _ => False) → Ans W (sval neg (lowd xs k)) (min (max (Int.tmod e mx) (-4194304)) 4194304) en W' → ∃ (neg1 : Bool) (A2 : Option Addr) (ds1 : List Int) (c1 : Nat) (e1 : Int), en = .returned (.tuple #[.agg #[.bool neg1, .slice A2 ds1.length c1, .int .i64 e1], .int .i64 0]) ∧ Only wr W' (fun _ => False) ∧ ∀ (S : Nat → Prop) W2, (∀ k, S k → w.heap.size ≤ k ∧ k < W.heap.size) → Only W' W2 S → Made w mx nd W2 (.agg #[.bool neg1, .slice A2 ds1.length c1, .int .i64 e1])) := Lib.hid (fun W en W' hW h => made_of hk1 hk2 hnd hmx0 hmx1 hoR hW h)
        clear HO
        go_region_law (go_simp; go_at_call 16; first | (have HM1 := HMR.out _ (Only.refl wr (fun _ => False)).drew; refine HM1.mono ?_; rintro en wM hAns; obtain ⟨neg1, A2, ds1, q1, f1, rfl, hoM, hmade⟩ := HA.out _ _ _ (Only.refl wr (fun _ => False)).drew hAns) | (have HM1 := HMR.out _ ((Only.refl wr (fun _ => False)).alloc (.cells #[.bool false, .slice none 0 0, .int .i64 0] 24)).drew; refine HM1.mono ?_; rintro en wM hAns; have hX := (hAns.1.kept _ (blk_lt (heap_alloc_new wr (.cells #[.bool false, .slice none 0 0, .int .i64 0] 24))) (fun h => h)).trans (heap_alloc_new wr (.cells #[.bool false, .slice none 0 0, .int .i64 0] 24)); have x0 := blk_cell hX 0; have x1 := blk_cell hX 1; have x2 := blk_cell hX 2; have fx0 := blk_frozen hX 0; have fx1 := blk_frozen hX 1; have fx2 := blk_frozen hX 2; have hXM := hX; clear hX; obtain ⟨neg1, A2, ds1, q1, f1, rfl, hoM, hmade⟩ := HA.out _ _ _ ((Only.refl wr (fun _ => False)).alloc (.cells #[.bool false, .slice none 0 0, .int .i64 0] 24)).drew hAns))
        all_goals
          have hRM := (hoM.kept _ (Nat.lt_of_lt_of_le hl2 hB.size) (fun h => h)).trans ((hB.block _ hl2).trans HB.out.2.1)
          have m3 : w.heap.size + 1 < wM.heap.size := blk_lt hRM
          have m4 : w2.heap.size ≤ wr.heap.size := hB.size
          first
            | (obtain ⟨WN, hW, t0, t1, t2, t3, t4, t5, t6, t7, t8, t9, t10⟩ := made_a (q1 := q1) (f1 := f1) hRM hmade (by omega) (by show w.heap.size + 1 < wr.heap.size; omega)
               rw [← hW]; clear hW)
            | (obtain ⟨WN, hW, t0, t1, t2, t3, t4, t5, t6, t7, t8, t9, t10⟩ := made_b (q1 := q1) (f1 := f1) (X := wr.heap.size) hRM hXM hmade (by omega) (by omega) (by simp) (by omega)
               rw [← hW]; clear hW)
          have HMM := Lib.hid t10
          clear hmade HMR HA m3 m4 hRM hoM hAns HB HR c0 c1 c2 a0 a2 t10 hr1 hoR hr hB hc1
          go_wp2_with fail
          refine bodyPost_ret (results_cell_row rfl _ _ (w.heap.size + 1) 24 #[.bool neg1, .slice A2 ds1.length q1, .int .i64 f1] (0, 0) _ rfl t9 Tryz.underlying24 rfl (by kernel_rfl)) rfl ?_
          obtain ⟨z', e', h1, h2, h3⟩ := HMM.out
          exact ⟨_, z', e', rfl, h1, h2, h3⟩
end Go.Proofs.YtlfmgdpbjapdjaaGreatFmtBesafter
namespace Go.Proofs.YtlfmgdpbjapdjaaGreatFmtBesafter
open Go.RowKit Go.Proofs.YtlfmgdpbjapdjaaGreatFmtBesafterW.PrintWords Go.ChangeShapes Go.ChangeAt
set_option maxRecDepth 100000 in
theorem num_open {H : Type} {enc : TypeId × Value → H} {W : World} {b0 : Nat} {v : Value} {d : DataW H} {p : List MemPlace} (hval : Value.okWide Tryz.prog W .any b0 24 v) (h : DataW.Trod enc Tryz.prog W 0 (fun _ => true) true 24 v d p) :
    ∃ neg A c ds e, v = .agg #[.bool neg, .slice A ds.length c, .int .i64 e] ∧ ReadsInt W .i64 A ds.length ds ∧ ds.length ≤ c ∧ (0 < ds.length → ∀ ad, A = some ad → ad.block < W.heap.size) ∧
      (∀ (W' : World) (sp : Nat → Bool), Below W.heap.size W W' → (∀ q ∈ p, sp q.block = true) → DataW.Trod enc Tryz.prog W' 0 sp true 24 v d p) := by
  obtain ⟨u0, u1, u2, y0, y1, y2, n, rfl, rfl, rfl, t0, t1, t2⟩ := Joins.open_agg3 Tryz.underlying24 (by kernel_rfl) (by kernel_rfl) hval h
  obtain ⟨neg, e0, rfl⟩ := DataW.trod_bool Tryz.underlying4 t0
  obtain ⟨e, e2, rfl, hwf⟩ := DataW.trod_int Tryz.underlying3 t2
  have e0 : u0 = .bool neg := by simpa using e0
  have e2 : u2 = .int .i64 e := by simpa using e2
  subst e0 e2
  rcases open_ints Tryz.underlying22 Tryz.underlying3 (by kernel_rfl) t1 with ⟨e1, rfl⟩ | ⟨a, len, cap, zs, e1, hb, hl, hm, hz, rfl, hcell, hw⟩
  · have e1 : u1 = .slice none 0 0 := by simpa using e1
    subst e1
    refine ⟨neg, none, 0, [], e, rfl, ⟨rfl, by simp, fun h => absurd h (by simp)⟩, Nat.le_refl _, fun h => absurd h (by simp), fun W' sp hB hp => ?_⟩
    exact Joins.shut_agg3 (y0 := (.lit (.bool neg), [])) (y1 := (.nil, [])) (y2 := (.lit (.int .i64 e), [])) Tryz.underlying24 (by kernel_rfl) (by kernel_rfl) ⟨1, by simp [DataW.trod, Tryz.underlying4]⟩ ⟨1, by simp [DataW.trod, Tryz.underlying22]⟩ ⟨1, trod_int_mk 0 Tryz.underlying3 hwf⟩
  · have e1 : u1 = .slice (some a) len cap := by simpa using e1
    subst e1
    rw [if_pos rfl] at hz
    have htl : (zs.take len).length = len := by rw [List.length_take]; omega
    refine ⟨neg, some a, cap, zs.take len, e, by rw [htl], ⟨rfl, ?_, fun h0 => ⟨a, rfl, fun j hj => ?_⟩⟩, by omega, fun h0 ad h => ?_, fun W' sp hB hp => ?_⟩
    · rw [htl]
      have : maxLen = 9223372036854775807 := by decide
      omega
    · have hj : j < len := by omega
      rw [hcell j (by omega)]
      simp [List.getD, hj]
    · cases h
      have := World.block_lt_of_cell? W _ (hcell 0 (by omega))
      have hbl : (a.add 0).block = a.block := by unfold Addr.add; split <;> rfl
      rwa [hbl] at this
    · have hlt : 0 < zs.length → a.block < W.heap.size := fun h0 => by
        have := World.block_lt_of_cell? W _ (hcell 0 h0)
        have hbl : (a.add 0).block = a.block := by unfold Addr.add; split <;> rfl
        rwa [hbl] at this
      have hsp : zs.length = (if sp a.block then cap else len) := by
        by_cases h0 : 0 < zs.length
        · have hpl : sp a.block = true := hp (.cell a.block (a.off + 0)) (by
            have hm : MemPlace.cell a.block (a.off + 0) ∈ MemPlace.row a zs.length := MemPlace.mem_row.2 ⟨0, h0, rfl⟩
            exact List.mem_append_right _ (List.mem_append_left _ hm))
          rw [if_pos hpl]
          exact hz
        · split <;> omega
      exact Joins.shut_agg3 (y0 := (.lit (.bool neg), [])) (y1 := (.slice (lits .i64 (zs.take len)) (lits .i64 (zs.drop len)), MemPlace.row a zs.length)) (y2 := (.lit (.int .i64 e), [])) Tryz.underlying24 (by kernel_rfl) (by kernel_rfl) ⟨1, by simp [DataW.trod, Tryz.underlying4]⟩
        ⟨2, shut_ints 0 Tryz.underlying22 Tryz.underlying3 (by kernel_rfl) hb hl hm hsp (fun i hi => by
          have hbl : (a.add i).block = a.block := by unfold Addr.add; split <;> rfl
          have hk : W'.heap[(a.add i).block]? = W.heap[(a.add i).block]? := by rw [hbl]; exact hB.block _ (hlt (by omega))
          exact (World.cell?_of_block hk).trans (hcell i hi)) hw⟩ ⟨1, trod_int_mk 0 Tryz.underlying3 hwf⟩
end Go.Proofs.YtlfmgdpbjapdjaaGreatFmtBesafter
namespace Go.Proofs.YtlfmgdpbjapdjaaGreatFmtBesafter
open Go.RowKit Go.Proofs.YtlfmgdpbjapdjaaGreatFmtBesafterW.PrintWords
theorem NumV.odd {w : World} {v : Value} {z e : Int} (h : NumV w v z e) : (z = 0 ∧ e = 0) ∨ z % 2 = 1 := by
  obtain ⟨neg, A, ds, c, _, _, _, h4, rfl⟩ := h
  by_cases h0 : ds.length = 0
  · obtain ⟨_, rfl⟩ := vB_none h4 h0
    have : ds = [] := List.length_eq_zero_iff.1 h0
    subst this
    left; constructor
    · unfold sval; simp [val]
    · rfl
  · right
    obtain ⟨_, _, h5, _⟩ := vB_some h4 h0
    have : val ds % 2 = 1 := by
      cases ds with
      | nil => simp at h0
      | cons d l =>
        have h6 : d % 2 = 1 := h5
        rw [val]; omega
    unfold sval; split <;> omega
set_option maxRecDepth 100000 in
set_option maxHeartbeats 4000000 in
theorem num_one (neg : Bool) (A : Option Addr) (c : Nat) (xs : List Int) (e : Int) (w : World) (hr : ReadsInt w .i64 A xs.length xs) (hc : xs.length ≤ c) (hT : Tab w) :
    Calls Tryz.prog 4 #[.agg #[.bool neg, .slice A xs.length c, .int .i64 e]] w fun en w' => ∃ v z' e', en = .returned v ∧ NumV w' v z' e' ∧ Only w w' (fun _ => False) ∧ Bits 600 z' ∧ -1300 ≤ e' ∧ e' ≤ 1900 := by
  have ho := ((Only.refl w (fun _ => False)).alloc (.cells #[.bool neg, .slice A xs.length c, .int .i64 e] 24)).alloc (.cells #[.bool false, .slice none 0 0, .int .i64 0] 24)
  have hR := heap_two w (.cells #[.bool neg, .slice A xs.length c, .int .i64 e] 24) (.cells #[.bool false, .slice none 0 0, .int .i64 0] 24)
  have hsz : ((w.alloc (.cells #[.bool neg, .slice A xs.length c, .int .i64 e] 24)).alloc (.cells #[.bool false, .slice none 0 0, .int .i64 0] 24)).heap.size = w.heap.size + 1 + 1 := by simp
  have HN := Lib.hid (num_calls neg A c xs e 1300 20 _ (reads_only hr ho (fun _ _ h => h)) hc (hT.only ho) (by decide) (by decide) (by decide))
  have HO := Lib.hid (And.intro ho (And.intro hR hsz))
  clear hr hT ho hR hsz
  go_enter Tryz.func4, Tryz.ntmps4
  go_wp2_with fail
  refine HN.out.mono ?_
  rintro en w' ⟨v, z', e', rfl, h1, h2, h3, h4, h5⟩
  obtain ⟨neg1, A1, ds1, c1, rfl, _⟩ := h1 (fun _ => False) w' (fun _ h => h.elim) (Only.refl _ _)
  obtain ⟨ho, hR, hsz⟩ := HO.out
  have hRM := (h2.kept _ (blk_lt hR) (fun h => h)).trans hR
  have r0 := blk_cell hRM 0
  have r1 := blk_cell hRM 1
  have r2 := blk_cell hRM 2
  have f0 := blk_frozen hRM 0
  have f1 := blk_frozen hRM 1
  have f2 := blk_frozen hRM 2
  have t9 : (((w'.setCell ⟨w.heap.size + 1, 0, none⟩ (.bool neg1)).setCell ⟨w.heap.size + 1, 1, none⟩ (.slice A1 ds1.length c1)).setCell ⟨w.heap.size + 1, 2, none⟩ (.int .i64 e')).heap[w.heap.size + 1]? = some (.cells #[.bool neg1, .slice A1 ds1.length c1, .int .i64 e'] 24 (0, 0)) := by simpa using blk_set (blk_set (blk_set hRM 0 (.bool neg1)) 1 (.slice A1 ds1.length c1)) 2 (.int .i64 e')
  have hoS : Only w' (((w'.setCell ⟨w.heap.size + 1, 0, none⟩ (.bool neg1)).setCell ⟨w.heap.size + 1, 1, none⟩ (.slice A1 ds1.length c1)).setCell ⟨w.heap.size + 1, 2, none⟩ (.int .i64 e')) (fun k => k = w.heap.size + 1) := (((Only.refl w' (fun k => k = w.heap.size + 1)).set (.inr rfl) _).set (.inr rfl) _).set (.inr rfl) _
  have HF := Lib.hid (And.intro (h1 _ _ (by rintro k rfl; omega) hoS) (And.intro ((ho.trans h2).step hoS (by rintro i hi rfl; omega)) (And.intro h3 (And.intro h4 h5))))
  clear h1 h2 h3 h4 h5 HN HO ho hR hsz hRM hoS
  go_wp2_with fail
  refine bodyPost_ret (results_cell_row rfl _ _ (w.heap.size + 1) 24 #[.bool neg1, .slice A1 ds1.length c1, .int .i64 e'] (0, 0) _ rfl t9 Tryz.underlying24 rfl (by kernel_rfl)) rfl ?_
  obtain ⟨h1, h2, h3, h4, h5⟩ := HF.out
  exact ⟨_, z', e', rfl, h1, h2, h3, h4, by omega⟩
set_option maxRecDepth 100000 in
set_option maxHeartbeats 8000000 in
theorem sub_ok (neg neg' : Bool) (A A' : Option Addr) (c c' : Nat) (ds ds' : List Int) (e e' : Int) (w : World) (hr : ReadsInt w .i64 A ds.length ds) (hc : ds.length ≤ c) (hv : vB neg ds e = true) (hr' : ReadsInt w .i64 A' ds'.length ds') (hc' : ds'.length ≤ c') (hv' : vB neg' ds' e' = true) (hT : Tab w) :
    Calls Tryz.prog 11 #[.agg #[.bool neg, .slice A ds.length c, .int .i64 e], .agg #[.bool neg', .slice A' ds'.length c', .int .i64 e']] w (Ans w (sumZ (sval neg ds) e (-sval neg' ds') e') (sumE (sval neg ds) e (-sval neg' ds') e')) := by
  obtain ⟨k1, l1, hk1⟩ := sval_bits hv
  obtain ⟨k2, l2, hk2⟩ := sval_bits hv'
  obtain ⟨_, _, a1, a2⟩ := vB_digs hv
  obtain ⟨_, _, b1, b2⟩ := vB_digs hv'
  have HV := Lib.hid (And.intro hv (And.intro hv' (And.intro hk1 hk2)))
  have HO := Lib.hid (fun a b c d : Obj => (((((Only.refl w (fun _ => False)).alloc a).alloc b).alloc c).alloc d))
  clear hv hv' hk1 hk2
  go_enter_defers Tryz.func11, Tryz.ntmps11
  go_wp2_with fail
  obtain ⟨h1, h2, h3, h4⟩ := heap_four w (.cells #[.bool neg, .slice A ds.length c, .int .i64 e] 24) (.cells #[.bool neg', .slice A' ds'.length c', .int .i64 e'] 24) (.cells #[.bool false, .slice none 0 0, .int .i64 0] 24) (.cells #[.int .i64 0] 26)
  have ho4 := HO.out (.cells #[.bool neg, .slice A ds.length c, .int .i64 e] 24) (.cells #[.bool neg', .slice A' ds'.length c', .int .i64 e'] 24) (.cells #[.bool false, .slice none 0 0, .int .i64 0] 24) (.cells #[.int .i64 0] 26)
  have hsz4 : ((((w.alloc (.cells #[.bool neg, .slice A ds.length c, .int .i64 e] 24)).alloc (.cells #[.bool neg', .slice A' ds'.length c', .int .i64 e'] 24)).alloc (.cells #[.bool false, .slice none 0 0, .int .i64 0] 24)).alloc (.cells #[.int .i64 0] 26)).heap.size = w.heap.size + 1 + 1 + 1 + 1 := by simp
  generalize hw4 : ((((w.alloc (.cells #[.bool neg, .slice A ds.length c, .int .i64 e] 24)).alloc (.cells #[.bool neg', .slice A' ds'.length c', .int .i64 e'] 24)).alloc (.cells #[.bool false, .slice none 0 0, .int .i64 0] 24)).alloc (.cells #[.int .i64 0] 26)) = w4 at *
  clear hw4
  have hE4 := h4
  have hY4 := h3
  have hb5 := heap_alloc_new w4 (.cells #[.bool neg, .slice A ds.length c, .int .i64 e, .bool neg', .slice A' ds'.length c', .int .i64 e'] 24)
  have ho5 := ho4.alloc (.cells #[.bool neg, .slice A ds.length c, .int .i64 e, .bool neg', .slice A' ds'.length c', .int .i64 e'] 24)
  have ho45 : Only w4 (w4.alloc (.cells #[.bool neg, .slice A ds.length c, .int .i64 e, .bool neg', .slice A' ds'.length c', .int .i64 e'] 24)) (fun _ => False) := (Only.refl w4 _).alloc _
  rw [← hsz4]
  generalize w4.alloc (.cells #[.bool neg, .slice A ds.length c, .int .i64 e, .bool neg', .slice A' ds'.length c', .int .i64 e'] 24) = w5 at *
  refine (open2_ok w4.heap.size neg neg' A A' c c' ds ds' e e' w5 hb5 (reads_only hr ho5 (fun _ _ h => h)) hc HV.out.1 (reads_only hr' ho5 (fun _ _ h => h)) hc' HV.out.2.1).mono ?_
  rintro en w6 ⟨rfl, ho56, g, g', m, hout, hm, ⟨o, hi, hgB, hgm, hom⟩, ⟨o', hi', hgm', hom'⟩⟩
  have c2 : w6.cell? ⟨w5.heap.size, 2, none⟩ = some (.pointer (some ⟨g', 0, none⟩)) := blk_cell hout 2
  have HNG := Lib.hid (neg_int g' o' _ w6.drew (hi'.only (Only.refl w6 (fun _ => False)).drew (fun h => h) (fun _ _ h => h)))
  have hE6 := ((ho45.trans ho56).kept _ (blk_lt hE4) (fun h => h)).trans hE4
  have hY6 := ((ho45.trans ho56).kept _ (blk_lt hY4) (fun h => h)).trans hY4
  have ho06 := ho5.trans ho56
  have hT6 := hT.only ho06
  have hl0 := blk_lt hE4
  have hl45 := ho45.base.size
  clear h1 h2 h3 h4 hY4 hE4 hb5 ho45 ho56 ho5 ho4 HO hr hr'
  go_upto_region 3 with (fail)
  go_still_tail 8, (by kernel_rfl)
  change wpList _ _ _ _ _ w6.drew
  go_wp2_with fail
  refine HNG.out.mono ?_
  rintro en w7 ⟨rfl, o7, hi7, ho67, hoo⟩
  have hap : ∀ k, k < m → ¬ (k = g' ∨ o' = some k) := by
    rintro k hk (rfl | h)
    · omega
    · have := hom' k h; omega
  have hi1 : IsInt w7 g o (sval neg ds) := (hi.only (Only.refl w6 (fun _ => False)).drew (fun h => h) (fun _ _ h => h)).only ho67 (hap g hgm) (fun b hb => hap b (hom b hb).2)
  have hout7 := (ho67.kept _ (blk_lt hout) (hap _ (by omega))).trans hout
  have hE7 := (ho67.kept _ (blk_lt hE6) (hap _ (by omega))).trans hE6
  have hY7 := (ho67.kept _ (blk_lt hY6) (hap _ (by have := blk_lt hY6; omega))).trans hY6
  have ho07 : Only w w7 (fun _ => False) := ho06.drew.step ho67 (by
    rintro i hi hS
    have h9 := ho06.base.size
    have h10 : w5.heap.size ≤ m := hm
    exact hap i (by omega) hS)
  have HPL := Lib.hid (plus_any w5.heap.size g g' o o7 (sval neg ds) (-sval neg' ds') e e' k1 k2 w7 hout7 hi1 hi7 HV.out.2.2.1 HV.out.2.2.2.neg (by omega) (by omega) (by omega) (by omega) (by omega) (by omega))
  clear c2 hi hi' hout HNG hE6 hY6 ho06 ho67 hoo hi1 hi7 hout7 hap hom hom'
  go_wp2_with fail
  refine HPL.out.mono ?_
  rintro en w8 ⟨k, rfl, ⟨ok, hk⟩, ho78⟩
  have hE8 := (ho78.kept _ (blk_lt hE7) (fun h => h)).trans hE7
  have hY8 := (ho78.kept _ (blk_lt hY7) (fun h => h)).trans hY7
  have ho08 := ho07.trans ho78
  have hbd := sumE_bound (z1 := sval neg ds) (z2 := -sval neg' ds') a1 a2 b1 b2
  have HTL := Lib.hid (told_any k ok _ (sumE (sval neg ds) e (-sval neg' ds') e') w8 hk (sum_fits HV.out.2.2.1 HV.out.2.2.2.neg l1 l2 a1 a2 b1 b2) (hT.only ho08) (by omega) (by omega))
  clear hE7 hY7 ho78 ho07 HPL hT hk HV hT6
  generalize sumZ (sval neg ds) e (-sval neg' ds') e' = SZ at *
  generalize sumE (sval neg ds) e (-sval neg' ds') e' = SE at *
  go_wp2_with fail
  refine HTL.out.mono ?_
  clear HTL
  rintro en w7 ⟨ho7, hcase⟩
  have hY7 := (ho7.kept _ (blk_lt hY8) (fun h => h)).trans hY8
  have hE7 := (ho7.kept _ (blk_lt hE8) (fun h => h)).trans hE8
  have y0 : w7.cell? ⟨w.heap.size + 1 + 1, 0, none⟩ = some (.bool false) := blk_cell hY7 0
  have y1 : w7.cell? ⟨w.heap.size + 1 + 1, 1, none⟩ = some (.slice none 0 0) := blk_cell hY7 1
  have y2 : w7.cell? ⟨w.heap.size + 1 + 1, 2, none⟩ = some (.int .i64 0) := blk_cell hY7 2
  have e0 : w7.cell? ⟨w.heap.size + 1 + 1 + 1, 0, none⟩ = some (.int .i64 0) := blk_cell hE7 0
  have fy0 := blk_frozen hY7 0
  have fy1 := blk_frozen hY7 1
  have fy2 := blk_frozen hY7 2
  have fe0 := blk_frozen hE7 0
  have HST := Lib.hid (stored hY7 hE7)
  have HOW := Lib.hid ((ho08).trans ho7)
  rcases hcase with ⟨hz, rfl⟩ | ⟨hz, t, k, q, a1, a2, a3, a4, ⟨hbad, rfl⟩ | ⟨b1, b2, b3, A7, ds7, c7, rfl, hown, hval, hnm⟩⟩
  · have HZ := Lib.hid hz
    clear hz
    go_wp2_with fail
    obtain ⟨s1, s2, s3⟩ := HST.out (.bool false) (.slice none 0 0) (.int .i64 0) (.int .i64 0)
    refine door_ok rfl _ _ (w.heap.size + 1 + 1) (w.heap.size + 1 + 1 + 1) _ _ _ 0 _ rfl rfl s1 s2 ?_
    rw [HZ.out]
    exact Ans.zero HOW.out (s3.mono (by rintro i hi (rfl | rfl) <;> omega))
  · refine door_panic rfl _ w7 (w.heap.size + 1 + 1) (w.heap.size + 1 + 1 + 1) 2 _ rfl rfl hY7 hE7 (fun w' hw' => ?_)
    exact Ans.long hz a1 a2 a3 a4 hbad HOW.out (hw'.mono (by rintro i hi rfl; omega))
  · have HA := Lib.hid (And.intro hz (And.intro a1 (And.intro a2 (And.intro a3 (And.intro a4 (And.intro hown (And.intro hval hnm)))))))
    clear hz a1 a2 a3 a4 hown hval hnm
    go_wp2_with fail
    obtain ⟨s1, s2, s3⟩ := HST.out (.bool (decide (SZ < 0))) (.slice A7 ds7.length c7) (.int .i64 (SE + t)) (.int .i64 0)
    obtain ⟨g1, g2, g3, g4, g5, g6, g7, g8⟩ := HA.out
    refine door_ok rfl _ _ (w.heap.size + 1 + 1) (w.heap.size + 1 + 1 + 1) _ _ _ 0 _ rfl rfl s1 s2 ?_
    refine Ans.some_ g1 g2 g3 g4 g5 b1 b2 b3 HOW.out (s3.mono (by rintro i hi (rfl | rfl) <;> omega)) (own_two g6 hY7 hE7 s3) ?_ g7 g8
    have := (ho08).base.size
    exact this
theorem sub_num (v v' : Value) (z e z' e' : Int) (w : World) (h : NumV w v z e) (h' : NumV w v' z' e') (hT : Tab w) :
    Calls Tryz.prog 11 #[v, v'] w (Ans w (sumZ z e (-z') e') (sumE z e (-z') e')) := by
  obtain ⟨neg, A, ds, c, rfl, h1, h2, h3, rfl⟩ := h
  obtain ⟨neg', A', ds', c', rfl, h1', h2', h3', rfl⟩ := h'
  exact sub_ok neg neg' A A' c c' ds ds' e e' w h1 h2 h3 h1' h2' h3' hT
end Go.Proofs.YtlfmgdpbjapdjaaGreatFmtBesafter
