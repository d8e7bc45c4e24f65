/- Part 12 of the walk: RndBB RndCC ExD ExE ExF ExG ExH ExI ExJ. -/
import Derived.Test.YtlfmgdpbjapdjaaGreatFmtBesafterPt11
import Derived.Test.YtlfmgdpbjapdjaaGreatFmtBesafterPt10
import Derived.Recover
namespace Go.Proofs.YtlfmgdpbjapdjaaGreatFmtBesafter
open Go.RowKit
def NR (B : Nat) (x s : Int) (K : Nat) (up ex : Bool) : Prop := ∃ i t : Nat, (i : Int) - t = s ∧ NearK B x i (2 ^ t) K up ex
theorem NR.shift {B K : Nat} {x x' s : Int} {up ex : Bool} (j : Nat) (h : NR B x s K up ex) (hx : x = x' * 2 ^ j) : NR B x' (s + j) K up ex := by
  obtain ⟨i, t, h1, h2⟩ := h
  refine ⟨i + j, t, by omega, ?_⟩
  have e : x * 2 ^ i = x' * 2 ^ (i + j) := by rw [hx, Int.mul_assoc, ← Int.pow_add, Nat.add_comm]
  obtain ⟨a, b, c⟩ := h2
  rw [e] at a b c
  exact ⟨a, b, c⟩
def LeS (x1 s1 x2 s2 : Int) : Prop := x1 * 2 ^ (s1 - min s1 s2).toNat ≤ x2 * 2 ^ (s2 - min s1 s2).toNat
theorem LeS.cross {x1 s1 x2 s2 : Int} {i1 t1 i2 t2 : Nat} (h : LeS x1 s1 x2 s2) (h1 : (i1 : Int) - t1 = s1) (h2 : (i2 : Int) - t2 = s2) : x1 * 2 ^ i1 * 2 ^ t2 ≤ x2 * 2 ^ i2 * 2 ^ t1 := by
  unfold LeS at h
  have e1 : i1 + t2 = (s1 - min s1 s2).toNat + (min s1 s2 + t1 + t2).toNat := by omega
  have e2 : i2 + t1 = (s2 - min s1 s2).toNat + (min s1 s2 + t1 + t2).toNat := by omega
  rw [Int.mul_assoc, Int.mul_assoc, ← Int.pow_add, ← Int.pow_add, e1, e2, Int.pow_add, Int.pow_add, ← Int.mul_assoc, ← Int.mul_assoc]
  exact Int.mul_le_mul_of_nonneg_right h (Int.le_of_lt (Int.pow_pos (by omega)))
def rung (I t K : Nat) (up ex : Bool) : Nat := if t = 1 then min (if up = true then K - 1 else K) (I - 1) else if t = 2 then min (if up = true ∨ ex = true then K else K + 1) I else min K I
def Rd (B I t : Nat) (x s : Int) (r : Nat) (odd : Bool) : Prop := (x = 0 ∧ r = 0 ∧ odd = false) ∨ (0 < x ∧ ∃ K up ex, NR B x s K up ex ∧ r = rung I t K up ex ∧ odd = !(ex && decide (K < I)))
theorem Rd.mono {B I t r1 r2 : Nat} {x1 x2 s1 s2 : Int} {o1 o2 : Bool} (h1 : Rd B I t x1 s1 r1 o1) (h2 : Rd B I t x2 s2 r2 o2) (hB : 0 < B) (hle : LeS x1 s1 x2 s2) : r1 ≤ r2 := by
  rcases h1 with ⟨rfl, rfl, _⟩ | ⟨h0, K1, u1, e1, ⟨i1, t1, a1, n1⟩, rfl, _⟩
  · exact Nat.zero_le _
  rcases h2 with ⟨rfl, rfl, _⟩ | ⟨h0', K2, u2, e2, ⟨i2, t2, a2, n2⟩, rfl, _⟩
  · exfalso
    unfold LeS at hle
    rw [Int.zero_mul] at hle
    have := Int.mul_pos h0 (show (0 : Int) < 2 ^ (s1 - min s1 s2).toNat from Int.pow_pos (by omega))
    omega
  have hc := hle.cross a1 a2
  have p1 : (0 : Int) < 2 ^ t1 := Int.pow_pos (by omega)
  have p2 : (0 : Int) < 2 ^ t2 := Int.pow_pos (by omega)
  unfold rung
  by_cases c1 : t = 1
  · rw [if_pos c1, if_pos c1]
    have := down_mono n1 n2 hB p1 p2 hc
    omega
  · rw [if_neg c1, if_neg c1]
    by_cases c2 : t = 2
    · rw [if_pos c2, if_pos c2]
      have := away_mono n1 n2 hB p1 p2 hc
      omega
    · rw [if_neg c2, if_neg c2]
      have := near_mono n1 n2 hB p1 p2 hc
      omega
def tw (way : Nat) (n : Bool) : Nat := if way = 0 then 0 else if (way = 1) = (n = false) then 1 else 2
def pat (v : Int) (n : Bool) (r : Nat) : Int := if r = 0 then 0 else if n = true then (if v = 64 then (r : Int) - 9223372036854775808 else (r : Int) + 2147483648) else r
end Go.Proofs.YtlfmgdpbjapdjaaGreatFmtBesafter
namespace Go.Proofs.YtlfmgdpbjapdjaaGreatFmtBesafter
open Go.RowKit Go.Proofs.YtlfmgdpbjapdjaaGreatFmtBesafterW.PrintWords
theorem RoundRel.exp {p k : Nat} {T e rb sb : Int} {n : Bool} {a x e' : Int} (h : RoundRel p k T e rb sb n a x e') : e' = e + if Inc rb sb (T / 2 ^ k) = true ∧ T / 2 ^ k + 1 = 2 ^ p then 1 else 0 := by
  obtain ⟨_, h | h | h⟩ := h
  · rw [if_neg (by rw [h.1]; simp)]; omega
  · rw [if_neg (by omega)]; omega
  · rw [if_pos ⟨h.1, h.2.1⟩]; exact h.2.2.2
theorem RoundRel.some_ (p k : Nat) (T e rb sb : Int) (n : Bool) (hpk : p + k = 64) (h0 : 0 ≤ T) (h1 : T < 18446744073709551616) : ∃ a x e', RoundRel p k T e rb sb n a x e' := by
  have hq := (top_split T p k hpk h0 h1).1
  unfold RoundRel
  by_cases hI : Inc rb sb (T / 2 ^ k) = true
  · by_cases hc : T / 2 ^ k + 1 = 2 ^ p
    · exact ⟨_, _, _, rfl, .inr (.inr ⟨hI, hc, rfl, rfl⟩)⟩
    · exact ⟨_, _, _, rfl, .inr (.inl ⟨hI, by omega, rfl, rfl⟩)⟩
  · exact ⟨_, _, _, rfl, .inl ⟨by simpa using hI, rfl, rfl⟩⟩
theorem stk_dec (f : Nat → Int) (j s : Nat) : ∃ sb : Int, (Stk f j s ∧ sb = 0) ∨ (¬ Stk f j s ∧ sb = 1) := by
  by_cases h : Stk f j s
  · exact ⟨0, .inl ⟨h, rfl⟩⟩
  · exact ⟨1, .inr ⟨h, rfl⟩⟩
theorem NearK.nr {B K i t : Nat} {M s : Int} {up ex : Bool} (h : NearK B M i (2 ^ t) K up ex) (hs : (i : Int) - t = s) : NR B M s K up ex := ⟨i, t, hs, h⟩
def Near2 (B I : Nat) (x s : Int) (n : Bool) (r : Nat) (a : Int) : Prop := ∃ K up ex, NR B x s K up ex ∧ r = min K I ∧ a = (if I ≤ K then (if n = true then -1 else 1) else if ex = true then 0 else if up = n then -1 else 1)
theorem Near2.of {B I K : Nat} {x s : Int} {n : Bool} {r : Nat} {a : Int} {up ex : Bool} (h : NR B x s K up ex) (hr : r = min K I) (ha : a = (if I ≤ K then (if n = true then -1 else 1) else if ex = true then 0 else if up = n then -1 else 1)) : Near2 B I x s n r a := ⟨K, up, ex, h, hr, ha⟩
def F64All (w : World) (X s : Int) (n : Bool) (en : Ending) (w' : World) : Prop := ∃ (v r : Nat) (a : Int), en = .returned (.tuple #[.float .f64 v, .int .i8 a]) ∧ (v : Int) = sg n + r ∧ Near2 4503599627370496 9218868437227405312 X s n r a ∧ Only w w' (fun _ => False)
theorem fin_rung64 {p k : Nat} {T E rb sb : Int} {n : Bool} {a x e' : Int} {v K : Nat} (h : RoundRel p k T E rb sb n a x e') (hT0 : 9223372036854775808 ≤ T) (hT1 : T < 18446744073709551616) (hpk : p + k = 64) (hp : 0 < p)
    (he : e' ≤ 1024) (hv : (-1021 ≤ e' ∧ (v : Int) = sg n + (e' + 1021) * 4503599627370496 + x / 2048) ∨ (e' < -1021 ∧ (v : Int) = sg n + x / 2 ^ (64 - (1074 + e').toNat))) (hK : (v : Int) = sg n + K) (hl : -1074 ≤ e') : K < 9218868437227405312 := by
  have hx := RoundRel.word h hpk hp hT0 hT1
  rcases hv with ⟨h1, h2⟩ | ⟨h1, h2⟩
  · omega
  · obtain ⟨u, hu⟩ : ∃ u, u = 64 - (1074 + e').toNat := ⟨_, rfl⟩
    rw [← hu] at h2
    have hu1 : 11 ≤ u := by omega
    have hpw : (2 : Int) ^ 11 ≤ 2 ^ u := by exact_mod_cast Nat.pow_le_pow_right (by omega : 2 > 0) hu1
    rw [show (2 : Int) ^ 11 = 2048 by decide] at hpw
    have h3 : x / 2 ^ u ≤ x / 2048 := by
      refine Int.le_ediv_of_mul_le (by decide) ?_
      have a := Int.ediv_mul_le x (b := 2 ^ u) (by omega)
      have b := Int.mul_le_mul_of_nonneg_left hpw (Int.ediv_nonneg (by omega : (0 : Int) ≤ x) (by omega : (0 : Int) ≤ 2 ^ u))
      omega
    omega
theorem float64_all (x b c m P : Nat) (ys : List Int) (E : Int) (n : Bool) (w : World) (hx : w.heap[x]? = some (.cells (fl P 0 1 n (.slice (some ⟨b, 0, none⟩) m c) E) 119 (0, 0))) (hb : Blk w b ys) (hm : Mant ys m c) (hP : 64 ≤ P) (hP2 : P < 4294967296) (hE1 : E ≤ 2000000000) (hE0 : -2000000000 ≤ E) :
    Calls Tryz.prog 76 #[.pointer (some ⟨x, 0, none⟩)] w (F64All w (num (fun i => ys.getD i 0) m) (E - 64 * m + 1074) n) := by
  obtain ⟨g0, g1, g2, g3, g4, g5, g6⟩ := id hm
  obtain ⟨j, rfl⟩ : ∃ j, m = j + 1 := ⟨m - 1, by omega⟩
  rw [Nat.add_sub_cancel] at g6
  obtain ⟨T, hT⟩ : ∃ T, ys.getD j 0 = T := ⟨_, rfl⟩
  have hT1 : T < 18446744073709551616 := by rw [← hT]; exact (g5 j (by omega)).2
  have hT0 : 9223372036854775808 ≤ T := by rw [← hT]; exact g6
  have hTm : ys.getD (j + 1 - 1) 0 = T := by rw [Nat.add_sub_cancel]; exact hT
  by_cases hlo : E < -1074
  · refine (float64_low x b c (j + 1) P E n w hx hlo hE0).mono ?_
    rintro en w' ⟨rfl, ho⟩
    have hr := num_range (j + 1) g5
    have hpos : 0 < num (fun i => ys.getD i 0) (j + 1) := by
      have := Nrm.pos (ys := ys) (n := j + 1) ⟨g5, fun _ => by rw [Nat.add_sub_cancel, hT]; omega⟩ (by omega)
      exact this
    obtain ⟨t, ht⟩ : ∃ t : Nat, (t : Int) = 64 * (j + 1 : Nat) - E - 1074 := ⟨(64 * (j + 1 : Nat) - E - 1074).toNat, by omega⟩
    have hpw : (2 : Int) ^ (64 * (j + 1) + 1) ≤ 2 ^ t := by exact_mod_cast Nat.pow_le_pow_right (by omega : 2 > 0) (show 64 * (j + 1) + 1 ≤ t by omega)
    have hN := near_low 4503599627370496 (num (fun i => ys.getD i 0) (j + 1)) (2 ^ t) (by omega) hpos (by rw [Int.pow_succ] at hpw; omega)
    refine ⟨_, 0, _, rfl, ?_, .of (hN.nr (s := E - 64 * (j + 1 : Nat) + 1074) (by omega)) (by simp) (by cases n <;> simp), ho⟩
    · cases n <;> rfl
  by_cases hha : E = -1074
  · obtain ⟨sb, hst⟩ := stk_dec (fun i => ys.getD i 0) j 63
    refine (float64_half x b c (j + 1) P ys E sb n w hx hb hm hha (by rw [Nat.add_sub_cancel]; exact hst)).mono ?_
    rintro en w' ⟨rfl, ho⟩
    have hN := near_half 4503599627370496 (fun i => ys.getD i 0) j T sb (by omega) (by omega) g5 hT hT0 hst
    refine ⟨_, if sb = 0 then 0 else 1, _, rfl, ?_, .of (hN.nr (s := E - 64 * (j + 1 : Nat) + 1074) (by omega)) (by split <;> simp) ?_, ho⟩
    · rcases hst with ⟨_, rfl⟩ | ⟨_, rfl⟩ <;> cases n <;> rfl
    · rcases hst with ⟨_, rfl⟩ | ⟨_, rfl⟩ <;> cases n <;> simp
  by_cases hd : E < -1021
  · obtain ⟨p, hp⟩ : ∃ p : Nat, 1074 + E = p := ⟨(1074 + E).toNat, by omega⟩
    obtain ⟨k, hk⟩ : ∃ k, k = 64 - p := ⟨_, rfl⟩
    obtain ⟨sb, hst⟩ := stk_dec (fun i => ys.getD i 0) j (k - 1)
    refine (float64_D x b c (j + 1) p k P ys E T _ sb n w hx hb hm hP hP2 hTm (by omega) hd hp (by omega) hk rfl (by rw [Nat.add_sub_cancel]; exact hst) (fun a x e' h => by have := h.range; omega)).mono ?_
    rintro en w' ⟨a, x', e', v, rfl, hrel, ho, hv⟩
    have hrg := hrel.range
    obtain ⟨K, i, up, ex, hvK, hi, hN, ha⟩ := near_64 (fun i => ys.getD i 0) j hrel g5 hT hT0 rfl hst (.inr ⟨hd, hp, by omega, hk⟩) hv
    have hKI := fin_rung64 hrel hT0 hT1 (by omega) (by omega) (by omega) hv hvK (by omega)
    exact ⟨v, K, a, rfl, hvK, .of (hN.nr (by omega)) (by omega) (by rw [if_neg (by omega)]; exact ha), ho⟩
  obtain ⟨sb, hst⟩ := stk_dec (fun i => ys.getD i 0) j (11 - 1)
  obtain ⟨a, x', e', hrel⟩ := RoundRel.some_ 53 11 T E (T / 2 ^ (11 - 1) % 2) sb n (by omega) (by omega) hT1
  have hun : ∀ a2 x2 e2, RoundRel 53 11 T E (T / 2 ^ (11 - 1) % 2) sb n a2 x2 e2 → e2 = e' := fun a2 x2 e2 h => h.exp.trans hrel.exp.symm
  by_cases hf : e' ≤ 1024
  · have hrg := hrel.range
    refine (float64_N x b c (j + 1) P ys E T _ sb n w hx hb hm hP hP2 hTm (by omega) (by omega) rfl (by rw [Nat.add_sub_cancel]; exact hst) (fun a2 x2 e2 h => by rw [hun a2 x2 e2 h]; exact hf)).mono ?_
    rintro en w' ⟨a2, x2, e2, v, rfl, hrel2, ho, hv⟩
    obtain rfl := hun _ _ _ hrel2
    obtain ⟨K, i, up, ex, hvK, hi, hN, ha⟩ := near_64 (fun i => ys.getD i 0) j hrel2 g5 hT hT0 rfl hst (.inl ⟨by omega, rfl, rfl⟩) hv
    have hKI := fin_rung64 hrel2 hT0 hT1 (by omega) (by omega) hf hv hvK (by omega)
    exact ⟨v, K, a2, rfl, hvK, .of (hN.nr (by omega)) (by omega) (by rw [if_neg (by omega)]; exact ha), ho⟩
  · refine (float64_inf x b c (j + 1) P ys E T _ sb n w hx hb hm hP hP2 hTm hE1 (by omega) rfl (by rw [Nat.add_sub_cancel]; exact hst) (fun a2 x2 e2 h => by rw [hun a2 x2 e2 h]; omega)).mono ?_
    rintro en w' ⟨rfl, ho⟩
    obtain ⟨K, i, up, ex, hKI, hi, hN⟩ := near_inf64 (fun i => ys.getD i 0) j hrel g5 hT hT0 rfl hst (by omega) (by omega)
    refine ⟨_, 9218868437227405312, _, rfl, ?_, .of (hN.nr (s := E - 64 * (j + 1 : Nat) + 1074) (by omega)) (by omega) (by rw [if_pos hKI]), ho⟩
    · cases n <;> rfl
def F32All (w : World) (X s : Int) (n : Bool) (en : Ending) (w' : World) : Prop := ∃ (v r : Nat) (a : Int), en = .returned (.tuple #[.float .f32 v, .int .i8 a]) ∧ (v : Int) = sg2 n + r ∧ Near2 8388608 2139095040 X s n r a ∧ Only w w' (fun _ => False)
theorem fin_rung32 {p k : Nat} {T E rb sb : Int} {n : Bool} {a x e' : Int} {v K : Nat} (h : RoundRel p k T E rb sb n a x e') (hT0 : 9223372036854775808 ≤ T) (hT1 : T < 18446744073709551616) (hpk : p + k = 64) (hp : 0 < p)
    (he : e' ≤ 128) (hv : (-125 ≤ e' ∧ (v : Int) = sg2 n + (e' + 125) * 8388608 + x / 1099511627776) ∨ (e' < -125 ∧ (v : Int) = sg2 n + x / 2 ^ (64 - (149 + e').toNat))) (hK : (v : Int) = sg2 n + K) (hl : -149 ≤ e') : K < 2139095040 := by
  have hx := RoundRel.word h hpk hp hT0 hT1
  rcases hv with ⟨h1, h2⟩ | ⟨h1, h2⟩
  · omega
  · obtain ⟨u, hu⟩ : ∃ u, u = 64 - (149 + e').toNat := ⟨_, rfl⟩
    rw [← hu] at h2
    have hu1 : 40 ≤ u := by omega
    have hpw : (2 : Int) ^ 40 ≤ 2 ^ u := by exact_mod_cast Nat.pow_le_pow_right (by omega : 2 > 0) hu1
    rw [show (2 : Int) ^ 40 = 1099511627776 by decide] at hpw
    have h3 : x / 2 ^ u ≤ x / 1099511627776 := by
      refine Int.le_ediv_of_mul_le (by decide) ?_
      have a := Int.ediv_mul_le x (b := 2 ^ u) (by omega)
      have b := Int.mul_le_mul_of_nonneg_left hpw (Int.ediv_nonneg (by omega : (0 : Int) ≤ x) (by omega : (0 : Int) ≤ 2 ^ u))
      omega
    omega
theorem float32_all (x b c m P : Nat) (ys : List Int) (E : Int) (n : Bool) (w : World) (hx : w.heap[x]? = some (.cells (fl P 0 1 n (.slice (some ⟨b, 0, none⟩) m c) E) 119 (0, 0))) (hb : Blk w b ys) (hm : Mant ys m c) (hP : 64 ≤ P) (hP2 : P < 4294967296) (hE1 : E ≤ 2000000000) (hE0 : -2000000000 ≤ E) :
    Calls Tryz.prog 75 #[.pointer (some ⟨x, 0, none⟩)] w (F32All w (num (fun i => ys.getD i 0) m) (E - 64 * m + 149) n) := by
  obtain ⟨g0, g1, g2, g3, g4, g5, g6⟩ := id hm
  obtain ⟨j, rfl⟩ : ∃ j, m = j + 1 := ⟨m - 1, by omega⟩
  rw [Nat.add_sub_cancel] at g6
  obtain ⟨T, hT⟩ : ∃ T, ys.getD j 0 = T := ⟨_, rfl⟩
  have hT1 : T < 18446744073709551616 := by rw [← hT]; exact (g5 j (by omega)).2
  have hT0 : 9223372036854775808 ≤ T := by rw [← hT]; exact g6
  have hTm : ys.getD (j + 1 - 1) 0 = T := by rw [Nat.add_sub_cancel]; exact hT
  by_cases hlo : E < -149
  · refine (float32_low x b c (j + 1) P E n w hx hlo hE0).mono ?_
    rintro en w' ⟨rfl, ho⟩
    have hr := num_range (j + 1) g5
    have hpos : 0 < num (fun i => ys.getD i 0) (j + 1) := by
      have := Nrm.pos (ys := ys) (n := j + 1) ⟨g5, fun _ => by rw [Nat.add_sub_cancel, hT]; omega⟩ (by omega)
      exact this
    obtain ⟨t, ht⟩ : ∃ t : Nat, (t : Int) = 64 * (j + 1 : Nat) - E - 149 := ⟨(64 * (j + 1 : Nat) - E - 149).toNat, by omega⟩
    have hpw : (2 : Int) ^ (64 * (j + 1) + 1) ≤ 2 ^ t := by exact_mod_cast Nat.pow_le_pow_right (by omega : 2 > 0) (show 64 * (j + 1) + 1 ≤ t by omega)
    have hN := near_low 8388608 (num (fun i => ys.getD i 0) (j + 1)) (2 ^ t) (by omega) hpos (by rw [Int.pow_succ] at hpw; omega)
    refine ⟨_, 0, _, rfl, ?_, .of (hN.nr (s := E - 64 * (j + 1 : Nat) + 149) (by omega)) (by simp) (by cases n <;> simp), ho⟩
    · cases n <;> rfl
  by_cases hha : E = -149
  · obtain ⟨sb, hst⟩ := stk_dec (fun i => ys.getD i 0) j 63
    refine (float32_half x b c (j + 1) P ys E sb n w hx hb hm hha (by rw [Nat.add_sub_cancel]; exact hst)).mono ?_
    rintro en w' ⟨rfl, ho⟩
    have hN := near_half 8388608 (fun i => ys.getD i 0) j T sb (by omega) (by omega) g5 hT hT0 hst
    refine ⟨_, if sb = 0 then 0 else 1, _, rfl, ?_, .of (hN.nr (s := E - 64 * (j + 1 : Nat) + 149) (by omega)) (by split <;> simp) ?_, ho⟩
    · rcases hst with ⟨_, rfl⟩ | ⟨_, rfl⟩ <;> cases n <;> rfl
    · rcases hst with ⟨_, rfl⟩ | ⟨_, rfl⟩ <;> cases n <;> simp
  by_cases hd : E < -125
  · obtain ⟨p, hp⟩ : ∃ p : Nat, 149 + E = p := ⟨(149 + E).toNat, by omega⟩
    obtain ⟨k, hk⟩ : ∃ k, k = 64 - p := ⟨_, rfl⟩
    obtain ⟨sb, hst⟩ := stk_dec (fun i => ys.getD i 0) j (k - 1)
    refine (float32_D x b c (j + 1) p k P ys E T _ sb n w hx hb hm hP hP2 hTm (by omega) hd hp (by omega) hk rfl (by rw [Nat.add_sub_cancel]; exact hst) (fun a x e' h => by have := h.range; omega)).mono ?_
    rintro en w' ⟨a, x', e', v, rfl, hrel, ho, hv⟩
    have hrg := hrel.range
    obtain ⟨K, i, up, ex, hvK, hi, hN, ha⟩ := near_32 (fun i => ys.getD i 0) j hrel g5 hT hT0 rfl hst (.inr ⟨hd, hp, by omega, hk⟩) hv
    have hKI := fin_rung32 hrel hT0 hT1 (by omega) (by omega) (by omega) hv hvK (by omega)
    exact ⟨v, K, a, rfl, hvK, .of (hN.nr (by omega)) (by omega) (by rw [if_neg (by omega)]; exact ha), ho⟩
  obtain ⟨sb, hst⟩ := stk_dec (fun i => ys.getD i 0) j (40 - 1)
  obtain ⟨a, x', e', hrel⟩ := RoundRel.some_ 24 40 T E (T / 2 ^ (40 - 1) % 2) sb n (by omega) (by omega) hT1
  have hun : ∀ a2 x2 e2, RoundRel 24 40 T E (T / 2 ^ (40 - 1) % 2) sb n a2 x2 e2 → e2 = e' := fun a2 x2 e2 h => h.exp.trans hrel.exp.symm
  by_cases hf : e' ≤ 128
  · have hrg := hrel.range
    refine (float32_N x b c (j + 1) P ys E T _ sb n w hx hb hm hP hP2 hTm (by omega) (by omega) rfl (by rw [Nat.add_sub_cancel]; exact hst) (fun a2 x2 e2 h => by rw [hun a2 x2 e2 h]; exact hf)).mono ?_
    rintro en w' ⟨a2, x2, e2, v, rfl, hrel2, ho, hv⟩
    obtain rfl := hun _ _ _ hrel2
    obtain ⟨K, i, up, ex, hvK, hi, hN, ha⟩ := near_32 (fun i => ys.getD i 0) j hrel2 g5 hT hT0 rfl hst (.inl ⟨by omega, rfl, rfl⟩) hv
    have hKI := fin_rung32 hrel2 hT0 hT1 (by omega) (by omega) hf hv hvK (by omega)
    exact ⟨v, K, a2, rfl, hvK, .of (hN.nr (by omega)) (by omega) (by rw [if_neg (by omega)]; exact ha), ho⟩
  · refine (float32_inf x b c (j + 1) P ys E T _ sb n w hx hb hm hP hP2 hTm hE1 (by omega) rfl (by rw [Nat.add_sub_cancel]; exact hst) (fun a2 x2 e2 h => by rw [hun a2 x2 e2 h]; omega)).mono ?_
    rintro en w' ⟨rfl, ho⟩
    obtain ⟨K, i, up, ex, hKI, hi, hN⟩ := near_inf32 (fun i => ys.getD i 0) j hrel g5 hT hT0 rfl hst (by omega) (by omega)
    refine ⟨_, 2139095040, _, rfl, ?_, .of (hN.nr (s := E - 64 * (j + 1 : Nat) + 149) (by omega)) (by omega) (by rw [if_pos hKI]), ho⟩
    · cases n <;> rfl
theorem reads_only {w w1 : World} {S : Nat → Prop} {k : IntKind} {A : Option Addr} {n : Nat} {xs : List Int} (h : ReadsInt w k A n xs) (hw : Only w w1 S) (hs : ∀ ad, A = some ad → ¬ S ad.block) : ReadsInt w1 k A n xs :=
  ⟨h.1, h.2.1, fun hn => by
    obtain ⟨ad, e, hc⟩ := h.2.2 hn
    refine ⟨ad, e, fun j hj => ?_⟩
    have hb : (ad.add j).block = ad.block := by unfold Addr.add; split <;> rfl
    refine (World.cell?_of_block (hw.kept _ (World.block_lt_of_cell? w _ (hc j hj)) ?_)).trans (hc j hj)
    rw [hb]; exact hs ad e⟩
theorem num62 : (Tryz.prog.info? 44).map (fun i => (i.zero, i.size, i.bytes)) = some (some (.agg #[.pointer none, .int .i64 0]), 2, 16) := by kernel_rfl
theorem make_nums (n : Nat) (w : World) (hm : n < 1099511627776) :
    (Instr.makeSlice 41 (.int .i64 (n : Int)) (.int .i64 (n : Int))).run Tryz.prog w = .ok (.slice (some ⟨w.heap.size, 0, none⟩) n n) (w.alloc (.cells (madeCells (Value.agg #[.pointer none, .int .i64 0]).cells (n * 2)) 44)) := by
  obtain ⟨i, hi, h2⟩ := Option.map_eq_some_iff.1 num62
  simp only [Prod.mk.injEq] at h2
  obtain ⟨hz, hs, hb⟩ := h2
  have := run_make (P := Tryz.prog) w 41 44 i (.agg #[.pointer none, .int .i64 0]) Tryz.underlying41 hi hz .i64 .i64 (n : Int) (n : Int) (by omega) (by omega) (by rw [hb]; omega) (by omega)
  rw [this, Int.toNat_natCast, hs]
theorem made2 : madeCells #[Value.pointer none, .int .i64 0] 2 = #[.pointer none, .int .i64 0] := by
  apply Array.ext
  · simp [madeCells]
  · intro i h1 h2
    have : i = 0 ∨ i = 1 := by simp at h2; omega
    rcases this with rfl | rfl <;> simp [madeCells]
theorem made4 : madeCells #[Value.pointer none, .int .i64 0] 4 = #[.pointer none, .int .i64 0, .pointer none, .int .i64 0] := by
  apply Array.ext
  · simp [madeCells]
  · intro i h1 h2
    have : i = 0 ∨ i = 1 ∨ i = 2 ∨ i = 3 := by simp at h2; omega
    rcases this with rfl | rfl | rfl | rfl <;> simp [madeCells]
theorem New.far {B B' : Nat} {w w' : World} {S : Nat → Prop} {g : Nat} {z : Int} (h : New B w g z) (hB : B' ≤ B) (hw : Only w w' S) (hS : ∀ k, S k → k < B) : New B' w' g z := by
  obtain ⟨o, hi, hg, ho⟩ := h
  exact ⟨o, hi.only hw (fun e => by have := hS g e; omega) (fun b hb e => by have := hS b e; have := ho b hb; omega), by omega, fun b hb => by have := ho b hb; omega⟩
def numCells (neg : Bool) (A : Option Addr) (n c : Nat) (e : Int) : Array Value := #[.bool neg, .slice A n c, .int .i64 e]
def sval (neg : Bool) (ds : List Int) : Int := if neg then -val ds else val ds
theorem vB_digs {neg : Bool} {ds : List Int} {e : Int} (h : vB neg ds e = true) : Digs ds ∧ ds.length ≤ 2000 ∧ -1048576 ≤ e ∧ e ≤ 1048576 := by
  by_cases h0 : ds.length = 0
  · obtain ⟨_, rfl⟩ := vB_none h h0
    have : ds = [] := List.length_eq_zero_iff.1 h0
    subst this
    exact ⟨fun d hd => by simp at hd, by simp, by omega, by omega⟩
  · obtain ⟨h1, h2, _, h3, h4⟩ := vB_some h h0
    exact ⟨h1.1, h2, h3, h4⟩
set_option maxRecDepth 100000 in
set_option maxHeartbeats 4000000 in
theorem open1_ok (b : Nat) (neg : Bool) (A : Option Addr) (c : Nat) (ds : List Int) (e : Int) (w : World) (hb : w.heap[b]? = some (.cells (numCells neg A ds.length c e) 24 (0, 0))) (hr : ReadsInt w .i64 A ds.length ds) (hc : ds.length ≤ c) (hv : vB neg ds e = true) :
    Calls Tryz.prog 35 #[.slice (some ⟨b, 0, none⟩) 1 1] w fun en w' => en = .returned (.slice (some ⟨w.heap.size, 0, none⟩) 1 1) ∧ Only w w' (fun _ => False) ∧ ∃ g, w'.heap[w.heap.size]? = some (.cells #[.pointer (some ⟨g, 0, none⟩), .int .i64 e] 44 (0, 0)) ∧ New w.heap.size w' g (sval neg ds) := by
  obtain ⟨hdg, hlen, _, _⟩ := vB_digs hv
  have hmk : ∀ w, (Instr.makeSlice 41 (.int .i64 1) (.int .i64 1)).run Tryz.prog w = .ok (.slice (some ⟨w.heap.size, 0, none⟩) 1 1) (w.alloc (.cells (madeCells (Value.agg #[.pointer none, .int .i64 0]).cells 2) 44)) := fun w => make_nums 1 w (by omega)
  have c0 : w.cell? ⟨b, 0, none⟩ = some (.bool neg) := blk_cell hb 0
  have c1 : w.cell? ⟨b, 1, none⟩ = some (.slice A ds.length c) := blk_cell hb 1
  have c2 : w.cell? ⟨b, 2, none⟩ = some (.int .i64 e) := blk_cell hb 2
  have hlt : b < w.heap.size := blk_lt hb
  have HV := Lib.hid hv
  go_enter Tryz.func35, Tryz.ntmps35
  go_wp2_with fail
  refine wp_loop_rounds 2 ?_
  rw [rounds_succ]
  go_wp2_with fail
  obtain ⟨w1, hw1⟩ : ∃ w1 : World, w1 = (w.alloc (.cells (madeCells #[.pointer none, .int .i64 0] 2) 44)).alloc (.cells (numCells neg A ds.length c e) 24) := ⟨_, rfl⟩
  have ho1 : Only w w1 (fun _ => False) := by rw [hw1]; exact ((Only.refl w _).alloc _).alloc _
  have hO : w1.heap[w.heap.size]? = some (.cells (madeCells #[.pointer none, .int .i64 0] 2) 44 (0, 0)) := by rw [hw1]; exact heap_two' w _ _
  have hX : w1.heap[w.heap.size + 1]? = some (.cells (numCells neg A ds.length c e) 24 (0, 0)) := by rw [hw1]; exact heap_two w _ _
  have hsz1 : w.heap.size + 2 = w1.heap.size := by rw [hw1]; simp
  have HS := Lib.hid hsz1
  clear hsz1
  change Calls _ _ _ ((w.alloc (.cells (madeCells #[.pointer none, .int .i64 0] 2) 44)).alloc (.cells (numCells neg A ds.length c e) 24)) _
  rw [← hw1]
  clear hw1 c0 c1 c2
  refine (valid_calls neg A c ds e w1 (reads_only hr ho1 (fun _ _ h => h)) hc (by omega)).mono ?_
  rw [HV.out]
  rintro en w2 ⟨rfl, ho2⟩
  have hO2 := (ho2.kept _ (blk_lt hO) (fun h => h)).trans hO
  have hX2 := (ho2.kept _ (blk_lt hX) (fun h => h)).trans hX
  have x0 : w2.cell? ⟨w.heap.size + 1, 0, none⟩ = some (.bool neg) := blk_cell hX2 0
  have x1 : w2.cell? ⟨w.heap.size + 1, 1, none⟩ = some (.slice A ds.length c) := blk_cell hX2 1
  have x2 : w2.cell? ⟨w.heap.size + 1, 2, none⟩ = some (.int .i64 e) := blk_cell hX2 2
  have hr2 := reads_only hr (ho1.trans ho2) (fun _ _ h => h)
  have K : ∀ w3, Only w2.drew w3 (fun _ => False) → w3.cell? ⟨w.heap.size + 1, 0, none⟩ = some (.bool neg) ∧ w3.cell? ⟨w.heap.size + 1, 1, none⟩ = some (.slice A ds.length c) ∧ w3.cell? ⟨w.heap.size + 1, 2, none⟩ = some (.int .i64 e) ∧ w3.cell? ⟨w.heap.size, 0, none⟩ = some (.pointer none) ∧ w3.cell? ⟨w.heap.size, 1, none⟩ = some (.int .i64 0) ∧ w3.frozen? ⟨w.heap.size, 0, none⟩ = false ∧ w3.frozen? ⟨w.heap.size, 1, none⟩ = false ∧ w3.heap[w.heap.size]? = some (.cells #[.pointer none, .int .i64 0] 44 (0, 0)) := fun w3 h => by
    have h1 := (h.kept _ (blk_lt hO2) (fun h => h)).trans hO2
    rw [made2] at h1
    have h2 := (h.kept _ (blk_lt hX2) (fun h => h)).trans hX2
    exact ⟨blk_cell h2 0, blk_cell h2 1, blk_cell h2 2, blk_cell h1 0, blk_cell h1 1, blk_frozen h1 0, blk_frozen h1 1, h1⟩
  have HK := Lib.hid K
  have hW := whole_calls neg A c ds w2.drew (reads_only hr2 (Only.refl _ (fun _ => False)).drew (fun _ _ h => h)) hdg (by omega)
  have HW := Lib.hid hW
  have hsz : w.heap.size < w2.heap.size := blk_lt hO2
  clear K hW
  go_wp2_with fail
  go_region_held3 (fun w' => w'.cell? ⟨w.heap.size + 1, 0, none⟩ = some (.bool neg) ∧ w'.cell? ⟨w.heap.size + 1, 1, none⟩ = some (.slice A ds.length c) ∧ w'.cell? ⟨w.heap.size + 1, 2, none⟩ = some (.int .i64 e)) (first | go_keep | (refine ⟨?_, ?_, ?_⟩ <;> assumption))
    (first | (go_at_call 42; refine HW.out.mono ?_; rintro en w3 ⟨g, rfl, hg, ho3⟩; obtain ⟨y0, y1, y2, o0, o1, f0, f1, hO3⟩ := HK.out _ ho3))
  all_goals
    go_wp2_with fail
    rw [rounds_succ]
    go_wp2_with fail
    go_ret
    have hO4 := blk_set (blk_set hO3 0 (.pointer (some ⟨g, 0, none⟩))) 1 (.int .i64 e)
    refine ⟨rfl, (((ho1.trans ho2).drew.trans ho3).set (.inl (Nat.le_refl _)) _).set (.inl (Nat.le_refl _)) _, g, ?_, ?_⟩
    · simpa using hO4
    · refine hg.far (Nat.le_of_lt hsz) (S := fun k => k = w.heap.size) (((Only.refl w3 (fun k => k = w.heap.size)).set (.inr rfl) _).set (.inr rfl) _) ?_
      rintro k rfl
      exact hsz
set_option maxRecDepth 100000 in
set_option maxHeartbeats 2000000 in
theorem caught_idle (p : Addr) (w : World) :
    CallsD Tryz.prog 34 #[.pointer (some p)] .returning w fun e u' w' => e = .returned (.tuple #[]) ∧ u' = .returning ∧ w' = w := by
  refine callsD_of_wpS Tryz.func34 rfl fun c₀ cs hu => ?_
  apply wpS_seq
  apply wpS_region
  simp [wpOpsS, go_sem, recoverD, hu, Tryz.ntmps34, Exit.thenS]
  apply wpS_seq
  apply wpS_seq
  apply wpS_region
  simp [wpOpsS, go_sem, Exit.thenS]
  refine wpS_cond (t := true) (by simp [Act.eval, Array.replicate]) ?_
  simp only [if_true]
  refine wpS_of_wp (wp_ret ?_)
  cases c₀
  simp_all [bodyPostS, results, Tryz.results34, Exit.thenS]
set_option maxRecDepth 100000 in
set_option maxHeartbeats 2000000 in
theorem caught_some (E : Nat) (n x : Int) (older : List PanicEntry) (w : World) (hc : w.cell? ⟨E, 0, none⟩ = some (.int .i64 x)) (hz : w.frozen? ⟨E, 0, none⟩ = false) :
    CallsD Tryz.prog 34 #[.pointer (some ⟨E, 0, none⟩)] (.panicking ({ v := .iface 73 (.agg #[.int .i64 n]), recovered := false } :: older)) w fun e u' w' =>
      e = .returned (.tuple #[]) ∧ u' = .panicking ({ v := .iface 73 (.agg #[.int .i64 n]), recovered := true } :: older) ∧ w' = (w.alloc (.cells #[.int .i64 n] 73)).setCell ⟨E, 0, none⟩ (.int .i64 n) := by
  have hlt : E < w.heap.size := World.block_lt_of_cell? w _ hc
  have hne : ¬ E = w.heap.size := by omega
  refine callsD_of_wpS Tryz.func34 rfl fun c₀ cs hu => ?_
  apply wpS_seq
  apply wpS_region
  simp [wpOpsS, go_sem, recoverD, hu, Tryz.ntmps34, Exit.thenS]
  apply wpS_seq
  apply wpS_seq
  apply wpS_region
  simp [wpOpsS, go_sem, Exit.thenS]
  refine wpS_cond (t := false) (by simp [Act.eval, Array.replicate]) ?_
  simp only [Bool.false_eq_true, if_false]
  refine wpS_of_wp (wp_skip ?_)
  simp only [Exit.thenS]
  refine wpS_of_wp (Code.wp_mono (Q := fun e a w' => e = .normal ∧ a.defers = [] ∧ w' = (w.alloc (.cells #[.int .i64 n] 73)).setCell ⟨E, 0, none⟩ (.int .i64 n)) ?_ ?_)
  · rintro e a w' ⟨rfl, hd, rfl⟩
    cases c₀
    simp_all [bodyPostS, results, Tryz.results34]
  · clear hu
    have hta : ∀ w, (Instr.typeAssert (.iface 73 (.agg #[.int .i64 n])) 20 73 true).run Tryz.prog w = .ok (.tuple #[.agg #[.int .i64 n], .bool true]) w := fun w => by kernel_rfl
    have et : (#[Value.pointer (some ⟨E, 0, none⟩)] ++ ((((Array.replicate 19 undef).setIfInBounds 4 (Value.iface 73 (.agg #[.int .i64 n]))).setIfInBounds 1 (.iface 73 (.agg #[.int .i64 n]))).setIfInBounds 5 (.iface 73 (.agg #[.int .i64 n]))).setIfInBounds 6 (.bool false)) = #[.pointer (some ⟨E, 0, none⟩), undef, .iface 73 (.agg #[.int .i64 n]), undef, undef, .iface 73 (.agg #[.int .i64 n]), .iface 73 (.agg #[.int .i64 n]), .bool false, undef, undef, undef, undef, undef, undef, undef, undef, undef, undef, undef, undef] := by rfl
    rw [et]
    clear et
    go_wp2_with fail
theorem results_num {fn : Func} {p q : Tmp} (h : fn.results = #[.cell p 24, .cell q 26]) (tmps : Array Value) (w : World) (Y E : Nat) (a b c : Value) (n : Int)
    (hp : tmps.getD p undef = .pointer (some ⟨Y, 0, none⟩)) (hg : w.heap[Y]? = some (.cells #[a, b, c] 24 (0, 0))) (hq : tmps.getD q undef = .pointer (some ⟨E, 0, none⟩)) (hv : w.cell? ⟨E, 0, none⟩ = some (.int .i64 n)) :
    (results fn tmps).run Tryz.prog w = .ok (.tuple #[.agg #[a, b, c], .int .i64 n]) w := by
  have hp' : tmps[p]?.getD undef = .pointer (some ⟨Y, 0, none⟩) := by simpa using hp
  have hq' : tmps[q]?.getD undef = .pointer (some ⟨E, 0, none⟩) := by simpa using hq
  have h0 : w.cell? ⟨Y, 0, none⟩ = some a := blk_cell hg 0
  have h1 : w.cell? ⟨Y, 1, none⟩ = some b := blk_cell hg 1
  have h2 : w.cell? ⟨Y, 2, none⟩ = some c := blk_cell hg 2
  simp [results, h, hp', hq', asAddr, go_sem, h0, h1, h2, hv]
theorem heap_three (w : World) (a b c : Obj) : (((w.alloc a).alloc b).alloc c).heap[w.heap.size]? = some a ∧ (((w.alloc a).alloc b).alloc c).heap[w.heap.size + 1]? = some b ∧ (((w.alloc a).alloc b).alloc c).heap[w.heap.size + 2]? = some c := by
  have h := heap_two (w.alloc a) b c
  have h' := heap_two' (w.alloc a) b c
  have e : (w.alloc a).heap.size = w.heap.size + 1 := by simp
  rw [e] at h h'
  refine ⟨?_, h', h⟩
  exact (Below.heap_alloc _ c w.heap.size (by simp; omega)).trans (heap_two' w a b)
def errNum (n : Int) : Ending := .returned (.tuple #[.agg #[.bool false, .slice none 0 0, .int .i64 0], .int .i64 n])
def Ans (w : World) (z e : Int) (en : Ending) (w' : World) : Prop := Only w w' (fun _ => False) ∧
  ((z = 0 ∧ en = errNum 0) ∨
    (z ≠ 0 ∧ ∃ (t k : Nat) (q : Int), ((Int.natAbs z : Nat) : Int) = q * 2 ^ t ∧ q % 2 = 1 ∧ 0 < q ∧ BLen q k ∧
      (((60000 < k ∨ e + t < -1048576 ∨ 1048576 < e + t) ∧ en = errNum 2) ∨
        (k ≤ 60000 ∧ -1048576 ≤ e + t ∧ e + t ≤ 1048576 ∧ ∃ v ds, en = .returned (.tuple #[.agg #[.bool (decide (z < 0)), v, .int .i64 (e + t)], .int .i64 0]) ∧ w'.ownsRow w.heap.size 3 1 v ds.length (nums .i64 ds) ∧ val ds = q ∧ Nm ds))))
theorem door_panic {fn : Func} {p q : Tmp} (h : fn.results = #[.cell p 24, .cell q 26]) (tmps : Array Value) (w : World) (Y E : Nat) (n : Int) (R : Ending → World → Prop)
    (hp : tmps.getD p undef = .pointer (some ⟨Y, 0, none⟩)) (hq : tmps.getD q undef = .pointer (some ⟨E, 0, none⟩)) (hY : w.heap[Y]? = some (.cells #[.bool false, .slice none 0 0, .int .i64 0] 24 (0, 0))) (hE : w.heap[E]? = some (.cells #[.int .i64 0] 26 (0, 0)))
    (hR : ∀ w', Only w w' (fun k => k = E) → R (errNum n) w') :
    Leaves Tryz.prog fn tmps R [{ target := .fn (.func 34) #[], args := #[.pointer (some ⟨E, 0, none⟩)] }] (.panicking [{ v := .iface 73 (.agg #[.int .i64 n]), recovered := false }]) w := by
  have hne : Y ≠ E := blk_ne hY hE (by decide)
  refine leaves_cons (f := 34) (args := #[.pointer (some ⟨E, 0, none⟩)]) (by simp) (by simp [go_sem]) ?_
  refine (caught_some E n 0 [] w (blk_cell hE 0) (blk_frozen hE 0)).mono ?_
  rintro e u' w' ⟨rfl, rfl, rfl⟩
  have hE1 := blk_set (blk_alloc hE (.cells #[.int .i64 n] 73)) 0 (.int .i64 n)
  have hY1 := blk_far (blk_alloc hY (.cells #[.int .i64 n] 73)) (p := ⟨E, 0, none⟩) hne (.int .i64 n)
  refine ⟨_, results_num h tmps _ Y E _ _ _ n hp hY1 hq (by simpa using blk_cell hE1 0), hR _ ?_⟩
  exact ((Only.refl w (fun k => k = E)).alloc _).set (.inr rfl) _
theorem door_ok {fn : Func} {p q : Tmp} (h : fn.results = #[.cell p 24, .cell q 26]) (tmps : Array Value) (w : World) (Y E : Nat) (a b c : Value) (n : Int) (R : Ending → World → Prop)
    (hp : tmps.getD p undef = .pointer (some ⟨Y, 0, none⟩)) (hq : tmps.getD q undef = .pointer (some ⟨E, 0, none⟩)) (hY : w.heap[Y]? = some (.cells #[a, b, c] 24 (0, 0))) (hE : w.cell? ⟨E, 0, none⟩ = some (.int .i64 n))
    (hR : R (.returned (.tuple #[.agg #[a, b, c], .int .i64 n])) w) :
    Leaves Tryz.prog fn tmps R [{ target := .fn (.func 34) #[], args := #[.pointer (some ⟨E, 0, none⟩)] }] .returning w := by
  refine leaves_cons (f := 34) (args := #[.pointer (some ⟨E, 0, none⟩)]) (by simp) (by simp [go_sem]) ?_
  refine (caught_idle ⟨E, 0, none⟩ w).mono ?_
  rintro e u' w' ⟨rfl, rfl, rfl⟩
  exact ⟨_, results_num h tmps _ Y E _ _ _ n hp hY hq hE, hR⟩
theorem heap_four (w : World) (a b c d : Obj) : ((((w.alloc a).alloc b).alloc c).alloc d).heap[w.heap.size]? = some a ∧ ((((w.alloc a).alloc b).alloc c).alloc d).heap[w.heap.size + 1]? = some b ∧ ((((w.alloc a).alloc b).alloc c).alloc d).heap[w.heap.size + 1 + 1]? = some c ∧ ((((w.alloc a).alloc b).alloc c).alloc d).heap[w.heap.size + 1 + 1 + 1]? = some d := by
  obtain ⟨h1, h2, h3⟩ := heap_three w a b c
  have e : (((w.alloc a).alloc b).alloc c).heap.size = w.heap.size + 1 + 1 + 1 := by simp
  have g : ∀ i, i < w.heap.size + 1 + 1 + 1 → ((((w.alloc a).alloc b).alloc c).alloc d).heap[i]? = (((w.alloc a).alloc b).alloc c).heap[i]? := fun i hi => Below.heap_alloc _ d i (by rw [e]; exact hi)
  refine ⟨(g _ (by omega)).trans h1, (g _ (by omega)).trans h2, (g _ (by omega)).trans h3, ?_⟩
  rw [← e]; exact heap_alloc_new _ _
def ToldA (w : World) (z e : Int) (en : Ending) (w' : World) : Prop := Only w w' (fun _ => False) ∧
  ((z = 0 ∧ en = .returned (.agg #[.bool false, .slice none 0 0, .int .i64 0])) ∨
    (z ≠ 0 ∧ ∃ (t k : Nat) (q : Int), ((Int.natAbs z : Nat) : Int) = q * 2 ^ t ∧ q % 2 = 1 ∧ 0 < q ∧ BLen q k ∧
      (((60000 < k ∨ e + t < -1048576 ∨ 1048576 < e + t) ∧ en = gaveUp 2) ∨
        (k ≤ 60000 ∧ -1048576 ≤ e + t ∧ e + t ≤ 1048576 ∧ ∃ A ds c, en = .returned (.agg #[.bool (decide (z < 0)), .slice A ds.length c, .int .i64 (e + t)]) ∧ w'.ownsRow w.heap.size 3 1 (.slice A ds.length c) ds.length (nums .i64 ds) ∧ val ds = q ∧ Nm ds))))
theorem told_any (g : Nat) (o : Option Nat) (z e : Int) (w : World) (hi : IsInt w g o z) (hf : Fits (Int.natAbs z)) (hT : Tab w) (he : -2305843009213693952 ≤ e) (he2 : e ≤ 2305843009213693952) :
    Calls Tryz.prog 32 #[.agg #[.pointer (some ⟨g, 0, none⟩), .int .i64 e]] w (ToldA w z e) := by
  by_cases hz : z = 0
  · subst hz
    refine (told_zero g o e w hi).mono ?_
    rintro en w' ⟨rfl, h⟩
    exact ⟨h, .inl ⟨rfl, rfl⟩⟩
  · refine (told_some g o z e w hi hz hf hT he he2).mono ?_
    rintro en w' ⟨t, k, q, h1, h2, h3, h4, h5, h6⟩
    refine ⟨h5, .inr ⟨hz, t, k, q, h1, h2, h3, h4, ?_⟩⟩
    rcases h6 with h6 | ⟨a, b, c, v, ds, d, e, f⟩
    · exact .inl h6
    · obtain ⟨A, cp, rfl⟩ := own_slice e
      exact .inr ⟨a, b, c, A, ds, cp, d, e, f⟩
theorem Ans.zero {w w1 w' : World} {e : Int} (h1 : Only w w1 (fun _ => False)) (h2 : Only w1 w' (fun k => w.heap.size ≤ k)) : Ans w 0 e (errNum 0) w' :=
  ⟨h1.step h2 (fun i hi h => by omega), .inl ⟨rfl, rfl⟩⟩
theorem Ans.long {w w1 w' : World} {z e : Int} {t k : Nat} {q : Int} (hz : z ≠ 0) (a : ((Int.natAbs z : Nat) : Int) = q * 2 ^ t) (b : q % 2 = 1) (c : 0 < q) (d : BLen q k) (f : 60000 < k ∨ e + t < -1048576 ∨ 1048576 < e + t) (h1 : Only w w1 (fun _ => False)) (h2 : Only w1 w' (fun k => w.heap.size ≤ k)) : Ans w z e (errNum 2) w' :=
  ⟨h1.step h2 (fun i hi h => by omega), .inr ⟨hz, t, k, q, a, b, c, d, .inl ⟨f, rfl⟩⟩⟩
theorem Ans.some_ {w w1 w' : World} {z e : Int} {t k : Nat} {q : Int} {A : Option Addr} {ds : List Int} {cp B : Nat} (hz : z ≠ 0) (a : ((Int.natAbs z : Nat) : Int) = q * 2 ^ t) (b : q % 2 = 1) (c : 0 < q) (d : BLen q k) (f1 : k ≤ 60000) (f2 : -1048576 ≤ e + t) (f3 : e + t ≤ 1048576) (h1 : Only w w1 (fun _ => False)) (h2 : Only w1 w' (fun k => w.heap.size ≤ k)) (hown : w'.ownsRow B 3 1 (.slice A ds.length cp) ds.length (nums .i64 ds)) (hB : w.heap.size ≤ B) (hv : val ds = q) (hn : Nm ds) :
    Ans w z e (.returned (.tuple #[.agg #[.bool (decide (z < 0)), .slice A ds.length cp, .int .i64 (e + t)], .int .i64 0])) w' :=
  ⟨h1.step h2 (fun i hi h => by omega), .inr ⟨hz, t, k, q, a, b, c, d, .inr ⟨f1, f2, f3, _, ds, rfl, own_weaken hown hB, hv, hn⟩⟩⟩
theorem stored {w : World} {Y E : Nat} {x y z u : Value} (hY : w.heap[Y]? = some (.cells #[x, y, z] 24 (0, 0))) (hE : w.heap[E]? = some (.cells #[u] 26 (0, 0))) (a b c d : Value) :
    ((((w.setCell ⟨Y, 0, none⟩ a).setCell ⟨Y, 1, none⟩ b).setCell ⟨Y, 2, none⟩ c).setCell ⟨E, 0, none⟩ d).heap[Y]? = some (.cells #[a, b, c] 24 (0, 0)) ∧ ((((w.setCell ⟨Y, 0, none⟩ a).setCell ⟨Y, 1, none⟩ b).setCell ⟨Y, 2, none⟩ c).setCell ⟨E, 0, none⟩ d).cell? ⟨E, 0, none⟩ = some d ∧
      Only w ((((w.setCell ⟨Y, 0, none⟩ a).setCell ⟨Y, 1, none⟩ b).setCell ⟨Y, 2, none⟩ c).setCell ⟨E, 0, none⟩ d) (fun k => k = Y ∨ k = E) := by
  have hne : Y ≠ E := blk_ne hY hE (by decide)
  have h1 := blk_set (blk_set (blk_set hY 0 a) 1 b) 2 c
  have h2 := blk_far (blk_far (blk_far hE (p := ⟨Y, 0, none⟩) (Ne.symm hne) a) (p := ⟨Y, 1, none⟩) (Ne.symm hne) b) (p := ⟨Y, 2, none⟩) (Ne.symm hne) c
  refine ⟨?_, ?_, ?_⟩
  · simpa using blk_far h1 (p := ⟨E, 0, none⟩) hne d
  · simpa using blk_cell (blk_set h2 0 d) 0
  · exact ((((Only.refl w _).set (.inr (.inl rfl)) _).set (.inr (.inl rfl)) _).set (.inr (.inl rfl)) _).set (.inr (.inr rfl)) _
theorem own_two {w w' : World} {Y E base n : Nat} {v : Value} {xs : List Value} {cy ce : Array Value} (h : w.ownsRow base 3 1 v n xs) (hY : w.heap[Y]? = some (.cells cy 24 (0, 0))) (hE : w.heap[E]? = some (.cells ce 26 (0, 0))) (ho : Only w w' (fun k => k = Y ∨ k = E)) : w'.ownsRow base 3 1 v n xs := by
  refine own_move h (fun b hb => ho.kept b (own_lt h b hb) ?_)
  obtain ⟨cells, hc⟩ := own_typed h b hb
  rintro (rfl | rfl)
  · exact blk_ne hY hc (by decide) rfl
  · exact blk_ne hE hc (by decide) rfl
theorem Tab.only {w w' : World} (h : Tab w) (ho : Only w w' (fun _ => False)) : Tab w' := h.of (ho.kept _ h.lt (fun h => h))
theorem sval_abs (neg : Bool) {ds : List Int} (h : Digs ds) : ((Int.natAbs (sval neg ds) : Nat) : Int) = val ds := by
  have := (val_range ds h).1
  unfold sval
  cases neg <;> simp <;> omega
end Go.Proofs.YtlfmgdpbjapdjaaGreatFmtBesafter
namespace Go.Proofs.YtlfmgdpbjapdjaaGreatFmtBesafter
open Go.RowKit Go.Proofs.YtlfmgdpbjapdjaaGreatFmtBesafterW.PrintWords Go.Proofs.YtlfmgdpbjapdjaaGreatFmtBesafterW.PrintLast Go.Proofs.YtlfmgdpbjapdjaaGreatFmtBesafterW.PrintMore
theorem results_sign {fn : Func} {p q : Tmp} (h : fn.results = #[.tmp p, .cell q 26]) (tmps : Array Value) (w : World) (E : Nat) (a : Value) (n : Int)
    (hp : tmps.getD p undef = a) (hq : tmps.getD q undef = .pointer (some ⟨E, 0, none⟩)) (hv : w.cell? ⟨E, 0, none⟩ = some (.int .i64 n)) :
    (results fn tmps).run Tryz.prog w = .ok (.tuple #[a, .int .i64 n]) w := by
  have hp' : tmps[p]?.getD undef = a := by simpa using hp
  have hq' : tmps[q]?.getD undef = .pointer (some ⟨E, 0, none⟩) := by simpa using hq
  simp [results, h, hp', hq', asAddr, go_sem, hv]
theorem sign_door {fn : Func} {p q : Tmp} (h : fn.results = #[.tmp p, .cell q 26]) (tmps : Array Value) (w : World) (E : Nat) (a : Value) (n : Int) (R : Ending → World → Prop)
    (hp : tmps.getD p undef = a) (hq : tmps.getD q undef = .pointer (some ⟨E, 0, none⟩)) (hE : w.cell? ⟨E, 0, none⟩ = some (.int .i64 n))
    (hR : R (.returned (.tuple #[a, .int .i64 n])) w) :
    Leaves Tryz.prog fn tmps R [{ target := .fn (.func 34) #[], args := #[.pointer (some ⟨E, 0, none⟩)] }] .returning w := by
  refine leaves_cons (f := 34) (args := #[.pointer (some ⟨E, 0, none⟩)]) (by simp) (by simp [go_sem]) ?_
  refine (caught_idle ⟨E, 0, none⟩ w).mono ?_
  rintro e u' w' ⟨rfl, rfl, rfl⟩
  exact ⟨_, results_sign h tmps _ E _ n hp hq hE, hR⟩
end Go.Proofs.YtlfmgdpbjapdjaaGreatFmtBesafter
namespace Go.Proofs.YtlfmgdpbjapdjaaGreatFmtBesafter
open Go.RowKit Go.Proofs.YtlfmgdpbjapdjaaGreatFmtBesafterW.PrintWords
set_option maxRecDepth 100000 in
set_option maxHeartbeats 2000000 in
theorem newInt_neg (x : Int) (w : World) (h : x < 0) (h2 : -9223372036854775808 ≤ x) :
    Calls Tryz.prog 33 #[.int .i64 x] w fun e w' => ∃ g, e = .returned (.pointer (some ⟨g, 0, none⟩)) ∧ New w.heap.size w' g x ∧ Only w w' (fun _ => False) := by
  have h3 : (x == 0) = false := by rw [beq_eq_false_iff_ne]; omega
  have e1 : IntKind.u64.wrap (-(IntKind.u64.wrap x)) = -x := by rw [IntKind.wrap_u64, IntKind.wrap_u64]; omega
  go_enter Tryz.func33, Tryz.ntmps33
  go_wp2
  go_ret
  have hb : Blk (w.alloc (.cells (words [-x]) 110)) w.heap.size [-x] := Blk.new w [-x]
  have hg : ((w.alloc (.cells (words [-x]) 110)).alloc (.cells #[.bool true, .slice (some ⟨w.heap.size, 0, none⟩) 1 1] 87)).heap[w.heap.size + 1]? = some (.cells #[.bool true, .slice (some ⟨w.heap.size, 0, none⟩) 1 1] 87 (0, 0)) := heap_two w _ _
  have en : num (fun i => [-x].getD i 0) 1 = -x := by simp [num]
  refine ⟨_, rfl, ⟨some w.heap.size, ⟨.slice (some ⟨w.heap.size, 0, none⟩) 1 1, ?_, ?_⟩, Nat.le_succ _, fun c hc => by cases hc; exact Nat.le_refl _⟩, ((Only.refl _ _).alloc _).alloc _⟩
  · rw [decide_eq_true h]; exact hg
  · have ea : ((Int.natAbs x : Nat) : Int) = -x := by omega
    rw [ea]
    refine .own w.heap.size 1 [-x] (-x) (blk_alloc hb _) (by simp) (by simp [most]) ⟨fun i hi => ?_, fun _ => ?_⟩ en
    · obtain rfl : i = 0 := by omega
      show 0 ≤ -x ∧ -x < _
      omega
    · show -x ≠ 0
      omega
theorem newInt_all (x : Int) (w : World) (h : -9223372036854775808 ≤ x) (h2 : x < 9223372036854775808) :
    Calls Tryz.prog 33 #[.int .i64 x] w fun e w' => ∃ g, e = .returned (.pointer (some ⟨g, 0, none⟩)) ∧ New w.heap.size w' g x ∧ Only w w' (fun _ => False) := by
  by_cases h0 : x < 0
  · exact newInt_neg x w h0 h
  · exact newInt_any x w (by omega) h2
def IntAns (w : World) (n : Int) (en : Ending) (w' : World) : Prop := Only w w' (fun _ => False) ∧
  ((n = 0 ∧ en = .returned (.agg #[.bool false, .slice none 0 0, .int .i64 0])) ∨
    (n ≠ 0 ∧ ∃ (t : Nat) (q : Int), ((Int.natAbs n : Nat) : Int) = q * 2 ^ t ∧ q % 2 = 1 ∧ 0 < q ∧ t ≤ 64 ∧ ∃ A ds c, en = .returned (.agg #[.bool (decide (n < 0)), .slice A ds.length c, .int .i64 t]) ∧ w'.ownsRow w.heap.size 3 1 (.slice A ds.length c) ds.length (nums .i64 ds) ∧ val ds = q ∧ Nm ds))
theorem own_other_num {w w' : World} {Y base n : Nat} {v : Value} {xs : List Value} {cy : Array Value} (h : w.ownsRow base 3 1 v n xs) (hY : w.heap[Y]? = some (.cells cy 24 (0, 0))) (ho : Only w w' (fun k => k = Y)) : w'.ownsRow base 3 1 v n xs := by
  refine own_move h (fun b hb => ho.kept b (own_lt h b hb) ?_)
  obtain ⟨cells, hc⟩ := own_typed h b hb
  rintro rfl
  exact blk_ne hY hc (by decide) rfl
set_option maxRecDepth 100000 in
set_option maxHeartbeats 4000000 in
theorem int_calls (n : Int) (w : World) (h : -9223372036854775808 ≤ n) (h2 : n < 9223372036854775808) (hT : Tab w) :
    Calls Tryz.prog 18 #[.int .i64 n] w (IntAns w n) := by
  have ho1 := (Only.refl w (fun _ => False)).alloc (.cells #[.bool false, .slice none 0 0, .int .i64 0] 24)
  have hY : (w.alloc (.cells #[.bool false, .slice none 0 0, .int .i64 0] 24)).heap[w.heap.size]? = some (.cells #[.bool false, .slice none 0 0, .int .i64 0] 24 (0, 0)) := by simpa using heap_alloc_new w (.cells #[.bool false, .slice none 0 0, .int .i64 0] 24)
  have HN := Lib.hid (newInt_all n)
  have HH := Lib.hid (And.intro h h2)
  have hsz1 : w.heap.size < (w.alloc (.cells #[.bool false, .slice none 0 0, .int .i64 0] 24)).heap.size := by simp
  clear h h2
  go_enter Tryz.func18, Tryz.ntmps18
  go_wp2_with fail
  generalize w.alloc (.cells #[.bool false, .slice none 0 0, .int .i64 0] 24) = w1 at *
  refine (HN.out w1 HH.out.1 HH.out.2).mono ?_
  rintro en w2 ⟨g, rfl, ⟨o, hi, hgB, hoB⟩, ho2⟩
  have hY2 := (ho2.kept _ (blk_lt hY) (fun h => h)).trans hY
  go_wp2_with fail
  have hfit : Fits ((Int.natAbs n : Nat) : Int) := by
    have h1 := HH.out
    have e : (2 : Int) ^ 64 = 18446744073709551616 := by decide
    exact Fits.of (k := 64) (by rw [e]; omega) (by omega)
  refine (told_any g o n 0 w2 hi hfit (hT.only (ho1.trans ho2)) (by omega) (by omega)).mono ?_
  rintro en w7 ⟨ho7, hcase⟩
  have hY7 := (ho7.kept _ (blk_lt hY2) (fun h => h)).trans hY2
  have y0 : w7.cell? ⟨w.heap.size, 0, none⟩ = some (.bool false) := blk_cell hY7 0
  have y1 : w7.cell? ⟨w.heap.size, 1, none⟩ = some (.slice none 0 0) := blk_cell hY7 1
  have y2 : w7.cell? ⟨w.heap.size, 2, none⟩ = some (.int .i64 0) := blk_cell hY7 2
  have fy0 := blk_frozen hY7 0
  have fy1 := blk_frozen hY7 1
  have fy2 := blk_frozen hY7 2
  have HOW := Lib.hid ((ho1.trans ho2).trans ho7)
  have hst : ∀ a b c : Value, (((w7.setCell ⟨w.heap.size, 0, none⟩ a).setCell ⟨w.heap.size, 1, none⟩ b).setCell ⟨w.heap.size, 2, none⟩ c).heap[w.heap.size]? = some (.cells #[a, b, c] 24 (0, 0)) ∧ Only w7 (((w7.setCell ⟨w.heap.size, 0, none⟩ a).setCell ⟨w.heap.size, 1, none⟩ b).setCell ⟨w.heap.size, 2, none⟩ c) (fun k => k = w.heap.size) := fun a b c =>
    ⟨by simpa using blk_set (blk_set (blk_set hY7 0 a) 1 b) 2 c, (((Only.refl w7 (fun k => k = w.heap.size)).set (.inr rfl) _).set (.inr rfl) _).set (.inr rfl) _⟩
  have HST := Lib.hid hst
  clear hst
  rcases hcase with ⟨hz, rfl⟩ | ⟨hz, t, k, q, a1, a2, a3, a4, hb⟩
  · have HZ := Lib.hid hz
    clear hz
    go_wp2_with fail
    obtain ⟨s1, s3⟩ := HST.out (.bool false) (.slice none 0 0) (.int .i64 0)
    exact bodyPost_ret (results_cell_row rfl _ _ w.heap.size 24 #[.bool false, .slice none 0 0, .int .i64 0] (0, 0) _ rfl s1 Tryz.underlying24 rfl (by kernel_rfl)) rfl ⟨HOW.out.step s3 (by rintro i hi rfl; omega), .inl ⟨HZ.out, rfl⟩⟩
  · have hP : (0 : Int) < 2 ^ t := Int.pow_pos (by omega)
    have hH := HH.out
    have e64 : (2 : Int) ^ 64 = 18446744073709551616 := by decide
    have hqn : q ≤ ((Int.natAbs n : Nat) : Int) := by
      rw [a1]
      have := Int.mul_le_mul_of_nonneg_left (show (1 : Int) ≤ 2 ^ t by omega) (Int.le_of_lt a3)
      omega
    have htn : (2 : Int) ^ t ≤ ((Int.natAbs n : Nat) : Int) := by
      rw [a1]
      have := Int.mul_le_mul_of_nonneg_right (show (1 : Int) ≤ q by omega) (Int.le_of_lt hP)
      omega
    have ht : t < 64 := pow_lt (Int.lt_of_le_of_lt htn (by omega))
    have hk : k ≤ 64 := by
      rcases Nat.eq_zero_or_pos k with h | h
      · omega
      · have := pow_lt (Int.lt_of_le_of_lt (a4.2 h) (show q < 2 ^ 64 by omega))
        omega
    rcases hb with ⟨hbad, rfl⟩ | ⟨b1, b2, b3, A7, ds7, c7, rfl, hown, hval, hnm⟩
    · exact absurd hbad (by omega)
    · have HA := Lib.hid (And.intro hz (And.intro a1 (And.intro a2 (And.intro a3 (And.intro hown (And.intro hval hnm))))))
      clear hz a1 a2 a3 a4 hown hval hnm hP hqn htn hH e64
      go_wp2_with fail
      obtain ⟨s1, s3⟩ := HST.out (.bool (decide (n < 0))) (.slice A7 ds7.length c7) (.int .i64 (t : Int))
      obtain ⟨g1, g2, g3, g4, g6, g7, g8⟩ := HA.out
      refine bodyPost_ret (results_cell_row rfl _ _ w.heap.size 24 #[.bool (decide (n < 0)), .slice A7 ds7.length c7, .int .i64 (t : Int)] (0, 0) _ rfl s1 Tryz.underlying24 rfl (by kernel_rfl)) rfl ⟨HOW.out.step s3 (by rintro i hi rfl; omega), .inr ⟨g1, t, q, g2, g3, g4, by omega, A7, ds7, c7, rfl, own_weaken (own_other_num g6 hY7 s3) ?_, g7, g8⟩⟩
      have := (ho1.trans ho2).base.size
      exact this
theorem digits_calls (A : Option Addr) (c : Nat) (ds : List Int) (w : World) (hr : ReadsInt w .i64 A ds.length ds) (hc : ds.length ≤ c) (hl : ds.length < 4611686018427387904) :
    Calls Tryz.prog 41 #[.slice A ds.length c] w fun en w' => en = .returned (.bool (ds.all digB && decide (ds.length ≤ 2000))) ∧ Only w w' (fun _ => False) := by
  have hd := digits_l0 ds hl (ds.length + 1) 0 (Nat.zero_le _) (by omega)
  exact (F.exact_digits.calls (ds.length + 1) A c ds _ w (kd_ints hr) hc hd).mono fun _ _ ⟨h1, h2⟩ => ⟨h1, Only.of_drawn h2⟩
set_option maxRecDepth 100000 in
set_option maxHeartbeats 4000000 in
theorem make_ok (neg : Bool) (A : Option Addr) (c : Nat) (ds : List Int) (e : Int) (w : World) (hr : ReadsInt w .i64 A ds.length ds) (hc : ds.length ≤ c) (hT : Tab w) (hdg : Digs ds) (hlen : ds.length ≤ 2000) :
    Calls Tryz.prog 16 #[.bool neg, .slice A ds.length c, .int .i64 e] w (Ans w (sval neg ds) (min (max e (-4194304)) 4194304)) := by
  have HO := Lib.hid (fun a b : Obj => ((Only.refl w (fun _ => False)).alloc a).alloc b)
  have HD := Lib.hid (fun w1 (ho : Only w w1 (fun _ => False)) => digits_calls A c ds w1 (reads_only hr ho (fun _ _ h => h)) hc (by omega))
  have HW := Lib.hid (fun w1 (ho : Only w w1 (fun _ => False)) => whole_calls neg A c ds w1 (reads_only hr ho (fun _ _ h => h)) hdg (by omega))
  have HV := Lib.hid (show (ds.all digB && decide (ds.length ≤ 2000)) = true by rw [all_digs.2 hdg, decide_eq_true hlen]; rfl)
  go_enter_defers Tryz.func16, Tryz.ntmps16
  go_wp2_with fail
  have h1 := heap_two' w (.cells #[.bool false, .slice none 0 0, .int .i64 0] 24) (.cells #[.int .i64 0] 26)
  have h2 := heap_two w (.cells #[.bool false, .slice none 0 0, .int .i64 0] 24) (.cells #[.int .i64 0] 26)
  have ho2 := HO.out (.cells #[.bool false, .slice none 0 0, .int .i64 0] 24) (.cells #[.int .i64 0] 26)
  generalize (w.alloc (.cells #[.bool false, .slice none 0 0, .int .i64 0] 24)).alloc (.cells #[.int .i64 0] 26) = w2 at *
  refine (HD.out _ ho2).mono ?_
  rw [HV.out]
  rintro en w3 ⟨rfl, ho3⟩
  go_wp2_with fail
  refine (HW.out _ (ho2.trans ho3)).mono ?_
  rintro en w4 ⟨g, rfl, ⟨o, hi, hgB, hoB⟩, ho4⟩
  have ho24 := ho3.trans ho4
  have hY6 := (ho24.kept _ (blk_lt h1) (fun h => h)).trans h1
  have hE6 := (ho24.kept _ (blk_lt h2) (fun h => h)).trans h2
  have hX : -2305843009213693952 ≤ min (max e (-4194304)) 4194304 ∧ min (max e (-4194304)) 4194304 ≤ 2305843009213693952 := by omega
  have hfit : Fits ((Int.natAbs (sval neg ds) : Nat) : Int) := by rw [sval_abs neg hdg]; exact fits_val hdg (by omega)
  go_wp2_with fail
  have e1 : sval neg ds = if neg = true then -val ds else val ds := rfl
  rw [← e1] at hi
  generalize min (max e (-4194304)) 4194304 = X at *
  generalize sval neg ds = Z at *
  clear e1
  refine (told_any g o Z X w4 hi hfit (hT.only (ho2.trans ho24)) hX.1 hX.2).mono ?_
  rintro en w7 ⟨ho7, hcase⟩
  have hY7 := (ho7.kept _ (blk_lt hY6) (fun h => h)).trans hY6
  have hE7 := (ho7.kept _ (blk_lt hE6) (fun h => h)).trans hE6
  have y0 : w7.cell? ⟨w.heap.size, 0, none⟩ = some (.bool false) := blk_cell hY7 0
  have y1 : w7.cell? ⟨w.heap.size, 1, none⟩ = some (.slice none 0 0) := blk_cell hY7 1
  have y2 : w7.cell? ⟨w.heap.size, 2, none⟩ = some (.int .i64 0) := blk_cell hY7 2
  have e0 : w7.cell? ⟨w.heap.size + 1, 0, none⟩ = some (.int .i64 0) := blk_cell hE7 0
  have fy0 := blk_frozen hY7 0
  have fy1 := blk_frozen hY7 1
  have fy2 := blk_frozen hY7 2
  have fe0 := blk_frozen hE7 0
  have HST := Lib.hid (stored hY7 hE7)
  have HOW := Lib.hid ((ho2.trans ho24).trans ho7)
  rcases hcase with ⟨hz, rfl⟩ | ⟨hz, t, k, q, a1, a2, a3, a4, ⟨hbad, rfl⟩ | ⟨b1, b2, b3, A7, ds7, c7, rfl, hown, hval, hnm⟩⟩
  · have HZ := Lib.hid hz
    clear hz
    go_wp2_with fail
    obtain ⟨s1, s2, s3⟩ := HST.out (.bool false) (.slice none 0 0) (.int .i64 0) (.int .i64 0)
    refine door_ok rfl _ _ (w.heap.size) (w.heap.size + 1) _ _ _ 0 _ rfl rfl s1 s2 ?_
    rw [HZ.out]
    exact Ans.zero HOW.out (s3.mono (by rintro i hi (rfl | rfl) <;> omega))
  · refine door_panic rfl _ w7 (w.heap.size) (w.heap.size + 1) 2 _ rfl rfl hY7 hE7 (fun w' hw' => ?_)
    exact Ans.long hz a1 a2 a3 a4 hbad HOW.out (hw'.mono (by rintro i hi rfl; omega))
  · have HA := Lib.hid (And.intro hz (And.intro a1 (And.intro a2 (And.intro a3 (And.intro a4 (And.intro hown (And.intro hval hnm)))))))
    clear hz a1 a2 a3 a4 hown hval hnm
    go_wp2_with fail
    obtain ⟨s1, s2, s3⟩ := HST.out (.bool (decide (Z < 0))) (.slice A7 ds7.length c7) (.int .i64 (X + t)) (.int .i64 0)
    obtain ⟨g1, g2, g3, g4, g5, g6, g7, g8⟩ := HA.out
    refine door_ok rfl _ _ (w.heap.size) (w.heap.size + 1) _ _ _ 0 _ rfl rfl s1 s2 ?_
    refine Ans.some_ g1 g2 g3 g4 g5 b1 b2 b3 HOW.out (s3.mono (by rintro i hi (rfl | rfl) <;> omega)) (own_two g6 hY7 hE7 s3) ?_ g7 g8
    have := (ho2.trans ho24).base.size
    exact this
set_option maxRecDepth 100000 in
set_option maxHeartbeats 8000000 in
theorem open2_ok (b : Nat) (neg neg' : Bool) (A A' : Option Addr) (c c' : Nat) (ds ds' : List Int) (e e' : Int) (w : World) (hb : w.heap[b]? = some (.cells #[.bool neg, .slice A ds.length c, .int .i64 e, .bool neg', .slice A' ds'.length c', .int .i64 e'] 24 (0, 0))) (hr : ReadsInt w .i64 A ds.length ds) (hc : ds.length ≤ c) (hv : vB neg ds e = true) (hr' : ReadsInt w .i64 A' ds'.length ds') (hc' : ds'.length ≤ c') (hv' : vB neg' ds' e' = true) :
    Calls Tryz.prog 35 #[.slice (some ⟨b, 0, none⟩) 2 2] w fun en w' => en = .returned (.slice (some ⟨w.heap.size, 0, none⟩) 2 2) ∧ Only w w' (fun _ => False) ∧ ∃ g g' m, w'.heap[w.heap.size]? = some (.cells #[.pointer (some ⟨g, 0, none⟩), .int .i64 e, .pointer (some ⟨g', 0, none⟩), .int .i64 e'] 44 (0, 0)) ∧ w.heap.size ≤ m ∧ (∃ o, IsInt w' g o (sval neg ds) ∧ w.heap.size ≤ g ∧ g < m ∧ ∀ b, o = some b → w.heap.size ≤ b ∧ b < m) ∧ New m w' g' (sval neg' ds') := by
  obtain ⟨hdg, hlen, _, _⟩ := vB_digs hv
  obtain ⟨hdg', hlen', _, _⟩ := vB_digs hv'
  have hmk : ∀ w, (Instr.makeSlice 41 (.int .i64 2) (.int .i64 2)).run Tryz.prog w = .ok (.slice (some ⟨w.heap.size, 0, none⟩) 2 2) (w.alloc (.cells #[.pointer none, .int .i64 0, .pointer none, .int .i64 0] 44)) := fun w => by
    have h := make_nums 2 w (by omega)
    have e : (Value.agg #[.pointer none, .int .i64 0]).cells = #[.pointer none, .int .i64 0] := rfl
    rw [e, made4] at h
    exact h
  have c0 : w.cell? ⟨b, 0, none⟩ = some (.bool neg) := blk_cell hb 0
  have c1 : w.cell? ⟨b, 1, none⟩ = some (.slice A ds.length c) := blk_cell hb 1
  have c2 : w.cell? ⟨b, 2, none⟩ = some (.int .i64 e) := blk_cell hb 2
  have hlt : b < w.heap.size := blk_lt hb
  have HV := Lib.hid hv
  have HV' := Lib.hid hv'
  clear hv hv'
  go_enter Tryz.func35, Tryz.ntmps35
  go_wp2_with fail
  refine wp_loop_rounds 3 ?_
  rw [rounds_succ]
  go_wp2_with fail
  obtain ⟨w1, hw1⟩ : ∃ w1 : World, w1 = (w.alloc (.cells #[.pointer none, .int .i64 0, .pointer none, .int .i64 0] 44)).alloc (.cells #[.bool neg, .slice A ds.length c, .int .i64 e] 24) := ⟨_, rfl⟩
  have ho1 : Only w w1 (fun _ => False) := by rw [hw1]; exact ((Only.refl w _).alloc _).alloc _
  have hO : w1.heap[w.heap.size]? = some (.cells #[.pointer none, .int .i64 0, .pointer none, .int .i64 0] 44 (0, 0)) := by rw [hw1]; exact heap_two' w _ _
  have hX : w1.heap[w.heap.size + 1]? = some (.cells #[.bool neg, .slice A ds.length c, .int .i64 e] 24 (0, 0)) := by rw [hw1]; exact heap_two w _ _
  rw [← hw1]
  clear hw1 c0 c1 c2 hmk
  refine (valid_calls neg A c ds e w1 (reads_only hr ho1 (fun _ _ h => h)) hc (by omega)).mono ?_
  rw [HV.out]
  rintro en w2 ⟨rfl, ho2⟩
  have hO2 := (ho2.kept _ (blk_lt hO) (fun h => h)).trans hO
  have hX2 := (ho2.kept _ (blk_lt hX) (fun h => h)).trans hX
  have ho12 := ho1.trans ho2
  have hr2 := reads_only hr ho12 (fun _ _ h => h)
  have hsz2 : w.heap.size + 1 < w2.heap.size := blk_lt hX2
  have x0 : w2.cell? ⟨w.heap.size + 1, 0, none⟩ = some (.bool neg) := blk_cell hX2 0
  have x1 : w2.cell? ⟨w.heap.size + 1, 1, none⟩ = some (.slice A ds.length c) := blk_cell hX2 1
  have x2 : w2.cell? ⟨w.heap.size + 1, 2, none⟩ = some (.int .i64 e) := blk_cell hX2 2
  have K : ∀ w3, Only w2.drew w3 (fun _ => False) → w3.cell? ⟨w.heap.size + 1, 0, none⟩ = some (.bool neg) ∧ w3.cell? ⟨w.heap.size + 1, 1, none⟩ = some (.slice A ds.length c) ∧ w3.cell? ⟨w.heap.size + 1, 2, none⟩ = some (.int .i64 e) ∧ w3.cell? ⟨w.heap.size, 0, none⟩ = some (.pointer none) ∧ w3.cell? ⟨w.heap.size, 1, none⟩ = some (.int .i64 0) ∧ w3.frozen? ⟨w.heap.size, 0, none⟩ = false ∧ w3.frozen? ⟨w.heap.size, 1, none⟩ = false ∧ w3.heap[w.heap.size]? = some (.cells #[.pointer none, .int .i64 0, .pointer none, .int .i64 0] 44 (0, 0)) := fun w3 h => by
    have h1 := (h.kept _ (blk_lt hO2) (fun h => h)).trans hO2
    have h2 := (h.kept _ (blk_lt hX2) (fun h => h)).trans hX2
    exact ⟨blk_cell h2 0, blk_cell h2 1, blk_cell h2 2, blk_cell h1 0, blk_cell h1 1, blk_frozen h1 0, blk_frozen h1 1, h1⟩
  have HK := Lib.hid K
  have HW := Lib.hid (whole_calls neg A c ds w2.drew (reads_only hr2 (Only.refl _ (fun _ => False)).drew (fun _ _ h => h)) hdg (by omega))
  clear K
  go_wp2_with fail
  go_region_held3 (fun w' => w'.cell? ⟨w.heap.size + 1, 0, none⟩ = some (.bool neg) ∧ w'.cell? ⟨w.heap.size + 1, 1, none⟩ = some (.slice A ds.length c) ∧ w'.cell? ⟨w.heap.size + 1, 2, none⟩ = some (.int .i64 e)) (first | go_keep | (refine ⟨?_, ?_, ?_⟩ <;> assumption))
    (first | (go_at_call 42; refine HW.out.mono ?_; rintro en w3 ⟨g, rfl, hng, how3⟩; obtain ⟨y0, y1, y2, o0, o1, f0, f1, hOw3⟩ := HK.out _ how3))
  go_wp2_with fail
  have hO4 := blk_set (blk_set hOw3 0 (.pointer (some ⟨g, 0, none⟩))) 1 (.int .i64 e)
  have hOnly4 := (((Only.refl w3 (fun k => k = w.heap.size)).set (p := ⟨w.heap.size, 0, none⟩) (.inr rfl) (.pointer (some ⟨g, 0, none⟩))).set (p := ⟨w.heap.size, 1, none⟩) (.inr rfl) (.int .i64 e))
  have ho4 := (((ho12.drew).trans how3).set (p := ⟨w.heap.size, 0, none⟩) (.inl (Nat.le_refl _)) (.pointer (some ⟨g, 0, none⟩))).set (p := ⟨w.heap.size, 1, none⟩) (.inl (Nat.le_refl _)) (.int .i64 e)
  have hb4 := (ho4.kept b hlt (fun h => h)).trans hb
  clear x0 x1 x2 y0 y1 y2 o0 o1 f0 f1
  generalize (w3.setCell ⟨w.heap.size, 0, none⟩ (.pointer (some ⟨g, 0, none⟩))).setCell ⟨w.heap.size, 1, none⟩ (.int .i64 e) = w4 at *
  have hO5 : w4.heap[w.heap.size]? = some (.cells #[.pointer (some ⟨g, 0, none⟩), .int .i64 e, .pointer none, .int .i64 0] 44 (0, 0)) := by simpa using hO4
  obtain ⟨og, hig, hgB, hogB⟩ := hng
  have hd2 : w2.drew.heap.size = w2.heap.size := rfl
  rw [hd2] at hgB hogB
  have hig4 : IsInt w4 g og (sval neg ds) := hig.only hOnly4 (fun h => by omega) (fun b hb h => by have := hogB b hb; omega)
  have c3 : w4.cell? ⟨b, 3, none⟩ = some (.bool neg') := blk_cell hb4 3
  have c4 : w4.cell? ⟨b, 4, none⟩ = some (.slice A' ds'.length c') := blk_cell hb4 4
  have c5 : w4.cell? ⟨b, 5, none⟩ = some (.int .i64 e') := blk_cell hb4 5
  have hlt4 : b < w4.heap.size := blk_lt hb4
  have hgl := hig4.lt
  have hol := hig4.lt'
  have hslt := blk_lt hO5
  rw [rounds_succ]
  go_wp2_with fail
  obtain ⟨w5, hw5⟩ : ∃ w5 : World, w5 = w4.alloc (.cells #[.bool neg', .slice A' ds'.length c', .int .i64 e'] 24) := ⟨_, rfl⟩
  have ho45 : Only w4 w5 (fun _ => False) := by rw [hw5]; exact (Only.refl w4 _).alloc _
  have hX5 : w5.heap[w4.heap.size]? = some (.cells #[.bool neg', .slice A' ds'.length c', .int .i64 e'] 24 (0, 0)) := by rw [hw5]; simpa using heap_alloc_new w4 (.cells #[.bool neg', .slice A' ds'.length c', .int .i64 e'] 24)
  rw [← hw5]
  clear hw5 c3 c4 c5
  refine (valid_calls neg' A' c' ds' e' w5 (reads_only hr' (ho4.trans ho45) (fun _ _ h => h)) hc' (by omega)).mono ?_
  rw [HV'.out]
  rintro en w6 ⟨rfl, ho6⟩
  have ho46 := ho45.trans ho6
  have hO6 := (ho46.kept _ hslt (fun h => h)).trans hO5
  have hX6 := (ho6.kept _ (blk_lt hX5) (fun h => h)).trans hX5
  have hr6 := reads_only hr' (ho4.trans ho46) (fun _ _ h => h)
  have hsz6 : w4.heap.size < w6.heap.size := blk_lt hX6
  have hne6 : ¬ w4.heap.size = w.heap.size := by omega
  have hne7 : ¬ w.heap.size = w4.heap.size := by omega
  have x0 : w6.cell? ⟨w4.heap.size, 0, none⟩ = some (.bool neg') := blk_cell hX6 0
  have x1 : w6.cell? ⟨w4.heap.size, 1, none⟩ = some (.slice A' ds'.length c') := blk_cell hX6 1
  have x2 : w6.cell? ⟨w4.heap.size, 2, none⟩ = some (.int .i64 e') := blk_cell hX6 2
  have K : ∀ w3, Only w6.drew w3 (fun _ => False) → w3.cell? ⟨w4.heap.size, 0, none⟩ = some (.bool neg') ∧ w3.cell? ⟨w4.heap.size, 1, none⟩ = some (.slice A' ds'.length c') ∧ w3.cell? ⟨w4.heap.size, 2, none⟩ = some (.int .i64 e') ∧ w3.cell? ⟨w.heap.size, 2, none⟩ = some (.pointer none) ∧ w3.cell? ⟨w.heap.size, 3, none⟩ = some (.int .i64 0) ∧ w3.frozen? ⟨w.heap.size, 2, none⟩ = false ∧ w3.frozen? ⟨w.heap.size, 3, none⟩ = false ∧ w3.heap[w.heap.size]? = some (.cells #[.pointer (some ⟨g, 0, none⟩), .int .i64 e, .pointer none, .int .i64 0] 44 (0, 0)) := fun w3 h => by
    have h1 := (h.kept _ (blk_lt hO6) (fun h => h)).trans hO6
    have h2 := (h.kept _ (blk_lt hX6) (fun h => h)).trans hX6
    exact ⟨blk_cell h2 0, blk_cell h2 1, blk_cell h2 2, blk_cell h1 2, blk_cell h1 3, blk_frozen h1 2, blk_frozen h1 3, h1⟩
  have HK := Lib.hid K
  have HW := Lib.hid (whole_calls neg' A' c' ds' w6.drew (reads_only hr6 (Only.refl _ (fun _ => False)).drew (fun _ _ h => h)) hdg' (by omega))
  clear K
  go_wp2_with fail
  go_region_held3 (fun w' => w'.cell? ⟨w4.heap.size, 0, none⟩ = some (.bool neg') ∧ w'.cell? ⟨w4.heap.size, 1, none⟩ = some (.slice A' ds'.length c') ∧ w'.cell? ⟨w4.heap.size, 2, none⟩ = some (.int .i64 e')) (first | go_keep | (refine ⟨?_, ?_, ?_⟩ <;> assumption))
    (first | (go_at_call 42; refine HW.out.mono ?_; rintro en w7 ⟨g', rfl, hng', how7⟩; obtain ⟨y0, y1, y2, o0, o1, f0, f1, hOw7⟩ := HK.out _ how7))
  go_wp2_with fail
  rw [rounds_succ]
  go_wp2_with fail
  go_ret
  have hO8 := blk_set (blk_set hOw7 2 (.pointer (some ⟨g', 0, none⟩))) 3 (.int .i64 e')
  have hs8 := (((Only.refl w7 (fun k => k = w.heap.size)).set (p := ⟨w.heap.size, 2, none⟩) (.inr rfl) (.pointer (some ⟨g', 0, none⟩))).set (p := ⟨w.heap.size, 3, none⟩) (.inr rfl) (.int .i64 e'))
  have hg7 := (hig4.only ((ho46.drew).trans how7) (fun h => h) (fun _ _ h => h)).only hs8 (fun h => by omega) (fun b hb h => by have := hogB b hb; omega)
  refine ⟨rfl, (((ho4.trans ho46).drew.trans how7).set (.inl (Nat.le_refl _)) _).set (.inl (Nat.le_refl _)) _, g, g', w4.heap.size, ?_, by omega, ⟨og, hg7, by omega, hgl, fun b hb => ⟨by have := hogB b hb; omega, hol b hb⟩⟩, ?_⟩
  · simpa using hO8
  · refine hng'.far (Nat.le_of_lt hsz6) (S := fun k => k = w.heap.size) hs8 ?_
    rintro k rfl
    show w.heap.size < w6.heap.size
    omega
end Go.Proofs.YtlfmgdpbjapdjaaGreatFmtBesafter
