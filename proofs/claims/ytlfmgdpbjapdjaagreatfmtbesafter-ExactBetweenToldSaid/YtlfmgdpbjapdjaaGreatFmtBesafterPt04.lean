/- Part 4 of the walk: RndE NatT NatL NatM NatN NatP NatQ IntD IntE IntF IntH. -/
import Derived.Test.YtlfmgdpbjapdjaaGreatFmtBesafterPt02
import Derived.Test.YtlfmgdpbjapdjaaGreatFmtBesafterPt03
import Derived.Deep.QuietTactic
import Derived.BigQuiet
import Derived.Lib.Builder
namespace Go.Proofs.YtlfmgdpbjapdjaaGreatFmtBesafter
open Go.RowKit Go.Proofs.YtlfmgdpbjapdjaaGreatFmtBesafterW.PrintWords
theorem set_same (ys : List Int) (h : 1 ≤ ys.length) : ys.set 0 (ys.getD 0 0) = ys := by
  cases ys with
  | nil => simp at h
  | cons x l => rfl
theorem pow_pred (k : Nat) (h : 0 < k) : (2 : Int) ^ k = 2 ^ (k - 1) * 2 := by
  obtain ⟨j, rfl⟩ : ∃ j, k = j + 1 := ⟨k - 1, by omega⟩
  rw [Nat.add_sub_cancel, Int.pow_succ]
def Stays (w : World) (f b : Nat) (p : Nat) (e : Int) (n : Bool) (m c : Nat) (ys : List Int) (en : Ending) (w' : World) : Prop := en = .returned (.tuple #[]) ∧ w'.heap[f]? = some (.cells (fl p 0 1 n (.slice (some ⟨b, 0, none⟩) m c) e) 119 (0, 0)) ∧ Blk w' b ys ∧ Only w w' (fun k => k = f ∨ k = b)
set_option linter.unusedVariables false in
set_option linter.unusedSimpArgs false in
set_option maxRecDepth 100000 in
set_option maxHeartbeats 8000000 in
theorem round_fits (f b c m p : Nat) (ys : List Int) (a e : Int) (n : Bool) (w : World) (hf : w.heap[f]? = some (.cells (fl p a 1 n (.slice (some ⟨b, 0, none⟩) m c) e) 119 (0, 0))) (hb : Blk w b ys) (hm : m < 16777218) (hp : 64 * m ≤ p) :
    Calls Tryz.prog 124 #[.pointer (some ⟨f, 0, none⟩), .int .u64 0] w (Stays w f b p e n m c ys) := by
  have c0 : w.cell? ⟨f, 0, none⟩ = some (.int .u32 p) := blk_cell hf 0
  have c2 : w.cell? ⟨f, 2, none⟩ = some (.int .i8 a) := blk_cell hf 2
  have c3 : w.cell? ⟨f, 3, none⟩ = some (.int .u8 1) := blk_cell hf 3
  have c5 : w.cell? ⟨f, 5, none⟩ = some (.slice (some ⟨b, 0, none⟩) m c) := blk_cell hf 5
  have f2 := blk_frozen hf 2
  have hne : f ≠ b := blk_ne hf hb (by decide)
  have m1 : IntKind.u32.wrap (m : Int) = m := by rw [IntKind.wrap_u32]; omega
  have m2 : IntKind.u32.wrap ((m : Int) * 64) = (m : Int) * 64 := by rw [IntKind.wrap_u32]; omega
  have m6 : decide ((m : Int) * 64 ≤ p) = true := by rw [decide_eq_true_eq]; omega
  have HS : Hid (Stays w f b p e n m c ys (.returned (.tuple #[])) (w.setCell ⟨f, 2, none⟩ (.int .i8 0))) := Lib.hid ⟨rfl, by simpa [fl] using blk_set hf 2 (.int .i8 0), blk_far hb (p := ⟨f, 2, none⟩) (Ne.symm hne) _, (Only.refl w (fun k => k = f ∨ k = b)).set (p := ⟨f, 2, none⟩) (.inr (.inl rfl)) _⟩
  clear hf hb
  go_enter Tryz.func124, Tryz.ntmps124
  go_wp2_with fail
  go_end0
  exact HS.out
set_option linter.unusedVariables false in
set_option linter.unusedSimpArgs false in
set_option maxRecDepth 100000 in
set_option maxHeartbeats 8000000 in
theorem round_low (f b c m p k : Nat) (ys : List Int) (a e T : Int) (n : Bool) (w : World) (hf : w.heap[f]? = some (.cells (fl p a 1 n (.slice (some ⟨b, 0, none⟩) m c) e) 119 (0, 0))) (hb : Blk w b ys) (hm : m < 16777218) (hmy : m ≤ ys.length) (hmc : m ≤ c) (hw : Wd (fun i => ys.getD i 0) m) (hp : p = 64 * m - k) (hk : 0 < k) (hk2 : k < 64) (hm0 : 0 < m) (hT : ys.getD 0 0 = T) (hlow : T % 2 ^ k = 0) :
    Calls Tryz.prog 124 #[.pointer (some ⟨f, 0, none⟩), .int .u64 0] w (Stays w f b p e n m c ys) := by
  have hTr : 0 ≤ T ∧ T < 18446744073709551616 := by rw [← hT]; exact hw 0 (by omega)
  have c0 : w.cell? ⟨f, 0, none⟩ = some (.int .u32 p) := blk_cell hf 0
  have c1 : w.cell? ⟨f, 1, none⟩ = some (.int .u8 0) := blk_cell hf 1
  have c2 : w.cell? ⟨f, 2, none⟩ = some (.int .i8 a) := blk_cell hf 2
  have c3 : w.cell? ⟨f, 3, none⟩ = some (.int .u8 1) := blk_cell hf 3
  have c5 : w.cell? ⟨f, 5, none⟩ = some (.slice (some ⟨b, 0, none⟩) m c) := blk_cell hf 5
  have f2 := blk_frozen hf 2
  have x0 : w.cell? ⟨b, 0, none⟩ = some (.int .u64 T) := by rw [hb.cell 0 (by omega), hT]
  have g0 := blk_frozen hb 0
  have hne : f ≠ b := blk_ne hf hb (by decide)
  have hb1 : Blk (w.setCell ⟨f, 2, none⟩ (.int .i8 0)) b ys := blk_far hb (p := ⟨f, 2, none⟩) (Ne.symm hne) _
  have m1 : IntKind.u32.wrap (m : Int) = m := by rw [IntKind.wrap_u32]; omega
  have m2 : IntKind.u32.wrap ((m : Int) * 64) = (m : Int) * 64 := by rw [IntKind.wrap_u32]; omega
  have m3 : (m : Int) * 64 - p - 1 = ((64 * 0 + (k - 1) : Nat) : Int) := by omega
  have m4 : IntKind.u32.wrap ((m : Int) * 64 - p) = (m : Int) * 64 - p := by rw [IntKind.wrap_u32]; omega
  have m5 : IntKind.u32.wrap (((64 * 0 + (k - 1) : Nat) : Int)) = ((64 * 0 + (k - 1) : Nat) : Int) := by rw [IntKind.wrap_u32]; omega
  have m6 : decide ((m : Int) * 64 ≤ p) = false := by rw [decide_eq_false_iff_not]; omega
  have m7 : IntKind.u32.wrap ((p : Int) + 63) = (p : Int) + 63 := by rw [IntKind.wrap_u32]; omega
  have m8 : ((p : Int) + 63) / 64 = m := by omega
  have m9 : ((m : Int) * 64 - p).toNat = k := by omega
  have e1 : T / 2 ^ (k - 1) % 2 = 0 := by
    have : T = 2 ^ k * (T / 2 ^ k) := by have := Int.mul_ediv_add_emod T (2 ^ k); omega
    rw [this, pow_pred k hk, Int.mul_assoc, Int.mul_ediv_cancel_left _ (Int.ne_of_gt (Int.pow_pos (by omega)))]
    exact Int.mul_emod_right _ _
  have e2 : T % 2 ^ (k - 1) = 0 := by
    have : T = 2 ^ k * (T / 2 ^ k) := by have := Int.mul_ediv_add_emod T (2 ^ k); omega
    rw [this, pow_pred k hk, Int.mul_assoc]
    exact Int.mul_emod_right _ _
  have HBIT : Hid (Calls Tryz.prog 142 #[.slice (some ⟨b, 0, none⟩) m c, .int .u64 ((64 * 0 + (k - 1) : Nat) : Int)] (w.setCell ⟨f, 2, none⟩ (.int .i8 0)) fun e w' => e = .returned (.int .u64 0) ∧ w' = w.setCell ⟨f, 2, none⟩ (.int .i8 0)) := Lib.hid ((bit_at b m c 0 (k - 1) ys _ hb1 hmy (by omega) (by omega) (by omega) hw).mono (by rintro e w' ⟨h1, h2⟩; rw [hT, e1] at h1; exact ⟨h1, h2⟩))
  have HST : Hid (Calls Tryz.prog 98 #[.slice (some ⟨b, 0, none⟩) m c, .int .u64 ((64 * 0 + (k - 1) : Nat) : Int)] (w.setCell ⟨f, 2, none⟩ (.int .i8 0)) fun e w' => e = .returned (.int .u64 0) ∧ w' = w.setCell ⟨f, 2, none⟩ (.int .i8 0)) := Lib.hid ((sticky_at b m c 0 (k - 1) ys _ hb1 hmy (by omega) hmc (by omega) (by omega) hw).mono (by
    rintro e w' ⟨h1, h2⟩
    refine ⟨?_, h2⟩
    rcases h1 with h | h
    · exact h.2
    · exact absurd ⟨fun i hi => by omega, by show ys.getD 0 0 % _ = 0; rw [hT]; exact e2⟩ h.1))
  have b1 : bits .and .u64 0 1 = 0 := by decide +kernel
  have b3 : bits .or .u64 0 0 = 0 := by decide +kernel
  have hL : (2 : Int) ^ k < 18446744073709551616 := by
    have := Int.pow_lt_pow_of_lt (a := 2) (by decide) (show k < 64 by omega)
    rw [show (2 : Int) ^ 64 = 18446744073709551616 by decide] at this
    exact this
  have hL0 : (0 : Int) < 2 ^ k := Int.pow_pos (by omega)
  have hLw : IntKind.u64.wrap (2 ^ k) = 2 ^ k := by rw [IntKind.wrap_u64]; exact Int.emod_eq_of_lt (by omega) hL
  have hL1 : IntKind.u64.wrap (2 ^ k - 1) = 2 ^ k - 1 := by rw [IntKind.wrap_u64]; exact Int.emod_eq_of_lt (by omega) (by omega)
  have hv : bits .andNot .u64 T (2 ^ k - 1) = T := by
    rw [andNot_low T k (by omega) hTr.1 hTr.2]
    have := Int.mul_ediv_add_emod T (2 ^ k)
    rw [Int.mul_comm] at this
    omega
  have HS : Hid (Stays w f b p e n m c ys (.returned (.tuple #[])) ((w.setCell ⟨f, 2, none⟩ (.int .i8 0)).setCell ⟨b, 0, none⟩ (.int .u64 T))) := Lib.hid ⟨rfl, by simpa [fl] using blk_far (blk_set hf 2 (.int .i8 0)) (p := ⟨b, 0, none⟩) hne (.int .u64 T), by
      have h := hb1.set 0 T
      rw [← hT, set_same ys (by omega)] at h
      rw [hT] at h
      exact h, ((Only.refl w (fun k => k = f ∨ k = b)).set (p := ⟨f, 2, none⟩) (.inr (.inl rfl)) _).set (p := ⟨b, 0, none⟩) (.inr (.inr rfl)) _⟩
  generalize hLL : (2 : Int) ^ k = L at *
  generalize ((64 * 0 + (k - 1) : Nat) : Int) = R at *
  clear hf hb hb1 e1 e2 hlow hw hT hp
  go_enter Tryz.func124, Tryz.ntmps124
  go_wp2_with fail
  refine HBIT.out.mono ?_
  rintro en w' ⟨rfl, hw'⟩
  rw [hw']
  clear hw' w' HBIT
  go_wp2_with fail
  refine HST.out.mono ?_
  rintro en w' ⟨rfl, hw'⟩
  rw [hw']
  clear hw' w' HST
  go_wp2_with fail
  go_end0
  exact HS.out
set_option maxRecDepth 100000 in
set_option maxHeartbeats 4000000 in
theorem divWVW_lit (b bx c cx : Nat) (zs xs : List Int) (w : World) (hz : Blk w b zs) (hzl : 2 ≤ zs.length) (hx : Blk w bx xs) (hxl : 2 ≤ xs.length) (h0 : xs.getD 0 0 = 0) (h1 : xs.getD 1 0 = 2) (hne : b ≠ bx) :
    Calls Tryz.prog 128 #[.slice (some ⟨b, 0, none⟩) 2 c, .int .u64 0, .slice (some ⟨bx, 0, none⟩) 2 cx, .int .u64 3] w fun e w' => e = .returned (.int .u64 2) ∧ Blk w' b ((zs.set 1 0).set 0 12297829382473034410) ∧ Only w w' (fun k => k = b) := by
  have hne2 : b ≠ bx := hne
  have x0 : w.cell? ⟨bx, 0, none⟩ = some (.int .u64 0) := by rw [hx.cell 0 (by omega), h0]
  have x1 : w.cell? ⟨bx, 1, none⟩ = some (.int .u64 2) := by rw [hx.cell 1 (by omega), h1]
  have z1 := hz.cell 1 (by omega)
  have f1 := blk_frozen hz 1
  have hz1 := hz.set 1 0
  have y0 := hz1.cell 0 (by simp; omega)
  have g0 := blk_frozen hz1 0
  have hz2 := hz1.set 0 12297829382473034410
  have hon := ((Only.refl w (fun k => k = b)).set (p := ⟨b, 1, none⟩) (.inr rfl) (.int .u64 0)).set (p := ⟨b, 0, none⟩) (.inr rfl) (.int .u64 12297829382473034410)
  have HF := Lib.hid (And.intro hz2 hon)
  have HA := Lib.hid (fun w => divWW_a w)
  have HB := Lib.hid (fun w => divWW_b w)
  clear hz2 hon hz hx hz1
  go_enter Tryz.func128, Tryz.ntmps128
  go_wp2_with fail
  refine (recip_3 _).mono ?_
  rintro e w' ⟨rfl, rfl⟩
  go_wp2_with fail
  refine wp_loop_rounds 3 ?_
  rw [rounds_succ]
  go_wp2_with fail
  refine (HA.out _).mono ?_
  rintro e w' ⟨rfl, rfl⟩
  go_wp2_with fail
  rw [rounds_succ]
  go_wp2_with fail
  refine (HB.out _).mono ?_
  rintro e w' ⟨rfl, rfl⟩
  go_wp2_with fail
  rw [rounds_succ]
  go_wp2_with fail
  go_ret
  exact ⟨rfl, HF.out⟩
set_option maxRecDepth 100000 in
set_option maxHeartbeats 4000000 in
theorem divW_lit (bx cx : Nat) (xs : List Int) (w : World) (hx : Blk w bx xs) (hxl : 2 ≤ xs.length) (h0 : xs.getD 0 0 = 0) (h1 : xs.getD 1 0 = 2) :
    Calls Tryz.prog 104 #[.slice none 0 0, .slice (some ⟨bx, 0, none⟩) 2 cx, .int .u64 3] w fun e w' => ∃ v b, e = .returned (.tuple #[v, .int .u64 2]) ∧ IsNat w' v (some b) 12297829382473034410 ∧ w.heap.size ≤ b ∧ Only w w' (fun _ => False) := by
  have hmk : ∀ w, Calls Tryz.prog 111 #[.slice none 0 0, .int .i64 2] w fun e w' => ∃ b zs, e = .returned (.slice (some ⟨b, 0, none⟩) 2 zs.length) ∧ Blk w' b zs ∧ 2 ≤ zs.length ∧ zs.length ≤ most ∧ Only w w' (fun _ => False) ∧ b = w.heap.size := fun w => by
    refine (make_any (.slice none 0 0) none 2 w .nil (by omega) (by decide)).mono ?_
    rintro e w' ⟨b, zs, h1, h2, h3, h4, h5, h6⟩
    refine ⟨b, zs, h1, h2, h3, h4, h5, ?_⟩
    rcases h6 with ⟨h, _⟩ | h
    · cases h
    · exact h
  go_enter Tryz.func104, Tryz.ntmps104
  go_wp2_with fail
  refine (hmk w).mono ?_
  rintro e w1 ⟨b, zs, rfl, hb, hnz, hzm, ho, rfl⟩
  have hne : w.heap.size ≠ bx := by have := blk_lt hx; omega
  go_wp2_with fail
  refine (divWVW_lit w.heap.size bx zs.length cx zs xs w1 hb hnz (ho.blk hx (fun h => h)) hxl h0 h1 hne).mono ?_
  rintro e w2 ⟨rfl, hb2, ho2⟩
  go_wp2_with fail
  have hn := norm_got w.heap.size 2 _ w2 hb2 (by simpa using hnz) (by simpa using hzm) (fun j hj => by
    have : j = 0 ∨ j = 1 := by omega
    rcases this with rfl | rfl
    · simp [List.getD, show 0 < zs.length by omega]
    · simp [List.getD, show 1 < zs.length by omega])
  rw [show ((zs.set 1 0).set 0 12297829382473034410).length = zs.length by simp] at hn
  refine hn.mono ?_
  rintro e w3 ⟨v, rfl, hv, ho3⟩
  go_wp2_with fail
  go_ret2
  refine ⟨v, w.heap.size, rfl, ?_, Nat.le_refl _, ?_⟩
  · have e : num (fun i => ((zs.set 1 0).set 0 12297829382473034410).getD i 0) 2 = 12297829382473034410 := by
      simp [num, List.getD, show 0 < zs.length by omega, show 1 < zs.length by omega]
    rw [← e]; exact hv
  · refine ((ho.mono (fun _ _ h => h.elim)).step ho2 ?_).step ho3 (fun _ _ h => h.elim)
    rintro i hi rfl; omega
set_option maxRecDepth 100000 in
set_option maxHeartbeats 4000000 in
theorem setWord_2 (w : World) : Calls Tryz.prog 105 #[.slice none 0 0, .int .u64 2] w fun e w' => ∃ b c, e = .returned (.slice (some ⟨b, 0, none⟩) 1 c) ∧ IsNat w' (.slice (some ⟨b, 0, none⟩) 1 c) (some b) 2 ∧ w.heap.size ≤ b ∧ Only w w' (fun _ => False) := by
  have hmk : ∀ w, Calls Tryz.prog 111 #[.slice none 0 0, .int .i64 1] w fun e w' => ∃ b zs, e = .returned (.slice (some ⟨b, 0, none⟩) 1 zs.length) ∧ Blk w' b zs ∧ 1 ≤ zs.length ∧ zs.length ≤ most ∧ Only w w' (fun _ => False) ∧ b = w.heap.size := fun w => by
    refine (make_any (.slice none 0 0) none 1 w .nil (by omega) (by decide)).mono ?_
    rintro e w' ⟨b, zs, h1, h2, h3, h4, h5, h6⟩
    refine ⟨b, zs, h1, h2, h3, h4, h5, ?_⟩
    rcases h6 with ⟨h, _⟩ | h
    · cases h
    · exact h
  go_enter Tryz.func105, Tryz.ntmps105
  go_wp2_with fail
  refine (hmk w).mono ?_
  rintro e w1 ⟨b, zs, rfl, hb, hnz, hzm, ho, rfl⟩
  have z0 := hb.cell 0 (by omega)
  have f0 := blk_frozen hb 0
  have hb2 := hb.set 0 2
  go_wp2_with fail
  go_ret
  refine ⟨w.heap.size, zs.length, rfl, ?_, Nat.le_refl _, ho.set (p := ⟨w.heap.size, 0, none⟩) (.inl (Nat.le_refl _)) _⟩
  have e : num (fun i => (zs.set 0 2).getD i 0) 1 = 2 := by simp [num, List.getD, show 0 < zs.length by omega]
  have hl : (zs.set 0 2).length = zs.length := by simp
  rw [← hl]
  refine .own _ 1 (zs.set 0 2) 2 hb2 (by rw [hl]; exact hnz) (by rw [hl]; exact hzm) ⟨fun i hi => ?_, fun _ => ?_⟩ e
  · obtain rfl : i = 0 := by omega
    simp [List.getD, show 0 < zs.length by omega]
  · simp [List.getD, show 0 < zs.length by omega]
theorem copy_all (b dc bx sc m : Nat) (zs xs : List Int) (w : World) (T ty : TypeId) (hT : Tryz.prog.underlying T = some (.slice 110)) (hb : Blk w b zs) (hx : Blk w bx xs) (hm : m ≤ zs.length) (hmx : m ≤ xs.length) :
    ∃ ys, (Builtin.copy_ #[T, T] ty #[.slice (some ⟨b, 0, none⟩) m dc, .slice (some ⟨bx, 0, none⟩) m sc]).run Tryz.prog w = .ok (goInt m) (w.setRow b (words ys)) ∧ ys.length = zs.length ∧ ∀ i, i < m → ys.getD i 0 = xs.getD i 0 := by
  have hx2 : ∀ j, j < m → w.cell? ⟨bx, 0 + j, none⟩ = some (.int .u64 (xs.getD j 0)) := fun j hj => (hx.cell (0 + j) (by omega)).trans (by rw [Nat.zero_add])
  refine ⟨_, copy_run b 0 m dc bx 0 m sc m zs (fun j => xs.getD j 0) w T ty hT hb (by simp) hx2 (by omega), length_splice _ _ _ (by simp; omega), fun i hi => ?_⟩
  rw [splice_at _ _ _ _ (by simp; omega), if_pos (by simp; omega)]
  simp [List.getD, hi]
set_option maxRecDepth 100000 in
set_option maxHeartbeats 2000000 in
theorem or_left (z : Value) (o : Option Nat) (bx m : Nat) (B : Option Addr) (cv : Nat) (xs : List Int) (w : World) (hz : Room w z o) (hx : Blk w bx xs) (hm : 0 < m) (hmx : m ≤ xs.length) (hm4 : m + 4 ≤ most) (hxw : Nrm xs m) :
    Calls Tryz.prog 88 #[z, .slice (some ⟨bx, 0, none⟩) m xs.length, .slice B 0 cv] w (Got w o (num (fun i => xs.getD i 0) m)) := by
  have hmm : most = 274877906944 := rfl
  have hm3 : m ≤ 274877906944 := by omega
  have hlt : ¬ (m : Int) < 0 := by omega
  have hmk : ∀ w, Room w z o → Calls Tryz.prog 111 #[z, .int .i64 (m : Int)] w fun e w' => ∃ b zs, e = .returned (.slice (some ⟨b, 0, none⟩) m zs.length) ∧ Blk w' b zs ∧ m ≤ zs.length ∧ zs.length ≤ most ∧ Only w w' (fun _ => False) ∧ ((o = some b ∧ w' = w) ∨ b = w.heap.size) := fun w h => make_any z o m w h (by omega) (by omega)
  have HX := Lib.hid hmm
  clear hmm
  go_enter Tryz.func88, Tryz.ntmps88
  go_wp2_with fail
  refine (hmk _ hz).mono ?_
  rintro e w1 ⟨b, zs, rfl, hb, hnz, hzm, ho, hob⟩
  go_wp2_with fail
  go_loopw [10] (fun si wr => si = .int .i64 0 ∧ wr = w1) (fun _ _ => 0)
  case atStart => exact ⟨rfl, rfl⟩
  case round =>
    obtain ⟨rfl, rfl⟩ := hrel
    have hx1 : Blk wr bx xs := ho.blk hx (fun h => h)
    obtain ⟨ys, hcp, hyl, hat⟩ := copy_all b zs.length bx xs.length m zs xs wr.drew 85 3 Tryz.underlying85 hb hx1 hnz hmx
    have HL := Lib.hid hyl
    have HA := Lib.hid hat
    clear hyl hat
    go_wp2_with fail
    have q1 : (0 : Int) ≤ m := by omega
    have q2 : (m : Int) ≤ zs.length := by omega
    have q3 : (m : Int) ≤ xs.length := by omega
    go_region
    have hyl := HL.out
    have hat := HA.out
    have hy3 : Blk (wr.drew.setRow b (words ys)) b ys := Blk.row (w := wr.drew) hb _
    have hn2 := norm_own b m zs.length _ _ hy3 (by omega) (by omega) (by have := HX.out; omega)
    clear hyl hat
    go_wp2_with fail
    refine hn2.mono ?_
    rintro e w4 ⟨rfl, hB4⟩
    go_wp2_with fail
    go_ret
    have hyl := HL.out
    have hat := HA.out
    have ho4 : Only (wr.drew.setRow b (words ys)) w4 (fun _ => False) := ⟨hB4.mono (Nat.zero_le _), fun i hi _ => hB4.block i hi⟩
    refine ⟨_, some b, rfl, ?_, ?_, ?_⟩
    · rw [← num_congr m hat, ← hyl]
      refine .of_words (ho4.blk hy3 (fun h => h)) (by omega) (by omega) (fun i hi => ?_)
      show 0 ≤ List.getD _ i 0 ∧ List.getD _ i 0 < _
      rw [hat i hi]; exact hxw.1 i hi
    · refine (((ho.mono (fun _ _ h => h.elim)).drew.row ?_ _).step ho4 (fun _ _ h => h.elim))
      rcases hob with ⟨h, _⟩ | h
      · exact .inr h
      · exact .inl (by omega)
    · rcases hob with ⟨h, _⟩ | h
      · exact .inl h.symm
      · exact .inr ⟨b, rfl, by omega⟩
set_option maxRecDepth 100000 in
set_option maxHeartbeats 2000000 in
theorem or_right (z : Value) (o : Option Nat) (bx m : Nat) (B : Option Addr) (cv : Nat) (xs : List Int) (w : World) (hz : Room w z o) (hx : Blk w bx xs) (hm : 0 < m) (hmx : m ≤ xs.length) (hm4 : m + 4 ≤ most) (hxw : Nrm xs m) :
    Calls Tryz.prog 88 #[z, .slice B 0 cv, .slice (some ⟨bx, 0, none⟩) m xs.length] w (Got w o (num (fun i => xs.getD i 0) m)) := by
  have hmm : most = 274877906944 := rfl
  have hm3 : m ≤ 274877906944 := by omega
  have hlt : (0 : Int) < (m : Int) := by omega
  have hmk : ∀ w, Room w z o → Calls Tryz.prog 111 #[z, .int .i64 (m : Int)] w fun e w' => ∃ b zs, e = .returned (.slice (some ⟨b, 0, none⟩) m zs.length) ∧ Blk w' b zs ∧ m ≤ zs.length ∧ zs.length ≤ most ∧ Only w w' (fun _ => False) ∧ ((o = some b ∧ w' = w) ∨ b = w.heap.size) := fun w h => make_any z o m w h (by omega) (by omega)
  have HX := Lib.hid hmm
  clear hmm
  go_enter Tryz.func88, Tryz.ntmps88
  go_wp2_with fail
  refine (hmk _ hz).mono ?_
  rintro e w1 ⟨b, zs, rfl, hb, hnz, hzm, ho, hob⟩
  go_wp2_with fail
  go_loopw [10] (fun si wr => si = .int .i64 0 ∧ wr = w1) (fun _ _ => 0)
  case atStart => exact ⟨rfl, rfl⟩
  case round =>
    obtain ⟨rfl, rfl⟩ := hrel
    have hx1 : Blk wr bx xs := ho.blk hx (fun h => h)
    obtain ⟨ys, hcp, hyl, hat⟩ := copy_all b zs.length bx xs.length m zs xs wr.drew 85 3 Tryz.underlying85 hb hx1 hnz hmx
    have HL := Lib.hid hyl
    have HA := Lib.hid hat
    clear hyl hat
    go_wp2_with fail
    have q1 : (0 : Int) ≤ m := by omega
    have q2 : (m : Int) ≤ zs.length := by omega
    have q3 : (m : Int) ≤ xs.length := by omega
    go_region
    have hyl := HL.out
    have hat := HA.out
    have hy3 : Blk (wr.drew.setRow b (words ys)) b ys := Blk.row (w := wr.drew) hb _
    have hn2 := norm_own b m zs.length _ _ hy3 (by omega) (by omega) (by have := HX.out; omega)
    clear hyl hat
    go_wp2_with fail
    refine hn2.mono ?_
    rintro e w4 ⟨rfl, hB4⟩
    go_wp2_with fail
    go_ret
    have hyl := HL.out
    have hat := HA.out
    have ho4 : Only (wr.drew.setRow b (words ys)) w4 (fun _ => False) := ⟨hB4.mono (Nat.zero_le _), fun i hi _ => hB4.block i hi⟩
    refine ⟨_, some b, rfl, ?_, ?_, ?_⟩
    · rw [← num_congr m hat, ← hyl]
      refine .of_words (ho4.blk hy3 (fun h => h)) (by omega) (by omega) (fun i hi => ?_)
      show 0 ≤ List.getD _ i 0 ∧ List.getD _ i 0 < _
      rw [hat i hi]; exact hxw.1 i hi
    · refine (((ho.mono (fun _ _ h => h.elim)).drew.row ?_ _).step ho4 (fun _ _ h => h.elim))
      rcases hob with ⟨h, _⟩ | h
      · exact .inr h
      · exact .inl (by omega)
    · rcases hob with ⟨h, _⟩ | h
      · exact .inl h.symm
      · exact .inr ⟨b, rfl, by omega⟩
theorem or_nat (vz : Value) (oz : Option Nat) (vx : Value) (ox : Option Nat) (x : Int) (vy : Value) (oy : Option Nat) (y : Int) (k : Nat) (w : World) (hz : Room w vz oz) (hx : IsNat w vx ox x) (hy : IsNat w vy oy y) (hf : Fits x) (hk : k < 64) (hxk : x % 2 ^ k = 0) (hyk : y < 2 ^ k) :
    Calls Tryz.prog 88 #[vz, vx, vy] w (Got w oz (x + y)) := by
  have hmm : most = 274877906944 := rfl
  have hpk : (2 : Int) ^ k < 2 ^ 64 := by
    rw [two_pow_cast, two_pow_cast]
    exact Int.ofNat_lt.2 (Nat.pow_lt_pow_right (by omega) hk)
  have h64 : (2 : Int) ^ 64 = 18446744073709551616 := by decide
  rcases hx.cases_ with ⟨rfl, A, c, rfl⟩ | ⟨hp, b, n, ys, rfl, rfl, hb, hn, hny, hym, hr, rfl⟩
  · rcases hy.cases_ with ⟨rfl, B, d, rfl⟩ | ⟨hp', b', n', ys', rfl, rfl, hb', hn', hny', hym', hr', rfl⟩
    · exact or_none vz oz A B c d w hz
    · have := hr'.short (Fits.of (k := 64) (by omega) (by omega))
      have h := or_right vz oz b' n' A c ys' w hz hb' hn' hny' (by omega) hr'
      rw [Int.zero_add]; exact h
  · have hs := hr.short hf
    rcases hy.cases_ with ⟨rfl, B, d, rfl⟩ | ⟨hp', b', n', ys', rfl, rfl, hb', hn', hny', hym', hr', rfl⟩
    · have h := or_left vz oz b n B d ys w hz hb hn hny (by omega) hr
      rw [Int.add_zero]; exact h
    · obtain rfl : n' = 1 := by
        have := pow_lt (Int.lt_trans (Int.lt_of_le_of_lt (hr'.low hn') hyk) hpk)
        omega
      have e1 : num (fun i => ys'.getD i 0) 1 = ys'.getD 0 0 := by simp [num]
      rw [e1] at hyk ⊢
      have w0 := hr.1 0 hn
      have w1 := hr'.1 0 (by omega)
      simp only at w0 w1
      have hx0 : ys.getD 0 0 % 2 ^ k = 0 := by
        rw [← num_low (fun i => ys.getD i 0) n k hn (by omega)]; exact hxk
      have hor := or_mul (ys.getD 0 0) (ys'.getD 0 0) k hk w0.1 w0.2 hx0 w1.1 hyk
      refine (or_ge vz oz b n ys.length b' 1 ys'.length ys ys' w hz hb hb' (by omega) (by omega) hny hny hny' (by omega)).mono ?_
      rintro e w' ⟨g, zs, ho, hg, hB, rfl, h1, h2, hv⟩
      have hv0 : zs.getD 0 0 = ys.getD 0 0 + ys'.getD 0 0 := by
        have := hv 0 hn
        rw [if_pos (by omega)] at this
        exact this.trans hor
      have hvj : ∀ j, 0 < j → j < n → zs.getD j 0 = ys.getD j 0 := fun j a b => by
        have := hv j b
        rw [if_neg (by omega)] at this
        exact this
      have hlt : ys.getD 0 0 + ys'.getD 0 0 < 18446744073709551616 := by
        have e : (2 : Int) ^ 64 = 2 ^ k * 2 ^ (64 - k) := by rw [← Int.pow_add, show k + (64 - k) = 64 by omega]
        have hd := Int.mul_ediv_add_emod (ys.getD 0 0) (2 ^ k)
        rw [hx0, Int.add_zero] at hd
        have hq : ys.getD 0 0 / 2 ^ k < 2 ^ (64 - k) := by
          refine Int.ediv_lt_of_lt_mul (Int.pow_pos (by omega)) ?_
          rw [Int.mul_comm, ← e]; omega
        have hm : 2 ^ k * (ys.getD 0 0 / 2 ^ k) ≤ 2 ^ k * (2 ^ (64 - k) - 1) := Int.mul_le_mul_of_nonneg_left (by omega) (Int.le_of_lt (Int.pow_pos (by omega)))
        rw [hd, Int.mul_sub, ← e, Int.mul_one] at hm
        omega
      have hsum : num (fun i => zs.getD i 0) n = num (fun i => ys.getD i 0) n + ys'.getD 0 0 := by
        obtain ⟨m, rfl⟩ : ∃ m, n = 1 + m := ⟨n - 1, by omega⟩
        rw [num_add, num_add, num_congr (f := fun i => zs.getD (1 + i) 0) (g := fun i => ys.getD (1 + i) 0) m (fun j hj => hvj (1 + j) (by omega) (by omega))]
        have e2 : num (fun i => zs.getD i 0) 1 = zs.getD 0 0 := by simp [num]
        have e3 : num (fun i => ys.getD i 0) 1 = ys.getD 0 0 := by simp [num]
        rw [e2, e3, hv0]
        omega
      refine ⟨_, some g, rfl, ?_, ho, ?_⟩
      · rw [← hsum]
        refine .of_words hB h1 h2 (fun i hi => ?_)
        show 0 ≤ zs.getD i 0 ∧ zs.getD i 0 < _
        by_cases h0 : i = 0
        · subst h0; rw [hv0]; omega
        · rw [hvj i (by omega) hi]; exact hr.1 i hi
      · rcases hg with h | h
        · exact .inl h.symm
        · exact .inr ⟨g, rfl, h⟩
theorem and_nat (vz : Value) (oz : Option Nat) (vx : Value) (ox : Option Nat) (x : Int) (vy : Value) (oy : Option Nat) (w : World) (hz : Room w vz oz) (hx : IsNat w vx ox x) (hy : IsNat w vy oy 1073741823) (hp : 0 < x) (hf : Fits x) :
    Calls Tryz.prog 89 #[vz, vx, vy] w (Got w oz (x % 1073741824)) := by
  have hmm : most = 274877906944 := rfl
  rcases hx.cases_ with ⟨rfl, A, c, rfl⟩ | ⟨_, b, n, ys, rfl, rfl, hb, hn, hny, hym, hr, rfl⟩
  · omega
  · have hs := hr.short hf
    rcases hy.cases_ with ⟨h, B, d, rfl⟩ | ⟨hp', b', n', ys', rfl, rfl, hb', hn', hny', hym', hr', hy'⟩
    · omega
    · obtain rfl : n' = 1 := by
        have h1 := hr'.low hn'
        rw [hy'] at h1
        have := pow_lt (Int.lt_of_le_of_lt h1 (by decide : (1073741823 : Int) < 2 ^ 30))
        omega
      have e1 : num (fun i => ys'.getD i 0) 1 = ys'.getD 0 0 := by simp [num]
      rw [e1] at hy'
      have w0 := hr.1 0 hn
      simp only at w0
      have hlow : num (fun i => ys.getD i 0) n % 1073741824 = ys.getD 0 0 % 1073741824 := num_low (fun i => ys.getD i 0) n 30 hn (by omega)
      have hand := and_30 (ys.getD 0 0) w0.1 w0.2
      have fin : ∀ (e : Ending) (w' : World), (∃ g zs, Only w w' (fun k => oz = some k) ∧ (oz = some g ∨ w.heap.size ≤ g) ∧ Blk w' g zs ∧ e = .returned (.slice (some ⟨g, 0, none⟩) (nlen zs 1) zs.length) ∧ 1 ≤ zs.length ∧ zs.length ≤ most ∧ ∀ i, i < 1 → zs.getD i 0 = bits .and .u64 (ys.getD i 0) (ys'.getD i 0)) → Got w oz (num (fun i => ys.getD i 0) n % 1073741824) e w' := by
        rintro e w' ⟨g, zs, ho, hg, hB, rfl, h1, h2, hv⟩
        have hv0 : zs.getD 0 0 = ys.getD 0 0 % 1073741824 := (hv 0 (by omega)).trans (by rw [hy']; exact hand)
        have e2 : num (fun i => zs.getD i 0) 1 = zs.getD 0 0 := by simp [num]
        refine ⟨_, some g, rfl, ?_, ho, ?_⟩
        · rw [hlow, ← hv0, ← e2]
          refine .of_words hB h1 h2 (fun i hi => ?_)
          obtain rfl : i = 0 := by omega
          show 0 ≤ zs.getD 0 0 ∧ zs.getD 0 0 < _
          rw [hv0]; omega
        · rcases hg with h | h
          · exact .inl h.symm
          · exact .inr ⟨g, rfl, h⟩
      by_cases h1 : n = 1
      · subst h1
        exact (and_same vz oz b ys.length b' 1 ys'.length ys ys' w hz hb hb' (by omega) hny hny' (by omega)).mono fin
      · exact (and_gt vz oz b n ys.length b' 1 ys'.length ys ys' w hz hb hb' (by omega) (by omega) hny hny' (by omega)).mono fin
set_option maxRecDepth 100000 in
set_option maxHeartbeats 1000000 in
theorem set_zero (z : Value) (o : Option Nat) (A : Option Addr) (c : Nat) (w : World) (hz : Room w z o) :
    Calls Tryz.prog 92 #[z, .slice A 0 c] w (Got w o 0) := by
  have hcp := copy_none
  have hcut : ∀ A c, Room w (.slice A 0 c) o → IsNat w (.slice A 0 c) o 0 := fun A c h => by
    obtain ⟨A', n', c', e, h'⟩ := h.cut
    cases e; exact h'
  go_enter Tryz.func92, Tryz.ntmps92
  go_wp2_with fail
  refine (make_zero z o w hz).mono ?_
  rintro e w1 ⟨v, rfl, rfl, hv, A', c', rfl⟩
  have hv0 := hcut _ _ hv
  have HV := Lib.hid hv0
  clear hcut hv hv0
  go_wp2_with fail
  go_ret
  exact ⟨_, o, rfl, HV.out, Only.refl _ _, .inl rfl⟩
theorem set_nat (vz : Value) (oz : Option Nat) (vx : Value) (ox : Option Nat) (x : Int) (w : World) (hz : Room w vz oz) (hx : IsNat w vx ox x) (hf : Fits x) :
    Calls Tryz.prog 92 #[vz, vx] w (Got w oz x) := by
  have hmm : most = 274877906944 := rfl
  rcases hx.cases_ with ⟨rfl, A, c, rfl⟩ | ⟨_, b, n, ys, rfl, rfl, hb, hn, hny, hym, hr, rfl⟩
  · exact set_zero vz oz A c w hz
  · have := hr.short hf
    exact set_got vz oz b n ys.length ys w hz hb hn hny (by omega) hr
theorem ret_int {k : IntKind} {a b : Int} (h : a = b) : Ending.returned (.int k a) = .returned (.int k b) := by rw [h]
def BLen (x : Int) (k : Nat) : Prop := x < 2 ^ k ∧ (0 < k → 2 ^ (k - 1) ≤ x)
theorem BLen.zero : BLen 0 0 := ⟨by decide, fun h => by omega⟩
theorem BLen.unique {x : Int} {k j : Nat} (h : BLen x k) (h' : BLen x j) : k = j := by
  have key : ∀ {x : Int} {k j : Nat}, BLen x k → BLen x j → k ≤ j := by
    intro x k j h h'
    rcases Nat.lt_or_ge j k with h1 | h1
    · have := pow_lt (Int.lt_of_le_of_lt (h.2 (by omega)) h'.1)
      omega
    · exact h1
  exact Nat.le_antisymm (key h h') (key h' h)
theorem bitLenAux_spec : ∀ (f x : Nat), x < 2 ^ f → x < 2 ^ Lib.bitLenAux f x ∧ (0 < Lib.bitLenAux f x → 2 ^ (Lib.bitLenAux f x - 1) ≤ x)
  | 0, x, h => by simp [Lib.bitLenAux] at h ⊢; exact h
  | f + 1, x, h => by
    unfold Lib.bitLenAux
    split
    · rename_i h0; subst h0; simp
    · rename_i h0
      obtain ⟨h1, h2⟩ := bitLenAux_spec f (x / 2) (by rw [Nat.pow_succ] at h; omega)
      generalize Lib.bitLenAux f (x / 2) = k at *
      refine ⟨by rw [Nat.add_comm, Nat.pow_succ]; omega, fun _ => ?_⟩
      rw [Nat.add_comm, Nat.add_sub_cancel]
      by_cases hk : 0 < k
      · have := h2 hk
        obtain ⟨m, rfl⟩ : ∃ m, k = m + 1 := ⟨k - 1, by omega⟩
        rw [Nat.add_sub_cancel] at this
        rw [Nat.pow_succ]; omega
      · obtain rfl : k = 0 := by omega
        simp; omega
theorem bitLen_spec (x : Nat) (h : x < 18446744073709551616) : BLen (x : Int) (Lib.bitLen x) := by
  obtain ⟨h1, h2⟩ := bitLenAux_spec 64 x h
  refine ⟨?_, fun hk => ?_⟩
  · rw [two_pow_cast]; exact Int.ofNat_lt.2 h1
  · rw [two_pow_cast]; exact Int.ofNat_le.2 (h2 hk)
theorem smear (t u : Int) (k : Nat) (hk : k ≤ 64) (lo : Int) (h0 : 0 ≤ lo) (hu : 0 ≤ u) (hut : u ≤ t) (h : lo ≤ t ∧ t < 2 ^ k) : lo ≤ bits .or .u64 t u ∧ bits .or .u64 t u < 2 ^ k := by
  obtain ⟨x, rfl⟩ : ∃ x : Nat, t = x := ⟨t.toNat, by omega⟩
  obtain ⟨y, rfl⟩ : ∃ y : Nat, u = y := ⟨u.toNat, by omega⟩
  obtain ⟨h1, h2⟩ := h
  rw [two_pow_cast] at h2 ⊢
  have h3 : x < 2 ^ k := Int.ofNat_lt.1 h2
  have hp : 2 ^ k ≤ 2 ^ 64 := Nat.pow_le_pow_right (by omega) hk
  rw [u64_or_nat _ _ (by omega) (by omega)]
  have h5 : x ||| y < 2 ^ k := Nat.or_lt_two_pow h3 (by omega)
  have h6 : x ≤ x ||| y := Nat.left_le_or
  omega
theorem top_bits (f : Nat → Int) (m k : Nat) (hf : Wd f (m + 1)) (h : BLen (f m) k) (hk : 0 < k) : BLen (num f (m + 1)) (64 * m + k) := by
  obtain ⟨h0, h1⟩ := num_range m fun i hi => hf i (by omega)
  have hp : (0 : Int) < 2 ^ (64 * m) := Int.pow_pos (by omega)
  rw [num]
  refine ⟨?_, fun _ => ?_⟩
  · rw [Int.pow_add, Int.mul_comm (2 ^ (64 * m))]
    have : (f m + 1) * 2 ^ (64 * m) ≤ 2 ^ k * 2 ^ (64 * m) := Int.mul_le_mul_of_nonneg_right (by have := h.1; omega) (Int.le_of_lt hp)
    rw [Int.add_mul, Int.one_mul] at this
    omega
  · rw [show 64 * m + k - 1 = 64 * m + (k - 1) by omega, Int.pow_add, Int.mul_comm (2 ^ (64 * m))]
    have : 2 ^ (k - 1) * 2 ^ (64 * m) ≤ f m * 2 ^ (64 * m) := Int.mul_le_mul_of_nonneg_right (h.2 hk) (Int.le_of_lt hp)
    omega
set_option maxRecDepth 100000 in
set_option maxHeartbeats 1000000 in
theorem bitLen_words (b n : Nat) (ys : List Int) (w : World) (hb : Blk w b ys) (hn : 0 < n) (hny : n ≤ ys.length) (hm : n ≤ 16777217) (hr : Nrm ys n) :
    Calls Tryz.prog 81 #[.slice (some ⟨b, 0, none⟩) n ys.length] w fun e w' => (∃ k : Nat, e = .returned (.int .i64 k) ∧ BLen (num (fun i => ys.getD i 0) n) k ∧ k ≤ 64 * n) ∧ w' = w := by
  obtain ⟨m, rfl⟩ : ∃ m, n = m + 1 := ⟨n - 1, by omega⟩
  have hc := hb.cell m (by omega)
  have ht := hr.1 m (by omega)
  have ht0 := hr.2 hn
  rw [Nat.add_sub_cancel] at ht0
  simp only at ht
  have hnum := top_bits (fun i => ys.getD i 0) m (Lib.bitLen (ys.getD m 0).toNat) hr.1
  have hbt := bitLen_spec (ys.getD m 0).toNat (by omega)
  have h64 : Lib.bitLen (ys.getD m 0).toNat ≤ 64 := Lib.bitLen_le _ 64 (by omega) (by omega)
  rw [Int.toNat_of_nonneg ht.1] at hbt
  have hpos : 0 < Lib.bitLen (ys.getD m 0).toNat := by
    rcases Nat.eq_zero_or_pos (Lib.bitLen (ys.getD m 0).toNat) with h | h
    · have := hbt.1
      rw [h, Int.pow_zero] at this
      omega
    · exact h
  have H := Lib.hid (And.intro (hnum hbt hpos) (And.intro hbt (And.intro h64 hpos)))
  have HT := Lib.hid (And.intro ht ht0)
  clear hnum hbt h64 hpos ht ht0
  generalize hx : ys.getD m 0 = t at hc
  have HX := Lib.hid hx
  clear hx
  have i0 : ((m : Int) + 1 - 1) = m := by omega
  go_enter Tryz.func81, Tryz.ntmps81
  go_wp2_with fail
  have hT : ∀ T : Int, (2 ^ (Lib.bitLen t.toNat - 1) ≤ T ∧ T < 2 ^ Lib.bitLen t.toNat) → Calls Tryz.prog 103 #[.int .u64 T] w fun e w' => e = .returned (.int .i64 (Lib.bitLen t.toNat)) ∧ w' = w := by
    intro T hT
    have h := H.out
    rw [HX.out] at h
    obtain ⟨_, hbt, h64, hpos⟩ := h
    have hp : (2 : Int) ^ Lib.bitLen t.toNat ≤ 2 ^ 64 := by
      rw [two_pow_cast, two_pow_cast]
      exact Int.ofNat_le.2 (Nat.pow_le_pow_right (by omega) h64)
    have e64 : (2 : Int) ^ 64 = 18446744073709551616 := by decide
    have hq : (0 : Int) < 2 ^ (Lib.bitLen t.toNat - 1) := Int.pow_pos (by omega)
    refine (len_any T w (by omega) (by omega)).mono ?_
    rintro e w' ⟨rfl, rfl⟩
    have hs := bitLen_spec T.toNat (by omega)
    rw [Int.toNat_of_nonneg (by omega)] at hs
    rw [hs.unique ⟨hT.2, fun _ => hT.1⟩]
    exact ⟨rfl, rfl⟩
  refine (hT _ ?_).mono ?_
  · have h := H.out
    rw [HX.out] at h
    obtain ⟨_, hbt, h64, hpos⟩ := h
    have hlo : (0 : Int) ≤ 2 ^ (Lib.bitLen t.toNat - 1) := Int.le_of_lt (Int.pow_pos (by omega))
    have sm : ∀ (T : Int) (c : Int), 0 < c → (2 ^ (Lib.bitLen t.toNat - 1) ≤ T ∧ T < 2 ^ Lib.bitLen t.toNat) → 2 ^ (Lib.bitLen t.toNat - 1) ≤ bits .or .u64 T (T / c) ∧ bits .or .u64 T (T / c) < 2 ^ Lib.bitLen t.toNat := fun T c hc h => smear T _ _ h64 _ hlo (Int.ediv_nonneg (by omega) (by omega)) (Int.ediv_le_self _ (by omega)) h
    have s5 := sm _ 65536 (by omega) (sm _ 256 (by omega) (sm _ 16 (by omega) (sm _ 4 (by omega) (sm t 2 (by omega) ⟨hbt.2 hpos, hbt.1⟩))))
    refine smear _ _ _ h64 _ hlo ?_ ?_ s5
    · exact Int.ediv_nonneg (Int.ediv_nonneg (by omega) (by omega)) (by omega)
    · exact Int.le_trans (Int.ediv_le_self _ (Int.ediv_nonneg (by omega) (by omega))) (Int.ediv_le_self _ (by omega))
  · rintro e w' ⟨rfl, rfl⟩
    clear hT
    have h := H.out
    rw [HX.out] at h
    obtain ⟨hnum, _, h64, _⟩ := h
    have HN := Lib.hid hnum
    clear hnum
    go_wp2
    go_ret
    have hn := HN.out
    exact ⟨⟨64 * m + Lib.bitLen t.toNat, ret_int (by omega), hn, by omega⟩, rfl⟩
theorem bitLen_nat (vx : Value) (ox : Option Nat) (x : Int) (w : World) (hx : IsNat w vx ox x) (hf : Fits x) :
    Calls Tryz.prog 81 #[vx] w fun e w' => (∃ k : Nat, e = .returned (.int .i64 k) ∧ BLen x k ∧ k ≤ 1073741888) ∧ w' = w := by
  rcases hx.cases_ with ⟨rfl, A, c, rfl⟩ | ⟨_, b, n, ys, rfl, rfl, hb, hn, hny, hym, hr, rfl⟩
  · go_enter Tryz.func81, Tryz.ntmps81
    go_wp2
    go_ret
    exact ⟨⟨0, rfl, .zero, by omega⟩, rfl⟩
  · have := hr.short hf
    refine (bitLen_words b n ys w hb hn hny this hr).mono ?_
    rintro e w' ⟨⟨k, he, hk, hk2⟩, hw⟩
    exact ⟨⟨k, he, hk, by omega⟩, hw⟩
def Low (x : Int) (t : Nat) : Prop := ∃ q : Int, x = q * 2 ^ t ∧ q % 2 = 1
theorem ctz_spec (x : Nat) (h : x < 18446744073709551616) (h0 : x ≠ 0) : Low (x : Int) (Lib.ctz 64 x) ∧ Lib.ctz 64 x < 64 := by
  obtain ⟨m, hm, hk⟩ := Lib.ctzFrom_spec 64 x (by omega) h
  have e : Lib.ctz 64 x = Lib.ctzFrom 64 x := by simp [Lib.ctz, h0]
  rw [e]
  refine ⟨⟨2 * m + 1, ?_, by omega⟩, hk⟩
  rw [two_pow_cast, Int.mul_comm]
  exact_mod_cast hm
theorem low_num (f : Nat → Int) (m n t : Nat) (hz : ∀ i, i < m → f i = 0) (h : Low (f m) t) (ht : t < 64) : Low (num f (m + 1 + n)) (64 * m + t) := by
  obtain ⟨q, hq, h2⟩ := h
  refine ⟨q + num (fun i => f (m + 1 + i)) n * 2 ^ (64 - t), ?_, ?_⟩
  · rw [num_add, num, num_zero m hz, hq, Int.add_mul, Int.mul_assoc (num _ _), ← Int.pow_add, show 64 - t + (64 * m + t) = 64 * (m + 1) by omega, Int.zero_add, Int.mul_assoc, ← Int.pow_add, Nat.add_comm t]
  · have e : (2 : Int) ^ (64 - t) = 2 ^ (63 - t) * 2 := by rw [show 64 - t = 63 - t + 1 by omega, Int.pow_succ]
    rw [e, ← Int.mul_assoc, Int.add_mul_emod_self_right, h2]
set_option maxRecDepth 100000 in
set_option maxHeartbeats 1000000 in
theorem tz_words (b n : Nat) (ys : List Int) (w : World) (hb : Blk w b ys) (hn : 0 < n) (hny : n ≤ ys.length) (hm : n ≤ 16777217) (hr : Nrm ys n) (hT : Tab w) :
    Calls Tryz.prog 84 #[.slice (some ⟨b, 0, none⟩) n ys.length] w fun e w' => ∃ t : Nat, e = .returned (.int .u64 t) ∧ Low (num (fun i => ys.getD i 0) n) t ∧ t ≤ 64 * n ∧ Only w w' (fun _ => False) := by
  have h1 : ((n : Int) == 0) = false := by rw [beq_eq_false_iff_ne]; omega
  have HB := Only.refl w (fun _ => False)
  have htop := hr.2 hn
  have HTOP := Lib.hid htop
  have hT1 : ∀ x : Int, 0 ≤ x → x < 18446744073709551616 → x ≠ 0 → ∀ w1, w1.heap = w.heap → Calls Tryz.prog 114 #[.int .u64 x] w1 fun e w' => (∃ t : Nat, e = .returned (.int .i64 t) ∧ Low x t ∧ t < 64) ∧ w' = w1 := by
    intro x h0 h2 h3 w1 hw
    obtain ⟨y, rfl⟩ : ∃ y : Nat, x = y := ⟨x.toNat, by omega⟩
    refine (tz_any y (by omega) (by omega) w1 (hT.of (by rw [hw]))).mono ?_
    rintro e w' ⟨rfl, rfl⟩
    obtain ⟨a, b⟩ := ctz_spec y (by omega) (by omega)
    exact ⟨⟨_, rfl, a, b⟩, rfl⟩
  clear htop
  go_enter Tryz.func84, Tryz.ntmps84
  go_wp2_with fail
  go_loop [3] (fun i => ∃ k : Nat, k < n ∧ i = .int .u64 k ∧ ∀ j, j < k → ys.getD j 0 = 0) (fun i => n - (intOf i).toNat)
  case atStart => exact ⟨0, hn, rfl, fun j h => by omega⟩
  case round =>
    obtain ⟨k, hk, rfl, hz⟩ := hrel
    have HZ := Lib.hid hz
    clear hz
    have hcell := hb.cell k (by omega)
    have hw := hr.1 k hk
    simp only at hw
    generalize hx : ys.getD k 0 = x at hcell hw
    have HX := Lib.hid hx
    clear hx
    by_cases h0 : x = 0
    · subst h0
      have hk1 : k + 1 < n := by
        rcases Nat.lt_or_ge (k + 1) n with h | h
        · exact h
        · have e : n - 1 = k := by omega
          have h1 := HTOP.out
          rw [e, HX.out] at h1
          exact absurd rfl h1
      go_wp2_with fail
      go_round
      case rel =>
        refine ⟨k + 1, hk1, by go_num, fun j hj => ?_⟩
        by_cases e : j = k
        · rw [e]; exact HX.out
        · exact HZ.out j (by omega)
      case measure => simp [intOf]; omega
    · have hx0 : (x == 0) = false := by rw [beq_eq_false_iff_ne]; exact h0
      go_wp2_with fail
      refine (hT1 x hw.1 hw.2 h0 w rfl).mono ?_
      rintro e w1 ⟨⟨t, rfl, hl, ht⟩, rfl⟩
      go_wp2_with fail
      go_ret
      refine ⟨64 * k + t, ret_int (by omega), ?_, by omega, HB⟩
      obtain ⟨m, rfl⟩ : ∃ m, n = k + 1 + m := ⟨n - (k + 1), by omega⟩
      refine low_num (fun i => ys.getD i 0) k m t HZ.out ?_ ht
      show Low (ys.getD k 0) t
      rw [HX.out]; exact hl
theorem tz_nat (vx : Value) (ox : Option Nat) (x : Int) (w : World) (hx : IsNat w vx ox x) (hp : 0 < x) (hf : Fits x) (hT : Tab w) :
    Calls Tryz.prog 84 #[vx] w fun e w' => ∃ t : Nat, e = .returned (.int .u64 t) ∧ Low x t ∧ t ≤ 1073741888 ∧ Only w w' (fun _ => False) := by
  rcases hx.cases_ with ⟨rfl, A, c, rfl⟩ | ⟨_, b, n, ys, rfl, rfl, hb, hn, hny, hym, hr, rfl⟩
  · omega
  · have := hr.short hf
    refine (tz_words b n ys w hb hn hny this hr hT).mono ?_
    rintro e w' ⟨t, he, ht, ht2, ho⟩
    exact ⟨t, he, ht, by omega, ho⟩
theorem read_at {w wr : World} {b bx : Nat} {xs zs ys : List Int} {i : Nat} (hx : Blk w bx xs) (hi : i < xs.length) (hb : Blk w b zs) (hr : Only w wr (· = b)) (hy : Blk wr b ys) (hl : ys.length = zs.length) (he : ys.getD i 0 = zs.getD i 0) : wr.cell? ⟨bx, i, none⟩ = some (.int .u64 (xs.getD i 0)) :=
  read_kept hx hi (Only.refl w _) hb hr hy hl he
theorem add_step (f g y : Nat → Int) (k : Nat) (c s : Int) (h : num y k + c * 2 ^ (64 * k) = num f k + num g k) (hs : s = f k + g k + c) (hy : y k = s % 18446744073709551616) : num y (k + 1) + s / 18446744073709551616 * 2 ^ (64 * (k + 1)) = num f (k + 1) + num g (k + 1) := by
  have e2 : (2 : Int) ^ 64 = 18446744073709551616 := by decide
  rw [num, num, num, hy, show 64 * (k + 1) = 64 + 64 * k by omega, Int.pow_add, e2]
  have h1 := Int.emod_add_mul_ediv s 18446744073709551616
  generalize (2 : Int) ^ (64 * k) = P at *
  have h2 : s % 18446744073709551616 * P + s / 18446744073709551616 * (18446744073709551616 * P) = s * P := by
    rw [← Int.mul_assoc, Int.mul_comm (s / 18446744073709551616), ← Int.add_mul, h1]
  rw [hs] at h2 ⊢
  rw [Int.add_mul, Int.add_mul] at h2
  omega
set_option maxRecDepth 100000 in
set_option maxHeartbeats 4000000 in
theorem addVV_any (bz cz bx cx bv cv n : Nat) (zs xs vs : List Int) (w : World) (hz : Blk w bz zs) (hx : Blk w bx xs) (hv : Blk w bv vs) (hn : n ≤ zs.length) (hnx : n ≤ xs.length) (hnv : n ≤ vs.length) (hm : n ≤ 1099511627776) (hwx : Wd (fun i => xs.getD i 0) n) (hwv : Wd (fun i => vs.getD i 0) n) :
    Calls Tryz.prog 63 #[.slice (some ⟨bz, 0, none⟩) n cz, .slice (some ⟨bx, 0, none⟩) n cx, .slice (some ⟨bv, 0, none⟩) n cv] w fun e w' => ∃ c : Int, e = .returned (.int .u64 c) ∧ 0 ≤ c ∧ c ≤ 1 ∧ Only w w' (· = bz) ∧
      ∃ ys, Blk w' bz ys ∧ ys.length = zs.length ∧ (∀ p, n ≤ p → ys.getD p 0 = zs.getD p 0) ∧ Wd (fun i => ys.getD i 0) n ∧ num (fun i => ys.getD i 0) n + c * 2 ^ (64 * n) = num (fun i => xs.getD i 0) n + num (fun i => vs.getD i 0) n := by
  have h1 : ((n : Int) != n) = false := by simp
  have HWX := Lib.hid hwx
  have HWV := Lib.hid hwv
  clear hwx hwv
  go_enter Tryz.func63, Tryz.ntmps63
  go_wp2_with fail
  go_loopw [6, 25] (fun c i wr => ∃ (k : Nat) (d : Int), k ≤ n ∧ i = .int .i64 k ∧ c = .int .u64 d ∧ 0 ≤ d ∧ d ≤ 1 ∧ Only w wr (· = bz) ∧ ∃ ys, Blk wr bz ys ∧ ys.length = zs.length ∧ (∀ p, k ≤ p → ys.getD p 0 = zs.getD p 0) ∧ Wd (fun i => ys.getD i 0) k ∧ num (fun i => ys.getD i 0) k + d * 2 ^ (64 * k) = num (fun i => xs.getD i 0) k + num (fun i => vs.getD i 0) k)
    (fun _ i _ => n - (intOf i).toNat)
  case atStart => exact ⟨0, 0, Nat.zero_le _, rfl, rfl, by omega, by omega, Only.refl _ _, zs, hz, rfl, fun _ _ => rfl, fun i hi => by omega, by simp [num]⟩
  case round =>
    obtain ⟨k, d, hk, rfl, rfl, hd0, hd1, ho, ys, hy, hyl, hhi, hwd, hnum⟩ := hrel
    have HN := Lib.hid hnum
    have HH := Lib.hid hhi
    have HD := Lib.hid hwd
    clear hnum hwd
    by_cases hlt : k < n
    · have c0 := read_at hx (i := k) (by omega) hz ho hy hyl (hhi k (Nat.le_refl _))
      have c1 := read_at hv (i := k) (by omega) hz ho hy hyl (hhi k (Nat.le_refl _))
      have cz := hy.cell k (by omega)
      have fz := blk_frozen hy k
      have hkI : (k : Int) < n := by omega
      have w0 := HWX.out k hlt
      have w1 := HWV.out k hlt
      simp only at w0 w1
      clear hhi
      generalize hX : xs.getD k 0 = x at c0 w0
      generalize hV : vs.getD k 0 = v at c1 w1
      have HXV := Lib.hid (And.intro hX hV)
      clear hX hV
      go_wp2_with fail
      go_quiet ((go_at_call 121; exact Calls.quiet_of_same (add_any x v d _ w0.1 w1.1 hd0 hd1)))
      go_wp2_with fail
      go_roundw
      case rel =>
        refine ⟨k + 1, (x + v + d) / 18446744073709551616, by omega, by go_num, rfl, by omega, by omega, (ho.drewN _).set (.inr rfl) _, ys.set k ((x + v + d) % 18446744073709551616), ?_, by simpa using hyl, ?_, ?_, ?_⟩
        · exact Blk.set (w := wr.drewN _) hy k _
        · intro p hp
          rw [← HH.out p (by omega)]
          simp only [List.getD, List.getElem?_set]
          rw [if_neg (by omega)]
        · intro i hi
          show 0 ≤ (ys.set k _).getD i 0 ∧ (ys.set k _).getD i 0 < _
          simp only [List.getD, List.getElem?_set]
          by_cases e : k = i
          · subst e
            rw [if_pos rfl, if_pos (by omega)]
            exact ⟨Int.emod_nonneg _ (by decide), Int.emod_lt_of_pos _ (by decide)⟩
          · rw [if_neg e]
            exact HD.out i (by omega)
        · have hat : (ys.set k ((x + v + d) % 18446744073709551616)).getD k 0 = (x + v + d) % 18446744073709551616 := by
            simp only [List.getD, List.getElem?_set]
            rw [if_pos trivial, if_pos (by omega)]; rfl
          have hbe : num (fun i => (ys.set k ((x + v + d) % 18446744073709551616)).getD i 0) k = num (fun i => ys.getD i 0) k := num_congr k fun i hi => by
            simp only [List.getD, List.getElem?_set]
            rw [if_neg (by omega)]
          refine add_step (fun i => xs.getD i 0) (fun i => vs.getD i 0) (fun i => (ys.set k ((x + v + d) % 18446744073709551616)).getD i 0) k d _ ?_ ?_ hat
          · rw [hbe]; exact HN.out
          · show x + v + d = xs.getD k 0 + vs.getD k 0 + d
            rw [HXV.out.1, HXV.out.2]
      case measure => simp [intOf]; omega
    · obtain rfl : k = n := by omega
      go_wp2_with fail
      go_ret
      exact ⟨d, rfl, hd0, hd1, ho, ys, hy, hyl, HH.out, HD.out, HN.out⟩
theorem sub_step (f g y : Nat → Int) (k : Nat) (c b x v : Int) (h : num y k + num g k = num f k + c * 2 ^ (64 * k)) (hx : f k = x) (hv : g k = v) (hy : y k = (x - v - c) % 18446744073709551616) (hb : b = if x < v + c then 1 else 0) (w0 : 0 ≤ x ∧ x < 18446744073709551616) (w1 : 0 ≤ v ∧ v < 18446744073709551616) (d0 : 0 ≤ c) (d1 : c ≤ 1) : num y (k + 1) + num g (k + 1) = num f (k + 1) + b * 2 ^ (64 * (k + 1)) := by
  have e2 : (2 : Int) ^ 64 = 18446744073709551616 := by decide
  have hs : y k = x - v - c + b * 18446744073709551616 := by
    rw [hy, hb]
    by_cases hlt : x < v + c
    · rw [if_pos hlt]; omega
    · rw [if_neg hlt]; omega
  rw [num, num, num, hs, hx, hv, show 64 * (k + 1) = 64 + 64 * k by omega, Int.pow_add, e2]
  generalize (2 : Int) ^ (64 * k) = P at *
  have e3 : (x - v - c + b * 18446744073709551616) * P = x * P - v * P - c * P + b * (18446744073709551616 * P) := by
    rw [Int.add_mul, Int.sub_mul, Int.sub_mul, Int.mul_assoc]
  rw [e3]
  omega
set_option maxRecDepth 100000 in
set_option maxHeartbeats 4000000 in
theorem subVV_any (bz cz bx cx bv cv n : Nat) (zs xs vs : List Int) (w : World) (hz : Blk w bz zs) (hx : Blk w bx xs) (hv : Blk w bv vs) (hn : n ≤ zs.length) (hnx : n ≤ xs.length) (hnv : n ≤ vs.length) (hm : n ≤ 1099511627776) (hwx : Wd (fun i => xs.getD i 0) n) (hwv : Wd (fun i => vs.getD i 0) n) :
    Calls Tryz.prog 64 #[.slice (some ⟨bz, 0, none⟩) n cz, .slice (some ⟨bx, 0, none⟩) n cx, .slice (some ⟨bv, 0, none⟩) n cv] w fun e w' => ∃ c : Int, e = .returned (.int .u64 c) ∧ 0 ≤ c ∧ c ≤ 1 ∧ Only w w' (· = bz) ∧
      ∃ ys, Blk w' bz ys ∧ ys.length = zs.length ∧ (∀ p, n ≤ p → ys.getD p 0 = zs.getD p 0) ∧ Wd (fun i => ys.getD i 0) n ∧ num (fun i => ys.getD i 0) n + num (fun i => vs.getD i 0) n = num (fun i => xs.getD i 0) n + c * 2 ^ (64 * n) := by
  have h1 : ((n : Int) != n) = false := by simp
  have HWX := Lib.hid hwx
  have HWV := Lib.hid hwv
  clear hwx hwv
  go_enter Tryz.func64, Tryz.ntmps64
  go_wp2_with fail
  go_loopw [6, 25] (fun c i wr => ∃ (k : Nat) (d : Int), k ≤ n ∧ i = .int .i64 k ∧ c = .int .u64 d ∧ 0 ≤ d ∧ d ≤ 1 ∧ Only w wr (· = bz) ∧ ∃ ys, Blk wr bz ys ∧ ys.length = zs.length ∧ (∀ p, k ≤ p → ys.getD p 0 = zs.getD p 0) ∧ Wd (fun i => ys.getD i 0) k ∧ num (fun i => ys.getD i 0) k + num (fun i => vs.getD i 0) k = num (fun i => xs.getD i 0) k + d * 2 ^ (64 * k))
    (fun _ i _ => n - (intOf i).toNat)
  case atStart => exact ⟨0, 0, Nat.zero_le _, rfl, rfl, by omega, by omega, Only.refl _ _, zs, hz, rfl, fun _ _ => rfl, fun i hi => by omega, by simp [num]⟩
  case round =>
    obtain ⟨k, d, hk, rfl, rfl, hd0, hd1, ho, ys, hy, hyl, hhi, hwd, hnum⟩ := hrel
    have HN := Lib.hid hnum
    have HH := Lib.hid hhi
    have HD := Lib.hid hwd
    clear hnum hwd
    by_cases hlt : k < n
    · have c0 := read_at hx (i := k) (by omega) hz ho hy hyl (hhi k (Nat.le_refl _))
      have c1 := read_at hv (i := k) (by omega) hz ho hy hyl (hhi k (Nat.le_refl _))
      have cz := hy.cell k (by omega)
      have fz := blk_frozen hy k
      have hkI : (k : Int) < n := by omega
      have w0 := HWX.out k hlt
      have w1 := HWV.out k hlt
      simp only at w0 w1
      clear hhi
      generalize hX : xs.getD k 0 = x at c0 w0
      generalize hV : vs.getD k 0 = v at c1 w1
      have HXV := Lib.hid (And.intro hX hV)
      clear hX hV
      go_wp2_with fail
      go_quiet ((go_at_call 117; exact Calls.quiet_of_same (sub_any x v d _ w0.1 w0.2 w1.1 w1.2 hd0 hd1)))
      go_wp2_with fail
      go_roundw
      case rel =>
        refine ⟨k + 1, if x < v + d then 1 else 0, by omega, by go_num, rfl, by split <;> omega, by split <;> omega, (ho.drewN _).set (.inr rfl) _, ys.set k ((x - v - d) % 18446744073709551616), ?_, by simpa using hyl, ?_, ?_, ?_⟩
        · exact Blk.set (w := wr.drewN _) hy k _
        · intro p hp
          rw [← HH.out p (by omega)]
          simp only [List.getD, List.getElem?_set]
          rw [if_neg (by omega)]
        · intro i hi
          show 0 ≤ (ys.set k _).getD i 0 ∧ (ys.set k _).getD i 0 < _
          simp only [List.getD, List.getElem?_set]
          by_cases e : k = i
          · subst e
            rw [if_pos rfl, if_pos (by omega)]
            exact ⟨Int.emod_nonneg _ (by decide), Int.emod_lt_of_pos _ (by decide)⟩
          · rw [if_neg e]
            exact HD.out i (by omega)
        · have hat : (ys.set k ((x - v - d) % 18446744073709551616)).getD k 0 = (x - v - d) % 18446744073709551616 := by
            simp only [List.getD, List.getElem?_set]
            rw [if_pos trivial, if_pos (by omega)]; rfl
          have hbe : num (fun i => (ys.set k ((x - v - d) % 18446744073709551616)).getD i 0) k = num (fun i => ys.getD i 0) k := num_congr k fun i hi => by
            simp only [List.getD, List.getElem?_set]
            rw [if_neg (by omega)]
          refine sub_step (fun i => xs.getD i 0) (fun i => vs.getD i 0) (fun i => (ys.set k ((x - v - d) % 18446744073709551616)).getD i 0) k d _ x v ?_ HXV.out.1 HXV.out.2 hat rfl w0 w1 hd0 hd1
          rw [hbe]; exact HN.out
      case measure => simp [intOf]; omega
    · obtain rfl : k = n := by omega
      go_wp2_with fail
      go_ret
      exact ⟨d, rfl, hd0, hd1, ho, ys, hy, hyl, HH.out, HD.out, HN.out⟩
theorem Tryz.subVV_enters (args : Array Value) (w : World) : (callFunc 115 args).run Tryz.prog w = .ok (.enter 64 args) w :=
  run_callFunc_twin (twin := "math/big.subVV_g") Tryz.func115 (by kernel_rfl) (by kernel_rfl) (by kernel_rfl) (by kernel_rfl) Tryz.func64 (by kernel_rfl) (by kernel_rfl) (by kernel_rfl) args w
theorem Tryz.addVV_enters (args : Array Value) (w : World) : (callFunc 119 args).run Tryz.prog w = .ok (.enter 63 args) w :=
  run_callFunc_twin (twin := "math/big.addVV_g") Tryz.func119 (by kernel_rfl) (by kernel_rfl) (by kernel_rfl) (by kernel_rfl) Tryz.func63 (by kernel_rfl) (by kernel_rfl) (by kernel_rfl) args w
set_option maxRecDepth 100000 in
set_option maxHeartbeats 4000000 in
theorem sub_same (z : Value) (o : Option Nat) (bx bv n : Nat) (xs vs : List Int) (w : World) (hz : Room w z o) (hx : Blk w bx xs) (hv : Blk w bv vs) (hn : 0 < n) (hnx : n ≤ xs.length) (hnv : n ≤ vs.length) (hm : n ≤ 16777217) (hrx : Nrm xs n) (hrv : Nrm vs n) (hle : num (fun i => vs.getD i 0) n ≤ num (fun i => xs.getD i 0) n) :
    Calls Tryz.prog 85 #[z, .slice (some ⟨bx, 0, none⟩) n xs.length, .slice (some ⟨bv, 0, none⟩) n vs.length] w (Got w o (num (fun i => xs.getD i 0) n - num (fun i => vs.getD i 0) n)) := by
  have hmm : most = 274877906944 := rfl
  have h1 : ((n : Int) == 0) = false := by rw [beq_eq_false_iff_ne]; omega
  have q0 : (0 : Int) ≤ n := by omega
  have q1 : (n : Int) ≤ xs.length := by omega
  have q2 : (n : Int) ≤ vs.length := by omega
  have hmk := Lib.hid (fun w (h : Room w z o) => make_any z o n w h hn (by omega))
  have hen := Tryz.subVV_enters
  have HX := Lib.hid hmm
  clear hmm
  go_enter Tryz.func85, Tryz.ntmps85
  go_wp2_with fail
  refine (hmk.out w hz).mono ?_
  rintro e w1 ⟨b, zs, rfl, hb, hnz, hzm, ho, hob⟩
  have q3 : (n : Int) ≤ zs.length := by omega
  have hx1 : Blk w1 bx xs := ho.blk hx (fun h => h)
  have hv1 : Blk w1 bv vs := ho.blk hv (fun h => h)
  have HC := Lib.hid (fun w2 (hw : w2.heap = w1.heap) => subVV_any b zs.length bx xs.length bv vs.length n zs xs vs w2 (by unfold Blk; rw [hw]; exact hb) (by unfold Blk; rw [hw]; exact hx1) (by unfold Blk; rw [hw]; exact hv1) hnz hnx hnv (by omega) hrx.1 hrv.1)
  go_wp2_with fail
  go_region_law (go_simp; go_at_call 64; refine (HC.out w1.drew rfl).mono ?_; rintro e w2 ⟨d, rfl, hd0, hd1, ho2, ys, hy, hyl, hout, hwd, hnum⟩)
  all_goals
    have hd : d = 0 := by
      have r1 := num_range n hwd
      have hp : (0 : Int) < 2 ^ (64 * n) := Int.pow_pos (by omega)
      rcases (show d = 0 ∨ d = 1 by omega) with h | h
      · exact h
      · rw [h, Int.one_mul] at hnum; omega
    subst hd
    have HN := Lib.hid hnum
    have HW := Lib.hid hwd
    clear hnum hwd hout
    have hn2 := norm_got b n ys w2 hy (by omega) (by omega) HW.out
    rw [hyl] at hn2
    have HNN := Lib.hid hn2
    clear hn2
    go_wp2_with fail
    refine HNN.out.mono ?_
    rintro e w3 ⟨v, rfl, hv3, ho3⟩
    go_wp2_with fail
    go_ret
    refine ⟨v, some b, rfl, ?_, ?_, ?_⟩
    · have := HN.out
      rw [Int.zero_mul, Int.add_zero] at this
      rw [← this, Int.add_sub_cancel]
      exact hv3
    · refine ((ho.mono (fun _ _ h => h.elim)).drew.step ho2 ?_).step ho3 (fun _ _ h => h.elim)
      rintro i hi rfl
      rcases hob with ⟨h, _⟩ | h
      · exact h
      · omega
    · rcases hob with ⟨h, _⟩ | h
      · exact .inl h.symm
      · exact .inr ⟨_, rfl, by omega⟩
theorem rsh_any {y : Int} (vz : Value) (oz : Option Nat) (vx : Value) (ox : Option Nat) (x : Int) (s : Nat) (w : World) (hz : IsNat w vz oz y) (hx : IsNat w vx ox x) (hf : Fits x) (hs : 0 < s ∨ (oz = none ∧ 0 < x)) (hs2 : s < 1099511627776) :
    Calls Tryz.prog 86 #[vz, vx, .int .u64 (s : Int)] w (Got w oz (x / 2 ^ s)) := by
  by_cases h : 0 < s
  · exact rsh_nat vz oz vx ox x s w hz.room hx hf h hs2
  · obtain rfl : s = 0 := by omega
    obtain ⟨rfl, hp⟩ := hs.resolve_left h
    have hmm : most = 274877906944 := rfl
    rw [Int.pow_zero, Int.ediv_one]
    cases hz with
    | nil =>
      rcases hx.cases_ with ⟨rfl, A, c, rfl⟩ | ⟨_, b, n, ys, rfl, rfl, hb, hn, hny, hym, hr, rfl⟩
      · omega
      · have := hr.short hf
        exact rsh_none b n ys.length ys w hb hn hny (by omega) hr
theorem int_info : ∃ j, Tryz.prog.info? 87 = some j ∧ j.size ≠ 0 := by
  have h : (Tryz.prog.info? 87).map (fun i => i.size) = some 2 := by kernel_rfl
  obtain ⟨j, hj, h2⟩ := Option.map_eq_some_iff.1 h
  exact ⟨j, hj, by rw [h2]; decide⟩
theorem neq_other (a b : Nat) (ca cb : Array Value) (w : World) (hne : a ≠ b) (ha : w.heap[a]? = some (.cells ca 87 (0, 0))) (hb : w.heap[b]? = some (.cells cb 87 (0, 0))) :
    (binOp .neq 42 (.pointer (some ⟨a, 0, none⟩)) (.pointer (some ⟨b, 0, none⟩))).run Tryz.prog w = .ok (.bool true) w := by
  obtain ⟨j, hj, hs⟩ := int_info
  have hn : (⟨a, 0, none⟩ : Addr) ≠ ⟨b, 0, none⟩ := fun h => hne (congrArg Addr.block h)
  have h : ∀ d : Nat, (Op.equalIn (d + 1) 42 (.pointer (some ⟨a, 0, none⟩)) (.pointer (some ⟨b, 0, none⟩))).run Tryz.prog w = .ok false w := fun d => by
    simp [Op.equalIn, run_underlying Tryz.underlying42, sizeOf, typeInfo, hj, hs, run_sameAddr_other w hn ha hb]
  simp only [binOp]
  simp [Op.equal, Op.maxDepth, h 9999]
theorem neq_same (a : Nat) (w : World) :
    (binOp .neq 42 (.pointer (some ⟨a, 0, none⟩)) (.pointer (some ⟨a, 0, none⟩))).run Tryz.prog w = .ok (.bool false) w := by
  obtain ⟨j, hj, hs⟩ := int_info
  exact Lib.run_neq_ptr_same w _ Tryz.underlying42 hj
theorem natAbs_nonneg {x : Int} (h : 0 ≤ x) : ((Int.natAbs x : Nat) : Int) = x := by omega
set_option maxRecDepth 100000 in
set_option maxHeartbeats 2000000 in
theorem rsh_int (gz gx : Nat) (oz ox : Option Nat) (z x : Int) (s : Nat) (w : World) (hz : IsInt w gz oz z) (hx : IsInt w gx ox x) (hx0 : 0 ≤ x) (hf : Fits x) (hs0 : 0 < s ∨ (oz = none ∧ 0 < x)) (hs2 : s < 1099511627776) :
    Calls Tryz.prog 59 #[.pointer (some ⟨gz, 0, none⟩), .pointer (some ⟨gx, 0, none⟩), .int .u64 (s : Int)] w fun e w' => e = .returned (.pointer (some ⟨gz, 0, none⟩)) ∧ Put w w' gz oz (x / 2 ^ s) := by
  obtain ⟨vz, hgz, hnz⟩ := id hz
  obtain ⟨vx, hgx, hnx⟩ := id hx
  rw [natAbs_nonneg hx0] at hnx
  have hz1 := hnz.drew
  have hx1 := hnx.drew
  have c1 : w.cell? ⟨gz, 1, none⟩ = some vz := blk_cell hgz 1
  have d1 : w.cell? ⟨gx, 1, none⟩ = some vx := blk_cell hgx 1
  have d0 : w.cell? ⟨gx, 0, none⟩ = some (.bool false) := by
    have := blk_cell hgx 0
    rw [decide_eq_false (by omega)] at this
    exact this
  have hr : 0 ≤ x / 2 ^ s := Int.ediv_nonneg hx0 (Int.le_of_lt (Int.pow_pos (by omega)))
  have K : ∀ w1, Only w.drew w1 (fun k => oz = some k) → w1.cell? ⟨gz, 1, none⟩ = some vz ∧ w1.frozen? ⟨gz, 1, none⟩ = false ∧ w1.frozen? ⟨gz, 0, none⟩ = false ∧ w1.cell? ⟨gz, 0, none⟩ = some (.bool (decide (z < 0))) := fun w1 ho => by
    have e1 := blk_held hnz hgz ho
    exact ⟨blk_cell e1 1, blk_frozen e1 1, blk_frozen e1 0, blk_cell e1 0⟩
  have HK := Lib.hid K
  have HR := Lib.hid (fun w' (_ : w' = w.drew) => rsh_any vz oz vx ox x s w.drew hz1 hx1 hf hs0 hs2)
  clear K
  go_enter Tryz.func59, Tryz.ntmps59
  go_wp2_with fail
  go_region_law (go_simp; go_at_call 86; refine (HR.out _ rfl).mono ?_; rintro e w1 ⟨v, o', rfl, hv, ho, hoo⟩; obtain ⟨A, n, c, rfl⟩ := hv.slice_; obtain ⟨k1, k2, k3, k4⟩ := HK.out _ ho)
  all_goals
    go_wp2_with fail
    go_ret
    have h := Put.from_drew (r := x / 2 ^ s) hz (o' := o') (by rw [natAbs_nonneg hr]; exact hv) ho hoo
    rw [decide_eq_false (by omega)] at h
    exact ⟨rfl, h⟩
set_option maxRecDepth 100000 in
set_option maxHeartbeats 2000000 in
theorem set_int (gz gx : Nat) (oz ox : Option Nat) (z x : Int) (w : World) (hz : IsInt w gz oz z) (hx : IsInt w gx ox x) (hf : Fits (Int.natAbs x)) (hne : gz ≠ gx) :
    Calls Tryz.prog 70 #[.pointer (some ⟨gz, 0, none⟩), .pointer (some ⟨gx, 0, none⟩)] w fun e w' => e = .returned (.pointer (some ⟨gz, 0, none⟩)) ∧ Put w w' gz oz x := by
  obtain ⟨vz, hgz, hnz⟩ := id hz
  obtain ⟨vx, hgx, hnx⟩ := id hx
  have hz1 : Room w.drew vz oz := hnz.drew.room
  have hx1 := hnx.drew
  have c1 : w.cell? ⟨gz, 1, none⟩ = some vz := blk_cell hgz 1
  have d1 : w.cell? ⟨gx, 1, none⟩ = some vx := blk_cell hgx 1
  have K : ∀ w1, Only w.drew w1 (fun k => oz = some k) → w1.cell? ⟨gz, 1, none⟩ = some vz ∧ w1.frozen? ⟨gz, 1, none⟩ = false ∧ w1.frozen? ⟨gz, 0, none⟩ = false ∧ w1.cell? ⟨gz, 0, none⟩ = some (.bool (decide (z < 0))) ∧ w1.cell? ⟨gx, 0, none⟩ = some (.bool (decide (x < 0))) := fun w1 ho => by
    have e1 := blk_held hnz hgz ho
    have e2 := blk_held hnz hgx ho
    exact ⟨blk_cell e1 1, blk_frozen e1 1, blk_frozen e1 0, blk_cell e1 0, blk_cell e2 0⟩
  have HK := Lib.hid K
  clear K
  have hpq := neq_other gz gx _ _ w hne hgz hgx
  go_enter Tryz.func70, Tryz.ntmps70
  go_wp2_with fail
  go_region_law (go_simp; go_at_call 92; refine (set_nat vz oz vx ox _ _ hz1 hx1 hf).mono ?_; rintro e w1 ⟨v, o', rfl, hv, ho, hoo⟩; obtain ⟨A, n, c, rfl⟩ := hv.slice_; obtain ⟨k1, k2, k3, k4, k5⟩ := HK.out _ ho)
  all_goals
    go_wp2_with fail
    go_ret
    exact ⟨rfl, Put.from_drew hz (o' := o') hv ho hoo⟩
set_option maxRecDepth 100000 in
theorem set_self (g : Nat) (w : World) :
    Calls Tryz.prog 70 #[.pointer (some ⟨g, 0, none⟩), .pointer (some ⟨g, 0, none⟩)] w fun e w' => e = .returned (.pointer (some ⟨g, 0, none⟩)) ∧ w' = w := by
  have hpq := neq_same g w
  go_enter Tryz.func70, Tryz.ntmps70
  go_wp2
  go_ret
  exact ⟨rfl, rfl⟩
set_option maxRecDepth 100000 in
set_option maxHeartbeats 2000000 in
theorem abs_int (gz gx : Nat) (oz ox : Option Nat) (z x : Int) (w : World) (hz : IsInt w gz oz z) (hx : IsInt w gx ox x) (hf : Fits (Int.natAbs x)) (hne : gz ≠ gx) :
    Calls Tryz.prog 60 #[.pointer (some ⟨gz, 0, none⟩), .pointer (some ⟨gx, 0, none⟩)] w fun e w' => e = .returned (.pointer (some ⟨gz, 0, none⟩)) ∧ Put w w' gz oz (Int.natAbs x) := by
  go_enter Tryz.func60, Tryz.ntmps60
  go_wp2_with fail
  refine (set_int gz gx oz ox z x w hz hx hf hne).mono ?_
  rintro e w1 ⟨rfl, o1, hi, ho, hoo⟩
  obtain ⟨v, c0, c1, f0, f1, hn⟩ := hi.cells
  go_wp2_with fail
  go_ret
  obtain ⟨o2, h2, ho2, hoo2⟩ := put_sign (r := (Int.natAbs x : Int)) hi (by omega)
  rw [decide_eq_false (by omega)] at h2 ho2
  refine ⟨rfl, o2, h2, ?_, ?_⟩
  · refine ho.step ho2 ?_
    rintro i hi' (rfl | h)
    · exact .inl rfl
    · rcases hoo with h1 | ⟨b, h1, h3⟩
      · exact .inr (h1 ▸ h)
      · rw [h1] at h; cases h; omega
  · rcases hoo2 with h1 | ⟨b, h1, h3⟩
    · rw [h1]; exact hoo
    · exact .inr ⟨b, h1, Nat.le_trans ho.base.size h3⟩
set_option maxRecDepth 100000 in
set_option maxHeartbeats 2000000 in
theorem neg_int (g : Nat) (o : Option Nat) (z : Int) (w : World) (hz : IsInt w g o z) :
    Calls Tryz.prog 36 #[.pointer (some ⟨g, 0, none⟩), .pointer (some ⟨g, 0, none⟩)] w fun e w' => e = .returned (.pointer (some ⟨g, 0, none⟩)) ∧ Put w w' g o (-z) := by
  have hp := put_sign (r := -z) hz (by omega)
  obtain ⟨v, c0, c1, f0, f1, hn⟩ := hz.cells
  rcases hn.cases_ with ⟨h0, A, c, rfl⟩ | ⟨hp0, b, n, ys, rfl, rfl, hb, hn0, hny, hym, hr, hx⟩
  · obtain rfl := natAbs_zero h0
    have hd : decide ((0 : Int) > 0) = false := by decide
    clear hn h0 hz
    go_enter Tryz.func36, Tryz.ntmps36
    go_wp2_with fail
    refine (set_self g w).mono ?_
    rintro e w1 ⟨rfl, rfl⟩
    go_wp2_with fail
    go_ret
    exact ⟨rfl, hp⟩
  · have hz0 := natAbs_pos hp0
    have hd : decide ((n : Int) > 0) = true := by simp; omega
    have hs : (!decide (z < 0)) = decide (-z < 0) := by
      by_cases h : z < 0
      · rw [decide_eq_true h, decide_eq_false (by omega)]; rfl
      · rw [decide_eq_false h, decide_eq_true (by omega)]; rfl
    rw [← hs] at hp
    clear hn hz hx hp0 hs
    go_enter Tryz.func36, Tryz.ntmps36
    go_wp2_with fail
    refine (set_self g w).mono ?_
    rintro e w1 ⟨rfl, rfl⟩
    go_wp2_with fail
    go_ret
    exact ⟨rfl, hp⟩
theorem Put.after {w W w' : World} {g : Nat} {o : Option Nat} {r : Int} (h : Put W w' g o r) (hw : Only w W (fun _ => False)) : Put w w' g o r := by
  obtain ⟨o', h1, h2, h3⟩ := h
  refine ⟨o', h1, (hw.mono (fun _ _ h => h.elim)).step h2 (fun _ _ h => h), ?_⟩
  rcases h3 with h3 | ⟨b, h3, h4⟩
  · exact .inl h3
  · exact .inr ⟨b, h3, Nat.le_trans hw.base.size h4⟩
set_option maxRecDepth 100000 in
set_option maxHeartbeats 4000000 in
theorem or_int (gz gx gy : Nat) (oz ox oy : Option Nat) (z x y : Int) (k : Nat) (w : World) (hz : IsInt w gz oz z) (hx : IsInt w gx ox x) (hy : IsInt w gy oy y) (hx0 : 0 ≤ x) (hy0 : 0 ≤ y) (hf : Fits x) (hk : k < 64) (hxk : x % 2 ^ k = 0) (hyk : y < 2 ^ k) :
    Calls Tryz.prog 72 #[.pointer (some ⟨gz, 0, none⟩), .pointer (some ⟨gx, 0, none⟩), .pointer (some ⟨gy, 0, none⟩)] w fun e w' => e = .returned (.pointer (some ⟨gz, 0, none⟩)) ∧ Put w w' gz oz (x + y) := by
  have hn1 : ∀ n, Only w (w.drewN n) (fun _ => False) := fun n => (Only.refl w (fun _ => False)).drewN n
  have T : ∀ n, Only w (w.drewN n) (fun _ => False) ∧ IsInt (w.drewN n) gz oz z ∧ IsInt (w.drewN n) gx ox x ∧ IsInt (w.drewN n) gy oy y := fun n => ⟨hn1 n, hz.only (hn1 n) (fun h => h) (fun _ _ h => h), hx.only (hn1 n) (fun h => h) (fun _ _ h => h), hy.only (hn1 n) (fun h => h) (fun _ _ h => h)⟩
  have d0 : w.cell? ⟨gx, 0, none⟩ = some (.bool false) := by
    obtain ⟨vx, hgx, hnx⟩ := hx
    have := blk_cell hgx 0
    rw [decide_eq_false (by omega)] at this
    exact this
  have e0 : w.cell? ⟨gy, 0, none⟩ = some (.bool false) := by
    obtain ⟨vy, hgy, hny⟩ := hy
    have := blk_cell hgy 0
    rw [decide_eq_false (by omega)] at this
    exact this
  have HT := Lib.hid T
  have HR : Hid (∀ (w : World) (vz vx vy : Value), Room w vz oz → IsNat w vx ox x → IsNat w vy oy y → Calls Tryz.prog 88 #[vz, vx, vy] w (Got w oz (x + y))) := Lib.hid (fun w vz vx vy h1 h2 h3 => or_nat vz oz vx ox x vy oy y k w h1 h2 h3 hf hk hxk hyk)
  have h0 : 0 ≤ x + y := by omega
  have HX := Lib.hid (And.intro hx0 hy0)
  have H0 := Lib.hid h0
  clear T hz hx hy hn1 hyk hxk
  go_enter Tryz.func72, Tryz.ntmps72
  go_wp2_with fail
  go_quiet (fail)
  go_wp2_with fail
  clear d0 e0
  obtain ⟨hoW, hz, hx, hy⟩ := HT.out nq
  generalize w.drewN nq = W at *
  obtain ⟨vz, hgz, hnz⟩ := id hz
  obtain ⟨vx, hgx, hnx⟩ := id hx
  obtain ⟨vy, hgy, hny⟩ := id hy
  rw [natAbs_nonneg HX.out.1] at hnx
  rw [natAbs_nonneg HX.out.2] at hny
  have hc := HR.out W.drew vz vx vy hnz.drew.room hnx.drew hny.drew
  have HC := Lib.hid hc
  have c1 : W.cell? ⟨gz, 1, none⟩ = some vz := blk_cell hgz 1
  have d1 : W.cell? ⟨gx, 1, none⟩ = some vx := blk_cell hgx 1
  have e1 : W.cell? ⟨gy, 1, none⟩ = some vy := blk_cell hgy 1
  have K : ∀ w1, Only W.drew w1 (fun k => oz = some k) → w1.cell? ⟨gz, 1, none⟩ = some vz ∧ w1.frozen? ⟨gz, 1, none⟩ = false ∧ w1.frozen? ⟨gz, 0, none⟩ = false ∧ w1.cell? ⟨gz, 0, none⟩ = some (.bool (decide (z < 0))) := fun w1 ho => by
    have e1 := blk_held hnz hgz ho
    exact ⟨blk_cell e1 1, blk_frozen e1 1, blk_frozen e1 0, blk_cell e1 0⟩
  have HK := Lib.hid K
  clear K hc
  go_region_law (go_simp; go_at_call 88; refine HC.out.mono ?_; rintro e w1 ⟨v, o', rfl, hv, ho, hoo⟩; obtain ⟨A, n, c, rfl⟩ := hv.slice_; obtain ⟨k1, k2, k3, k4⟩ := HK.out _ ho)
  all_goals
    go_wp2_with fail
    go_ret
    have h := Put.from_drew (r := x + y) hz (o' := o') (by rw [natAbs_nonneg H0.out]; exact hv) ho hoo
    rw [decide_eq_false (Int.not_lt.2 H0.out)] at h
    exact ⟨rfl, h.after hoW⟩
set_option maxRecDepth 100000 in
set_option maxHeartbeats 4000000 in
theorem and_int (gz gx gy : Nat) (oz ox oy : Option Nat) (z x y : Int)  (w : World) (hz : IsInt w gz oz z) (hx : IsInt w gx ox x) (hy : IsInt w gy oy y) (hx0 : 0 < x) (hy0 : y = 1073741823) (hf : Fits x) :
    Calls Tryz.prog 61 #[.pointer (some ⟨gz, 0, none⟩), .pointer (some ⟨gx, 0, none⟩), .pointer (some ⟨gy, 0, none⟩)] w fun e w' => e = .returned (.pointer (some ⟨gz, 0, none⟩)) ∧ Put w w' gz oz (x % 1073741824) := by
  have hn1 : ∀ n, Only w (w.drewN n) (fun _ => False) := fun n => (Only.refl w (fun _ => False)).drewN n
  have T : ∀ n, Only w (w.drewN n) (fun _ => False) ∧ IsInt (w.drewN n) gz oz z ∧ IsInt (w.drewN n) gx ox x ∧ IsInt (w.drewN n) gy oy y := fun n => ⟨hn1 n, hz.only (hn1 n) (fun h => h) (fun _ _ h => h), hx.only (hn1 n) (fun h => h) (fun _ _ h => h), hy.only (hn1 n) (fun h => h) (fun _ _ h => h)⟩
  have d0 : w.cell? ⟨gx, 0, none⟩ = some (.bool false) := by
    obtain ⟨vx, hgx, hnx⟩ := hx
    have := blk_cell hgx 0
    rw [decide_eq_false (by omega)] at this
    exact this
  have e0 : w.cell? ⟨gy, 0, none⟩ = some (.bool false) := by
    obtain ⟨vy, hgy, hny⟩ := hy
    have := blk_cell hgy 0
    rw [decide_eq_false (by omega)] at this
    exact this
  have HT := Lib.hid T
  have HR : Hid (∀ (w : World) (vz vx vy : Value), Room w vz oz → IsNat w vx ox x → IsNat w vy oy y → Calls Tryz.prog 89 #[vz, vx, vy] w (Got w oz (x % 1073741824))) := Lib.hid (fun w vz vx vy h1 h2 h3 => and_nat vz oz vx ox x vy oy w h1 h2 (by rw [← hy0]; exact h3) hx0 hf)
  have h0 : 0 ≤ x % 1073741824 := by omega
  have HX := Lib.hid (And.intro hx0 hy0)
  have H0 := Lib.hid h0
  clear T hz hx hy hn1 hy0 
  go_enter Tryz.func61, Tryz.ntmps61
  go_wp2_with fail
  go_quiet (fail)
  go_wp2_with fail
  clear d0 e0
  obtain ⟨hoW, hz, hx, hy⟩ := HT.out nq
  generalize w.drewN nq = W at *
  obtain ⟨vz, hgz, hnz⟩ := id hz
  obtain ⟨vx, hgx, hnx⟩ := id hx
  obtain ⟨vy, hgy, hny⟩ := id hy
  rw [natAbs_nonneg (Int.le_of_lt HX.out.1)] at hnx
  rw [natAbs_nonneg (by have := HX.out.2; omega)] at hny
  have hc := HR.out W.drew vz vx vy hnz.drew.room hnx.drew hny.drew
  have HC := Lib.hid hc
  have c1 : W.cell? ⟨gz, 1, none⟩ = some vz := blk_cell hgz 1
  have d1 : W.cell? ⟨gx, 1, none⟩ = some vx := blk_cell hgx 1
  have e1 : W.cell? ⟨gy, 1, none⟩ = some vy := blk_cell hgy 1
  have K : ∀ w1, Only W.drew w1 (fun k => oz = some k) → w1.cell? ⟨gz, 1, none⟩ = some vz ∧ w1.frozen? ⟨gz, 1, none⟩ = false ∧ w1.frozen? ⟨gz, 0, none⟩ = false ∧ w1.cell? ⟨gz, 0, none⟩ = some (.bool (decide (z < 0))) := fun w1 ho => by
    have e1 := blk_held hnz hgz ho
    exact ⟨blk_cell e1 1, blk_frozen e1 1, blk_frozen e1 0, blk_cell e1 0⟩
  have HK := Lib.hid K
  clear K hc
  go_region_law (go_simp; go_at_call 89; refine HC.out.mono ?_; rintro e w1 ⟨v, o', rfl, hv, ho, hoo⟩; obtain ⟨A, n, c, rfl⟩ := hv.slice_; obtain ⟨k1, k2, k3, k4⟩ := HK.out _ ho)
  all_goals
    go_wp2_with fail
    go_ret
    have h := Put.from_drew (r := x % 1073741824) hz (o' := o') (by rw [natAbs_nonneg H0.out]; exact hv) ho hoo
    rw [decide_eq_false (Int.not_lt.2 H0.out)] at h
    exact ⟨rfl, h.after hoW⟩
set_option maxRecDepth 100000 in
theorem low64_nat (vx : Value) (ox : Option Nat) (x : Int) (w : World) (hx : IsNat w vx ox x) (h : x < 18446744073709551616) :
    Calls Tryz.prog 91 #[vx] w fun e w' => e = .returned (.int .u64 x) ∧ w' = w := by
  rcases hx.cases_ with ⟨rfl, A, c, rfl⟩ | ⟨_, b, n, ys, rfl, rfl, hb, hn, hny, hym, hr, rfl⟩
  · go_enter Tryz.func91, Tryz.ntmps91
    go_wp2
    go_ret
    exact ⟨rfl, rfl⟩
  · obtain rfl : n = 1 := by
      have := pow_lt (Int.lt_of_le_of_lt (hr.low hn) (Int.lt_of_lt_of_le h (by decide : (18446744073709551616 : Int) ≤ 2 ^ 64)))
      omega
    have e1 : num (fun i => ys.getD i 0) 1 = ys.getD 0 0 := by simp [num]
    rw [e1]
    have hc := hb.cell 0 (by omega)
    have hw := hr.1 0 (by omega)
    simp only at hw
    clear e1 h hr
    generalize ys.getD 0 0 = x at hc hw
    go_enter Tryz.func91, Tryz.ntmps91
    go_wp2
    go_ret
    exact ⟨rfl, rfl⟩
set_option maxRecDepth 100000 in
theorem int64_int (g : Nat) (o : Option Nat) (x : Int) (w : World) (hx : IsInt w g o x) (h0 : 0 ≤ x) (h : x < 9223372036854775808) :
    Calls Tryz.prog 62 #[.pointer (some ⟨g, 0, none⟩)] w fun e w' => e = .returned (.int .i64 x) ∧ w' = w := by
  obtain ⟨v, c0, c1, _, _, hn⟩ := hx.cells
  rw [natAbs_nonneg h0] at hn
  rw [decide_eq_false (by omega)] at c0
  have hl := low64_nat v o x w hn (by omega)
  have HL := Lib.hid hl
  clear hl
  go_enter Tryz.func62, Tryz.ntmps62
  go_wp2_with fail
  refine HL.out.mono ?_
  rintro e w1 ⟨rfl, rfl⟩
  go_wp2_with fail
  go_ret
  exact ⟨rfl, rfl⟩
set_option maxRecDepth 100000 in
theorem bitLen_int (g : Nat) (o : Option Nat) (x : Int) (w : World) (hx : IsInt w g o x) (hf : Fits (Int.natAbs x)) :
    Calls Tryz.prog 44 #[.pointer (some ⟨g, 0, none⟩)] w fun e w' => (∃ k : Nat, e = .returned (.int .i64 k) ∧ BLen (Int.natAbs x) k ∧ k ≤ 1073741888) ∧ w' = w := by
  obtain ⟨v, c0, c1, _, _, hn⟩ := hx.cells
  have HL := Lib.hid (bitLen_nat v o _ w hn hf)
  go_enter Tryz.func44, Tryz.ntmps44
  go_wp2_with fail
  refine HL.out.mono ?_
  rintro e w1 ⟨⟨k, rfl, hk, hk2⟩, rfl⟩
  go_wp2_with fail
  go_ret
  exact ⟨⟨k, rfl, hk, hk2⟩, rfl⟩
set_option maxRecDepth 100000 in
theorem tz_int (g : Nat) (o : Option Nat) (x : Int) (w : World) (hx : IsInt w g o x) (h0 : x ≠ 0) (hf : Fits (Int.natAbs x)) (hT : Tab w) :
    Calls Tryz.prog 58 #[.pointer (some ⟨g, 0, none⟩)] w fun e w' => ∃ t : Nat, e = .returned (.int .u64 t) ∧ Low (Int.natAbs x) t ∧ t ≤ 1073741888 ∧ Only w w' (fun _ => False) := by
  obtain ⟨v, c0, c1, _, _, hn⟩ := hx.cells
  have HL := Lib.hid (tz_nat v o _ w hn (by omega) hf hT)
  go_enter Tryz.func58, Tryz.ntmps58
  go_wp2_with fail
  refine HL.out.mono ?_
  rintro e w1 ⟨t, rfl, hk, hk2, ho⟩
  go_wp2_with fail
  go_ret
  exact ⟨t, rfl, hk, hk2, ho⟩
theorem lsh0_nat (vx : Value) (ox : Option Nat) (x : Int) (w : World) (hx : IsNat w vx ox x) (hf : Fits x) (hp : 0 < x) :
    Calls Tryz.prog 83 #[.slice none 0 0, vx, .int .u64 0] w (Got w none x) := by
  have hmm : most = 274877906944 := rfl
  rcases hx.cases_ with ⟨rfl, A, c, rfl⟩ | ⟨_, b, n, ys, rfl, rfl, hb, hn, hny, hym, hr, rfl⟩
  · omega
  · have := hr.short hf
    exact lsh_none b n ys.length ys w hb hn hny (by omega) hr
set_option maxRecDepth 100000 in
set_option maxHeartbeats 2000000 in
theorem lsh0_int (gz gx : Nat) (ox : Option Nat) (x : Int) (w : World) (hz : IsInt w gz none 0) (hx : IsInt w gx ox x) (hf : Fits (Int.natAbs x)) (hp : x ≠ 0) :
    Calls Tryz.prog 46 #[.pointer (some ⟨gz, 0, none⟩), .pointer (some ⟨gx, 0, none⟩), .int .u64 0] w fun e w' => e = .returned (.pointer (some ⟨gz, 0, none⟩)) ∧ Put w w' gz none x := by
  obtain ⟨vz, hgz, hnz⟩ := id hz
  obtain ⟨vx, hgx, hnx⟩ := id hx
  have hx1 := hnx.drew
  obtain rfl : vz = .slice none 0 0 := by
    cases hnz with
    | nil => rfl
  have c1 : w.cell? ⟨gz, 1, none⟩ = some (.slice none 0 0) := blk_cell hgz 1
  have d1 : w.cell? ⟨gx, 1, none⟩ = some vx := blk_cell hgx 1
  have K : ∀ w1, Only w.drew w1 (fun k => (none : Option Nat) = some k) → w1.cell? ⟨gz, 1, none⟩ = some (.slice none 0 0) ∧ w1.frozen? ⟨gz, 1, none⟩ = false ∧ w1.frozen? ⟨gz, 0, none⟩ = false ∧ w1.cell? ⟨gz, 0, none⟩ = some (.bool (decide ((0 : Int) < 0))) ∧ w1.cell? ⟨gx, 0, none⟩ = some (.bool (decide (x < 0))) := fun w1 ho => by
    have e1 := blk_held hnz hgz ho
    have e2 := blk_held hnz hgx ho
    exact ⟨blk_cell e1 1, blk_frozen e1 1, blk_frozen e1 0, blk_cell e1 0, blk_cell e2 0⟩
  have HK := Lib.hid K
  have HL := Lib.hid (lsh0_nat vx ox _ w.drew hx1 hf (by omega))
  clear K
  go_enter Tryz.func46, Tryz.ntmps46
  go_wp2_with fail
  go_region_law (go_simp; go_at_call 83; refine HL.out.mono ?_; rintro e w1 ⟨v, o', rfl, hv, ho, hoo⟩; obtain ⟨A, n, c, rfl⟩ := hv.slice_; obtain ⟨k1, k2, k3, k4, k5⟩ := HK.out _ ho)
  all_goals
    go_wp2_with fail
    go_ret
    exact ⟨rfl, Put.from_drew hz (o' := o') hv ho hoo⟩
end Go.Proofs.YtlfmgdpbjapdjaaGreatFmtBesafter
