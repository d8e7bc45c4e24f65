/- Part 7 of the walk: RndF RndG RndC RndD FltD RndH. -/
import Derived.Test.YtgbpglojbgicjaaGreatFmtPart03
import Derived.Test.YtgbpglojbgicjaaGreatFmtPart06
import Derived.Test.YtgbpglojbgicjaaGreatFmtPart02
import Derived.Lib.Builder
import Derived.StillTailTactics
import Derived.Deep.DeepCutAuto
import Derived.Deep.CutBlock
namespace Go.Proofs.YtgbpglojbgicjaaGreatFmt
open Go.RowKit Go.Proofs.YtgbpglojbgicjaaGreatFmtW.PrintWords
def Whole (ys : List Int) (m p : Nat) : Prop := 64 * m ≤ p ∨ ∃ k, 0 < k ∧ k < 64 ∧ p = 64 * m - k ∧ ys.getD 0 0 % 2 ^ k = 0
def Mant (ys : List Int) (m c : Nat) : Prop := 0 < m ∧ m < 16777218 ∧ m ≤ ys.length ∧ m ≤ c ∧ ys.length < 1099511627776 ∧ Wd (fun i => ys.getD i 0) m ∧ 9223372036854775808 ≤ ys.getD (m - 1) 0
theorem round_whole (f b c m p : Nat) (ys : List Int) (a e : Int) (n : Bool) (w : World) (hf : w.heap[f]? = some (.cells (fl p a 1 n (.slice (some ⟨b, 0, none⟩) m c) e) 112 (0, 0))) (hb : Blk w b ys) (hm : Mant ys m c) (hp : Whole ys m p) :
    Calls Tryz.prog 131 #[.pointer (some ⟨f, 0, none⟩), .int .u64 0] w (Stays w f b p e n m c ys) := by
  obtain ⟨h0, h1, h2, h3, h4, h5, h6⟩ := hm
  rcases hp with h | ⟨k, k0, k1, rfl, k2⟩
  · exact round_fits f b c m p ys a e n w hf hb h1 h
  · exact round_low f b c m _ k ys a e _ n w hf hb h1 h2 h3 h5 rfl k0 k1 h0 rfl k2
set_option maxRecDepth 100000 in
set_option maxHeartbeats 4000000 in
theorem setExp_whole (f b c m p : Nat) (ys : List Int) (a fm e0 ex : Int) (n : Bool) (w : World) (hf : w.heap[f]? = some (.cells (fl p a fm n (.slice (some ⟨b, 0, none⟩) m c) e0) 112 (0, 0))) (hb : Blk w b ys) (hm : Mant ys m c) (hp : Whole ys m p) (hx0 : -2147483648 ≤ ex) (hx1 : ex ≤ 2147483647) :
    Calls Tryz.prog 103 #[.pointer (some ⟨f, 0, none⟩), .int .i64 ex, .int .u64 0] w (Stays w f b p ex n m c ys) := by
  have hw : IntKind.i32.wrap ex = ex := by rw [IntKind.wrap_i32]; omega
  have c3 : w.cell? ⟨f, 3, none⟩ = some (.int .u8 fm) := blk_cell hf 3
  have c6 : w.cell? ⟨f, 6, none⟩ = some (.int .i32 e0) := blk_cell hf 6
  have f3 := blk_frozen hf 3
  have f6 := blk_frozen hf 6
  have hne : f ≠ b := blk_ne hf hb (by decide)
  have hb1 : Blk ((w.setCell ⟨f, 3, none⟩ (.int .u8 1)).setCell ⟨f, 6, none⟩ (.int .i32 ex)) b ys := blk_far (blk_far hb (p := ⟨f, 3, none⟩) (Ne.symm hne) _) (p := ⟨f, 6, none⟩) (Ne.symm hne) _
  have hf1 : ((w.setCell ⟨f, 3, none⟩ (.int .u8 1)).setCell ⟨f, 6, none⟩ (.int .i32 ex)).heap[f]? = some (.cells (fl p a 1 n (.slice (some ⟨b, 0, none⟩) m c) ex) 112 (0, 0)) := by simpa [fl] using blk_set (blk_set hf 3 (.int .u8 1)) 6 (.int .i32 ex)
  have ho := ((Only.refl w (fun k => k = f ∨ k = b)).set (p := ⟨f, 3, none⟩) (.inr (.inl rfl)) (.int .u8 1)).set (p := ⟨f, 6, none⟩) (.inr (.inl rfl)) (.int .i32 ex)
  have HR := Lib.hid (round_whole f b c m p ys a ex n _ hf1 hb1 hm hp)
  have HO := Lib.hid ho
  clear hf hb hb1 hf1 ho hm hp
  go_enter Tryz.func103, Tryz.ntmps103
  go_wp2_with fail
  refine HR.out.mono ?_
  rintro en w' ⟨rfl, h1, h2, h3⟩
  go_wp2_with fail
  go_end0
  exact ⟨rfl, h1, h2, HO.out.trans h3⟩
def Normed (w : World) (b c m : Nat) (ys : List Int) (en : Ending) (w' : World) : Prop := ∃ (s : Nat) (zs : List Int), en = .returned (.int .i64 s) ∧ s < 64 ∧ Blk w' b zs ∧ zs.length = ys.length ∧ Mant zs m c ∧ num (fun i => zs.getD i 0) m = num (fun i => ys.getD i 0) m * 2 ^ s ∧ zs.getD 0 0 % 2 ^ s = 0 ∧ Only w w' (fun k => k = b)
set_option maxRecDepth 100000 in
set_option maxHeartbeats 4000000 in
theorem fnorm_any (b c m : Nat) (ys : List Int) (w : World) (hb : Blk w b ys) (hm0 : 0 < m) (hm1 : m < 16777218) (hmy : m ≤ ys.length) (hmc : m ≤ c) (hl : ys.length < 1099511627776) (hr : Nrm ys m) :
    Calls Tryz.prog 102 #[.slice (some ⟨b, 0, none⟩) m c] w (Normed w b c m ys) := by
  obtain ⟨t, ht⟩ : ∃ t, t = ys.getD (m - 1) 0 := ⟨_, rfl⟩
  have ht0 : 0 ≤ t ∧ t < 18446744073709551616 := by rw [ht]; exact hr.1 (m - 1) (by omega)
  have ht1 : t ≠ 0 := by rw [ht]; exact hr.2 hm0
  have x1 : w.cell? ⟨b, m - 1, none⟩ = some (.int .u64 t) := by rw [hb.cell _ (by omega), ht]
  have hbt := bitLen_spec t.toNat (by omega)
  rw [Int.toNat_of_nonneg ht0.1] at hbt
  have h64 : Lib.bitLen t.toNat ≤ 64 := Lib.bitLen_le _ 64 (by omega) (by omega)
  have hpos : 0 < Lib.bitLen t.toNat := by
    rcases Nat.eq_zero_or_pos (Lib.bitLen t.toNat) with h | h
    · have := hbt.1
      rw [h, Int.pow_zero] at this
      omega
    · exact h
  obtain ⟨s, hs⟩ : ∃ s, s = 64 - Lib.bitLen t.toNat := ⟨_, rfl⟩
  have hs64 : s < 64 := by omega
  have HN := Lib.hid (fun w => nlz_lit t s w (by omega) (by omega) (by omega) (by omega))
  have hx : ∀ i, i < m → w.cell? ⟨b, 0 + i, none⟩ = some (.int .u64 (ys.getD i 0)) := fun i hi => by rw [Nat.zero_add]; exact hb.cell i (by omega)
  have hlo : 2 ^ (63 - s) ≤ t := by rw [show 63 - s = Lib.bitLen t.toNat - 1 by omega]; exact hbt.2 hpos
  have hhi : t < 2 ^ (64 - s) := by rw [show 64 - s = Lib.bitLen t.toNat by omega]; exact hbt.1
  have hi0 : ((m : Int) - 1) = ((m - 1 : Nat) : Int) := by omega
  rcases Nat.eq_zero_or_pos s with h0 | h0
  · have HS : Hid (Normed w b c m ys (.returned (.int .i64 0)) w) := Lib.hid ⟨0, ys, rfl, by omega, hb, rfl, ⟨hm0, hm1, hmy, hmc, hl, hr.1, by rw [← ht]; rw [h0] at hlo; exact hlo⟩, by simp, by simp [Int.emod_one], Only.refl _ _⟩
    rw [h0] at HN
    clear hbt h64 hpos hs hx hlo hhi hr hb ht
    go_enter Tryz.func102, Tryz.ntmps102
    go_wp2_with fail
    refine (HN.out _).mono ?_
    rintro e w' ⟨rfl, hw⟩
    rw [hw]
    clear hw w'
    go_wp2_with fail
    go_ret
    exact HS.out
  · have HSH := Lib.hid (lshVU_any b 0 c b 0 c m s ys (fun i => ys.getD i 0) w hm0 h0 hs64 hb (by omega) hl hx (.inr ⟨rfl, rfl⟩))
    have HR := Lib.hid (And.intro hr (And.intro hlo (And.intro hhi ht)))
    have hen := Tryz.lshVU_enters
    have hi64 : IntKind.i64.wrap (s : Int) = s := by rw [IntKind.wrap_i64]; omega
    have hsp : decide ((0 : Int) < s) = true := by rw [decide_eq_true_eq]; omega
    clear hbt h64 hpos hs hx hlo hhi hr hb ht
    go_enter Tryz.func102, Tryz.ntmps102
    go_wp2_with fail
    refine (HN.out _).mono ?_
    rintro e w' ⟨rfl, hw⟩
    rw [hw]
    clear hw w'
    go_wp2_with fail
    refine HSH.out.mono ?_
    rintro e w2 ⟨rfl, ho2, zs, hz, hzl, _, hz0, hzj⟩
    have HZ := Lib.hid (And.intro hz0 hzj)
    clear hz0 hzj HSH
    generalize ys.getD (m - 1) 0 / 2 ^ (64 - s) = cr
    go_wp2_with fail
    go_ret
    obtain ⟨hr, hlo, hhi, ht⟩ := HR.out
    obtain ⟨hz0, hzj⟩ := HZ.out
    obtain ⟨k, rfl⟩ : ∃ k, m = k + 1 := ⟨m - 1, by omega⟩
    rw [Nat.add_sub_cancel] at ht
    have key := num_shl (fun i => ys.getD i 0) (fun i => zs.getD i 0) s k hs64 hr.1 hz0 (fun j a c => by
      have := hzj j a c
      rw [Nat.zero_add] at this
      exact this)
    rw [← ht, Int.ediv_eq_zero_of_lt ht0.1 hhi, Int.zero_mul, Int.add_zero] at key
    have hwd : Wd (fun i => zs.getD i 0) (k + 1) := by
      intro j hj
      have r : ∀ x : Int, 0 ≤ IntKind.u64.wrap x ∧ IntKind.u64.wrap x < 18446744073709551616 := fun x => by rw [IntKind.wrap_u64]; omega
      show 0 ≤ zs.getD j 0 ∧ zs.getD j 0 < _
      by_cases h0 : j = 0
      · subst h0; rw [hz0]; exact r _
      · have := hzj j (by omega) hj
        rw [Nat.zero_add] at this
        rw [this]; exact r _
    refine ⟨s, zs, rfl, hs64, hz, hzl, ⟨hm0, hm1, by omega, hmc, by omega, hwd, ?_⟩, key, ?_, ho2⟩
    · rw [Nat.add_sub_cancel]
      obtain ⟨n0, n1⟩ := num_range k (f := fun i => zs.getD i 0) fun i hi => hwd i (by omega)
      obtain ⟨y0, y1⟩ := num_range k (f := fun i => ys.getD i 0) fun i hi => hr.1 i (by omega)
      rw [num, num, ← ht] at key
      have hp : (0 : Int) < 2 ^ (64 * k) := Int.pow_pos (by omega)
      have hq : (0 : Int) < 2 ^ s := Int.pow_pos (by omega)
      have e : (2 : Int) ^ (63 - s) * 2 ^ s = 9223372036854775808 := by rw [← Int.pow_add, show 63 - s + s = 63 by omega]; decide
      generalize (2 : Int) ^ (64 * k) = P at *
      generalize (2 : Int) ^ s = S at *
      generalize (2 : Int) ^ (63 - s) = H at *
      generalize zs.getD k 0 = u at *
      generalize num (fun i => zs.getD i 0) k = nz at *
      generalize num (fun i => ys.getD i 0) k = ny at *
      rcases Int.lt_or_le u 9223372036854775808 with h | h
      · have h1 : (u + 1) * P ≤ 9223372036854775808 * P := Int.mul_le_mul_of_nonneg_right (by omega) (Int.le_of_lt hp)
        rw [Int.add_mul, Int.one_mul] at h1
        have h2 : H * P ≤ t * P := Int.mul_le_mul_of_nonneg_right hlo (Int.le_of_lt hp)
        have h3 : (ny + t * P) * S ≥ H * P * S := Int.mul_le_mul_of_nonneg_right (by omega) (Int.le_of_lt hq)
        rw [Int.mul_right_comm, e] at h3
        omega
      · exact h
    · rw [hz0, wrap_shl _ s hs64 (hr.1 0 (by omega)).1]
      exact Int.mul_emod_left _ _
end Go.Proofs.YtgbpglojbgicjaaGreatFmt
namespace Go.Proofs.YtgbpglojbgicjaaGreatFmt
open Go.RowKit Go.Proofs.YtgbpglojbgicjaaGreatFmtW.PrintWords Go.Proofs.YtgbpglojbgicjaaGreatFmtW.PrintLast
theorem after_setm {w1 W : World} {f b : Nat} {zs : List Int} {p a fm e : Int} {n : Bool} (m c : Nat) (hf : W.heap[f]? = some (.cells (fl p a fm n (.slice none 0 0) e) 112 (0, 0))) (hb : Blk W b zs) (ho : Only w1 W (fun _ => False)) :
    ∃ w2, w2 = W.setCell ⟨f, 5, none⟩ (.slice (some ⟨b, 0, none⟩) m c) ∧ w2.heap[f]? = some (.cells (fl p a fm n (.slice (some ⟨b, 0, none⟩) m c) e) 112 (0, 0)) ∧ Blk w2 b zs ∧ Only w1 w2 (fun k => k = f) := by
  have hne : f ≠ b := blk_ne hf hb (by decide)
  refine ⟨_, rfl, by simpa [fl] using blk_set hf 5 (.slice (some ⟨b, 0, none⟩) m c), blk_far hb (p := ⟨f, 5, none⟩) (Ne.symm hne) _, ?_⟩
  exact (ho.mono (T := fun k => k = f) (fun _ _ h => h.elim)).set (p := ⟨f, 5, none⟩) (.inr rfl) (.slice (some ⟨b, 0, none⟩) m c)
def FInt (w : World) (f : Nat) (z : Int) (e : Int) (w' : World) (b : Nat) : Prop := ∃ (c m k : Nat) (ys : List Int), w'.heap[f]? = some (.cells (fl (max k 64 : Nat) 0 1 (decide (z < 0)) (.slice (some ⟨b, 0, none⟩) m c) (k + e)) 112 (0, 0)) ∧ Blk w' b ys ∧ Mant ys m c ∧ Whole ys m (max k 64) ∧ BLen (Int.natAbs z) k ∧ 0 < k ∧ k ≤ 1073741888 ∧ k ≤ 64 * m ∧ 64 * m < k + 64 ∧ num (fun i => ys.getD i 0) m = Int.natAbs z * 2 ^ (64 * m - k) ∧ w.heap.size ≤ b
def GotInt (w : World) (f : Nat) (z : Int) (en : Ending) (w' : World) : Prop := en = .returned (.pointer (some ⟨f, 0, none⟩)) ∧ (∃ b, FInt w f z 0 w' b) ∧ Only w w' (fun k => k = f)
theorem top_len (ys zs : List Int) (m k s : Nat) (x : Int) (hm : 0 < m) (hx : 0 < x) (hk : BLen x k) (hy : num (fun i => ys.getD i 0) m = x) (hw : Wd (fun i => zs.getD i 0) m) (ht : 9223372036854775808 ≤ zs.getD (m - 1) 0) (_ : s < 64) (hn : num (fun i => zs.getD i 0) m = num (fun i => ys.getD i 0) m * 2 ^ s) : k + s = 64 * m := by
  have h : BLen (num (fun i => zs.getD i 0) m) (64 * m) := by
    obtain ⟨j, rfl⟩ : ∃ j, m = j + 1 := ⟨m - 1, by omega⟩
    rw [Nat.add_sub_cancel] at ht
    have := top_bits (fun i => zs.getD i 0) j 64 hw ⟨by have := (hw j (by omega)).2; simpa using this, fun _ => by simpa using ht⟩ (by omega)
    rw [show 64 * (j + 1) = 64 * j + 64 by omega]
    exact this
  have hk0 : 0 < k := by
    rcases Nat.eq_zero_or_pos k with h | h
    · rw [h] at hk
      have := hk.1
      simp at this
      omega
    · exact h
  rw [hn, hy] at h
  have h2 : BLen (x * 2 ^ s) (k + s) := by
    have hp : (0 : Int) < 2 ^ s := Int.pow_pos (by omega)
    refine ⟨?_, fun _ => ?_⟩
    · rw [Int.pow_add]
      exact Int.mul_lt_mul_of_pos_right hk.1 hp
    · rw [show k + s - 1 = k - 1 + s by omega, Int.pow_add]
      exact Int.mul_le_mul_of_nonneg_right (hk.2 hk0) (Int.le_of_lt hp)
  exact h2.unique h
set_option linter.unusedVariables false in
set_option linter.unusedSimpArgs false in
set_option maxRecDepth 100000 in
set_option maxHeartbeats 4000000 in
theorem setInt_any (f gx : Nat) (ox : Option Nat) (z : Int) (w : World) (hf : w.heap[f]? = some (.cells (fl 0 0 0 false (.slice none 0 0) 0) 112 (0, 0))) (hx : IsInt w gx ox z) (hz0 : z ≠ 0) (hfit : Fits (Int.natAbs z)) :
    Calls Tryz.prog 70 #[.pointer (some ⟨f, 0, none⟩), .pointer (some ⟨gx, 0, none⟩)] w (GotInt w f z) := by
  obtain ⟨vx, hgx, hnx⟩ := id hx
  rcases hnx.cases_ with ⟨h0, _⟩ | ⟨hpos, bx, m, xs, rfl, rfl, hbx, hm0, hmx, hxm, hr, hnum⟩
  · exact absurd (natAbs_zero h0) hz0
  have hm2 : m ≤ 16777217 := hr.short (by rw [hnum]; exact hfit)
  have c0 : w.cell? ⟨f, 0, none⟩ = some (.int .u32 0) := blk_cell hf 0
  have c2 : w.cell? ⟨f, 2, none⟩ = some (.int .i8 0) := blk_cell hf 2
  have c4 : w.cell? ⟨f, 4, none⟩ = some (.bool false) := blk_cell hf 4
  have f0 := blk_frozen hf 0
  have f2 := blk_frozen hf 2
  have f4 := blk_frozen hf 4
  have x0 : w.cell? ⟨gx, 0, none⟩ = some (.bool (decide (z < 0))) := blk_cell hgx 0
  have x1 : w.cell? ⟨gx, 1, none⟩ = some (.slice (some ⟨bx, 0, none⟩) m xs.length) := blk_cell hgx 1
  have hfx : f ≠ gx := blk_ne hf hgx (by decide)
  have hfb : f ≠ bx := blk_ne hf hbx (by decide)
  have HF := Lib.hid hf
  have HB := Lib.hid (bitLen_int gx (some bx) z w hx hfit)
  have HX := Lib.hid (And.intro hgx hbx)
  have HR0 := Lib.hid (And.intro hr hnum)
  have hmI : ((m : Int) == 0) = false := by rw [beq_eq_false_iff_ne]; omega
  clear hf hx hgx hnx hbx hr hnum
  go_enter Tryz.func70, Tryz.ntmps70
  go_wp2_with fail
  refine HB.out.mono ?_
  rintro e w' ⟨⟨k, rfl, hk, hk2⟩, hww⟩
  rw [hww]
  clear hww w'
  have hk0 : 0 < k := by
    rcases Nat.eq_zero_or_pos k with h | h
    · rw [h] at hk
      have := hk.1
      simp at this
      omega
    · exact h
  obtain ⟨p, hp⟩ : ∃ p, p = max k 64 := ⟨_, rfl⟩
  have hpk1 : k ≤ p ∧ 64 ≤ p ∧ (p = k ∨ p = 64) := by omega
  have HR := Lib.hid (And.intro HR0.out.1 (And.intro HR0.out.2 (And.intro hpos (And.intro hk hk0))))
  have HP := Lib.hid hp
  have hkw : IntKind.u32.wrap (k : Int) = k := by rw [IntKind.wrap_u32]; omega
  have hmx : max (k : Int) 64 = (p : Int) := by omega
  clear hk hp HR0
  have hf := HF.out
  have hf1 : (((w.setCell ⟨f, 0, none⟩ (.int .u32 p)).setCell ⟨f, 2, none⟩ (.int .i8 0)).setCell ⟨f, 4, none⟩ (.bool (decide (z < 0)))).heap[f]? = some (.cells (fl p 0 0 (decide (z < 0)) (.slice none 0 0) 0) 112 (0, 0)) := by simpa [fl] using blk_set (blk_set (blk_set hf 0 (.int .u32 p)) 2 (.int .i8 0)) 4 (.bool (decide (z < 0)))
  have ho1 : Only w (((w.setCell ⟨f, 0, none⟩ (.int .u32 p)).setCell ⟨f, 2, none⟩ (.int .i8 0)).setCell ⟨f, 4, none⟩ (.bool (decide (z < 0)))) (fun k => k = f) := (((Only.refl w (fun k => k = f)).set (p := ⟨f, 0, none⟩) (.inr rfl) (.int .u32 p)).set (p := ⟨f, 2, none⟩) (.inr rfl) (.int .i8 0)).set (p := ⟨f, 4, none⟩) (.inr rfl) (.bool (decide (z < 0)))
  have HF1 := Lib.hid (And.intro hf1 ho1)
  clear hf1 ho1 hf HF
  go_wp2_with fail
  obtain ⟨hf1, ho1⟩ := HF1.out
  obtain ⟨hgx, hbx⟩ := HX.out
  have hgx1 := (ho1.kept _ (blk_lt hgx) (Ne.symm hfx)).trans hgx
  have hbx1 := ho1.blk hbx (Ne.symm hfb)
  clear HF1 HX HB hgx hbx c0 c2 c4 f0 f2 f4 x0 x1
  generalize ((w.setCell ⟨f, 0, none⟩ (.int .u32 p)).setCell ⟨f, 2, none⟩ (.int .i8 0)).setCell ⟨f, 4, none⟩ (.bool (decide (z < 0))) = w1 at *
  have HK : Hid (∀ W, Only w1 W (fun _ => False) → W.cell? ⟨f, 5, none⟩ = some (.slice none 0 0) ∧ W.cell? ⟨gx, 1, none⟩ = some (.slice (some ⟨bx, 0, none⟩) m xs.length)) := Lib.hid (fun W hW => by
    have a := (hW.kept _ (blk_lt hf1) (fun h => h)).trans hf1
    have b := (hW.kept _ (blk_lt hgx1) (fun h => h)).trans hgx1
    exact ⟨blk_cell a 5, blk_cell b 1⟩)
  have hfd := blk_drew hf1
  have hxd : Blk w1.drew bx xs := hbx1
  have HO1 := Lib.hid ho1
  clear hf1 hbx1 hgx1 ho1 hmx
  refine start_ (S := (fun W => Only w1 W (fun _ => False))) (ds := [12]) #[false, false, false, false, false, false, false, false, false, false, false, false, false] (by kernel_rfl) rfl rfl ?_ (fun hHeld => ?_)
  · exact (Only.refl w1 _).drew
  generalize w1.drew = W1 at *
  refine pure_ (i := 0) (oi := ?o0) (v := ?v0) #[true, false, false, false, false, false, false, false, false, false, false, false, false] ?h0 rfl (by kernel_rfl) ?q0 (Or.inl ⟨?w0, ?y0⟩) rfl ?r0
  case h0 => (simp only [List.getElem?_toArray, List.getElem?_cons_succ, List.getElem?_cons_zero]; rfl)
  case q0 => exact fun _ _ _ h => h
  case w0 => rfl
  case y0 => (intro W; go_simp; first | done | with_reducible rfl)
  simp only [Act.put, List.setIfInBounds_toArray, List.set_cons_zero, List.set_cons_succ]
  refine pure_ (i := 1) (oi := ?o1) (v := ?v1) #[true, true, false, false, false, false, false, false, false, false, false, false, false] ?h1 rfl (by kernel_rfl) ?q1 (Or.inl ⟨?w1, ?y1⟩) rfl ?r1
  case h1 => (simp only [List.getElem?_toArray, List.getElem?_cons_succ, List.getElem?_cons_zero]; rfl)
  case q1 => exact fun _ _ _ h => h
  case w1 => rfl
  case y1 => (intro W; go_simp; first | done | with_reducible rfl)
  simp only [Act.put, List.setIfInBounds_toArray, List.set_cons_zero, List.set_cons_succ]
  refine pure_ (i := 2) (oi := ?o2) (v := ?v2) #[true, true, true, false, false, false, false, false, false, false, false, false, false] ?h2 rfl (by kernel_rfl) ?q2 (Or.inl ⟨?w2, ?y2⟩) rfl ?r2
  case h2 => (simp only [List.getElem?_toArray, List.getElem?_cons_succ, List.getElem?_cons_zero]; rfl)
  case q2 => exact fun _ _ _ h => h
  case w2 => rfl
  case y2 => (intro W; go_simp; first | done | with_reducible rfl)
  simp only [Act.put, List.setIfInBounds_toArray, List.set_cons_zero, List.set_cons_succ]
  refine pure_ (i := 3) (oi := ?o3) (v := ?v3) #[true, true, true, true, false, false, false, false, false, false, false, false, false] ?h3 rfl (by kernel_rfl) ?q3 (Or.inl ⟨?w3, ?y3⟩) rfl ?r3
  case h3 => (simp only [List.getElem?_toArray, List.getElem?_cons_succ, List.getElem?_cons_zero]; rfl)
  case q3 => exact fun _ _ _ h => h
  case w3 => rfl
  case y3 => (intro W; go_simp; first | done | with_reducible rfl)
  simp only [Act.put, List.setIfInBounds_toArray, List.set_cons_zero, List.set_cons_succ]
  refine pure_ (i := 5) (oi := ?o4) (v := ?v4) #[true, true, true, true, false, true, false, false, false, false, false, false, false] ?h4 rfl (by kernel_rfl) ?q4 (Or.inl ⟨?w4, ?y4⟩) rfl ?r4
  case h4 => (simp only [List.getElem?_toArray, List.getElem?_cons_succ, List.getElem?_cons_zero]; rfl)
  case q4 => exact fun _ _ _ h => h
  case w4 => rfl
  case y4 => (intro W; go_simp; first | done | with_reducible rfl)
  simp only [Act.put, List.setIfInBounds_toArray, List.set_cons_zero, List.set_cons_succ]
  refine pure_ (i := 6) (oi := ?o5) (v := ?v5) #[true, true, true, true, false, true, true, false, false, false, false, false, false] ?h5 rfl (by kernel_rfl) ?q5 (Or.inl ⟨?w5, ?y5⟩) rfl ?r5
  case h5 => (simp only [List.getElem?_toArray, List.getElem?_cons_succ, List.getElem?_cons_zero]; rfl)
  case q5 => exact fun _ _ _ h => h
  case w5 => rfl
  case y5 => (intro W; go_simp; first | done | with_reducible rfl)
  simp only [Act.put, List.setIfInBounds_toArray, List.set_cons_zero, List.set_cons_succ]
  refine pure_ (i := 7) (oi := ?o6) (v := ?v6) #[true, true, true, true, false, true, true, true, false, false, false, false, false] ?h6 rfl (by kernel_rfl) ?q6 (Or.inl ⟨?w6, ?y6⟩) rfl ?r6
  case h6 => (simp only [List.getElem?_toArray, List.getElem?_cons_succ, List.getElem?_cons_zero]; rfl)
  case q6 => exact fun _ _ _ h => h
  case w6 => rfl
  case y6 => (intro W; go_simp; first | done | with_reducible rfl)
  simp only [Act.put, List.setIfInBounds_toArray, List.set_cons_zero, List.set_cons_succ]
  refine wpAnyLast_take (i := 4) (oi := ?o7) (v := ?v7) ?h7 (by kernel_rfl) (by kernel_rfl) (by kernel_rfl) (by kernel_rfl) (by kernel_rfl) ?q7 (Or.inl ⟨?w7, ?y7⟩) hHeld ?r7
  case h7 => (simp only [List.getElem?_toArray, List.getElem?_cons_succ, List.getElem?_cons_zero]; rfl)
  case q7 => exact fun _ _ _ h => h
  case w7 => rfl
  case y7 => (intro W hSw; obtain ⟨q5, q6⟩ := HK.out _ hSw; go_simp; first | done | with_reducible rfl)
  simp only [Act.put, List.setIfInBounds_toArray, List.set_cons_zero, List.set_cons_succ]
  refine wpAnyLast_take (i := 8) (oi := ?o8) (v := ?v8) ?h8 (by kernel_rfl) (by kernel_rfl) (by kernel_rfl) (by kernel_rfl) (by kernel_rfl) ?q8 (Or.inl ⟨?w8, ?y8⟩) hHeld ?r8
  case h8 => (simp only [List.getElem?_toArray, List.getElem?_cons_succ, List.getElem?_cons_zero]; rfl)
  case q8 => exact fun _ _ _ h => h
  case w8 => rfl
  case y8 => (intro W hSw; obtain ⟨q5, q6⟩ := HK.out _ hSw; go_simp; first | done | with_reducible rfl)
  simp only [Act.put, List.setIfInBounds_toArray, List.set_cons_zero, List.set_cons_succ]
  refine wpAnyLast_ready (rs := [9]) (by kernel_rfl) (by simp) ?_
  refine AllReadyL.cons (o := ?o9) ?h9 (by simp) (fun K hK => ?s9) ?m9
  case h9 => (simp only [List.getElem?_toArray, List.getElem?_cons_succ, List.getElem?_cons_zero]; rfl)
  case m9 => exact AllReadyL.nil
  go_simp
  go_at_call 82
  refine (set_any (.slice none 0 0) none bx m xs.length xs W1 .nil hxd hm0 hmx (by unfold most; omega)).mono ?_
  rintro en W2 ⟨b, zs, rfl, hz, hzl, hzm, ho, hob, hzi⟩
  replace ho : Only W1 W2 (fun _ => False) := ho.mono (fun _ _ h => by cases h)
  replace hob : W1.heap.size ≤ b := by rcases hob with h | h; (cases h); (exact h)
  have hfN := (ho.kept _ (blk_lt hfd) (fun h => h)).trans hfd
  have hsz := hHeld.base.size
  refine hK.out _ _ (hHeld.trans ho) (fun hHeldN => ?_)
  clear hK K hHeld
  have hHeld := hHeldN
  clear hHeldN
  simp only [Act.put, List.setIfInBounds_toArray, List.set_cons_zero, List.set_cons_succ]
  refine pure_ (i := 10) (oi := ?o10) (v := ?v10) #[true, true, true, true, true, true, true, true, true, true, true, false, false] ?h10 rfl (by kernel_rfl) ?q10 (Or.inl ⟨?w10, ?y10⟩) rfl ?r10
  case h10 => (simp only [List.getElem?_toArray, List.getElem?_cons_succ, List.getElem?_cons_zero]; rfl)
  case q10 => exact fun _ _ _ h => h
  case w10 => rfl
  case y10 => (intro W; go_simp; first | done | with_reducible rfl)
  simp only [Act.put, List.setIfInBounds_toArray, List.set_cons_zero, List.set_cons_succ]
  refine pure_ (i := 11) (oi := ?o11) (v := ?v11) #[true, true, true, true, true, true, true, true, true, true, true, true, false] ?h11 rfl (by kernel_rfl) ?q11 (Or.inl ⟨?w11, ?y11⟩) rfl ?r11
  case h11 => (simp only [List.getElem?_toArray, List.getElem?_cons_succ, List.getElem?_cons_zero]; rfl)
  case q11 => exact fun _ _ _ h => h
  case w11 => rfl
  case y11 => (intro W; go_simp; first | done | with_reducible rfl)
  simp only [Act.put, List.setIfInBounds_toArray, List.set_cons_zero, List.set_cons_succ]
  refine wpAnyLast_ready (rs := [12]) (by kernel_rfl) (by simp) ?_
  refine AllReadyL.cons_last (o := ?o12) ?h12 (by simp) (fun K hK => ?s12) ?m12
  case h12 => (simp only [List.getElem?_toArray, List.getElem?_cons_succ, List.getElem?_cons_zero]; rfl)
  case m12 => exact AllReadyL.nil
  have r5 : W2.cell? ⟨f, 5, none⟩ = some (.slice none 0 0) := blk_cell hfN 5
  have fr5 := blk_frozen hfN 5
  go_simp
  refine hK.out _ _ ?_
  clear hK K r5 fr5
  simp only [Act.put, List.setIfInBounds_toArray, List.set_cons_zero, List.set_cons_succ]
  refine done_ (by kernel_rfl) ?_
  obtain ⟨w2, hw2, hf2, hb2, ho2⟩ := after_setm (f := f) m zs.length hfN hz hHeld
  rw [← hw2]
  have hbz : w1.heap.size ≤ b := Nat.le_trans hsz hob
  have HO2 := Lib.hid ho2
  clear hw2 hHeld hfN hz hfd hxd ho hob hsz HK
  have hre : Nrm zs m := ⟨fun i hi => by show 0 ≤ zs.getD i 0 ∧ zs.getD i 0 < _; rw [hzi i hi]; exact HR.out.1.1 i hi, fun _ => by rw [hzi (m - 1) (by omega)]; exact HR.out.1.2 hm0⟩
  have c5 : w2.cell? ⟨f, 5, none⟩ = some (.slice (some ⟨b, 0, none⟩) m zs.length) := blk_cell hf2 5
  have hzt : zs.length < 1099511627776 := Nat.lt_of_le_of_lt hzm (by decide)
  have hne : f ≠ b := blk_ne hf2 hb2 (by decide)
  have hnz : num (fun i => zs.getD i 0) m = Int.natAbs z := (num_congr m fun i hi => hzi i hi).trans HR.out.2.1
  have HNZ := Lib.hid hnz
  have HRE := Lib.hid hre
  clear hzi hnz hre
  go_wp2_with fail
  refine (fnorm_any b zs.length m zs w2 hb2 hm0 (by omega) hzl hzl hzt HRE.out).mono ?_
  rintro en w3 ⟨s, ys, rfl, hs64, hb3, hyl, hmant, hnum, hlow, ho3⟩
  have hf3 := (ho3.kept _ (blk_lt hf2) hne).trans hf2
  have hks := top_len zs ys m k s _ hm0 HR.out.2.2.1 HR.out.2.2.2.1 HNZ.out hmant.2.2.2.2.2.1 hmant.2.2.2.2.2.2 hs64 hnum
  rw [HNZ.out] at hnum
  have hwh : Whole ys m p := by
    rcases Nat.eq_zero_or_pos s with h | h
    · exact .inl (by omega)
    · by_cases h2 : k ≤ 64
      · exact .inl (by omega)
      · exact .inr ⟨s, h, hs64, by omega, hlow⟩
  have HM := Lib.hid (And.intro hmant (And.intro hwh (And.intro hnum hks)))
  clear hf2 hb2 c5 hmant hwh hnum hks hlow ho2
  go_wp2_with fail
  refine (setExp_whole f b zs.length m p ys 0 0 0 k (decide (z < 0)) w3 hf3 hb3 HM.out.1 HM.out.2.1 (by omega) (by omega)).mono ?_
  rintro en w4 ⟨rfl, hf4, hb4, ho4⟩
  go_wp2_with fail
  go_ret
  have ho13 : Only w1 w4 (fun k => k = f) := (HO2.out.step ho3 (fun i hi h => by subst h; exact absurd hi (Nat.not_lt.2 hbz))).step ho4 (fun i hi h => by rcases h with h | h; (exact h); (subst h; exact absurd hi (Nat.not_lt.2 hbz)))
  obtain ⟨hmant, hwh, hnum, hks⟩ := HM.out
  have hpk := HP.out
  subst hpk
  refine ⟨rfl, ⟨b, zs.length, m, k, ys, by rw [Int.add_zero]; exact hf4, hb4, hmant, hwh, HR.out.2.2.2.1, by omega, hk2, by omega, by omega, ?_, Nat.le_trans HO1.out.base.size hbz⟩, HO1.out.trans ho13⟩
  rw [show 64 * m - k = s by omega]
  exact hnum
end Go.Proofs.YtgbpglojbgicjaaGreatFmt
namespace Go.Proofs.YtgbpglojbgicjaaGreatFmt
open Go.RowKit Go.Proofs.YtgbpglojbgicjaaGreatFmtW.PrintWords
theorem word_same (b : Nat) (w : World) :
    (binOp .neq 146 (.pointer (some ⟨b, 0, none⟩)) (.pointer (some ⟨b, 0, none⟩))).run Tryz.prog w = .ok (.bool false) w := by
  have h : (Tryz.prog.info? 78).map (fun i => i.size) = some 1 := by kernel_rfl
  obtain ⟨j, hj, _⟩ := Option.map_eq_some_iff.1 h
  exact Lib.run_neq_ptr_same w _ Tryz.underlying146 hj
set_option maxRecDepth 100000 in
set_option maxHeartbeats 4000000 in
theorem addVW_lo (b c : Nat) (ys : List Int) (x y : Int) (w : World) (hb : Blk w b ys) (hn : 1 ≤ ys.length) (hx : ys.getD 0 0 = x) (hx0 : 0 ≤ x) (hy0 : 0 ≤ y) (hs : x + y < 18446744073709551616) :
    Calls Tryz.prog 92 #[.slice (some ⟨b, 0, none⟩) 1 c, .slice (some ⟨b, 0, none⟩) 1 c, .int .u64 y] w fun e w' => e = .returned (.int .u64 0) ∧ Blk w' b (ys.set 0 (x + y)) ∧ Only w w' (· = b) := by
  have h0 : w.cell? ⟨b, 0, none⟩ = some (.int .u64 x) := by rw [hb.cell 0 (by omega), hx]
  have f0 := blk_frozen hb 0
  have hp := word_same b
  have e1 : (x + y + 0) % 18446744073709551616 = x + y := by omega
  have e2 : (x + y + 0) / 18446744073709551616 = 0 := by omega
  have HA := Lib.hid (fun w => add_any x y 0 w hx0 hy0 (by decide) (by decide))
  rw [e1, e2] at HA
  have HB := Lib.hid (And.intro (hb.set 0 (x + y)) ((Only.refl w (· = b)).set (p := ⟨b, 0, none⟩) (.inr rfl) (.int .u64 (x + y))))
  clear hb e1 e2
  go_enter Tryz.func92, Tryz.ntmps92
  go_wp2_with fail
  refine (HA.out _).mono ?_
  rintro e w' ⟨rfl, hw⟩
  rw [hw]
  clear hw w'
  go_wp2_with fail
  go_quiet (fail)
  go_wp2_with fail
  go_ret
  exact ⟨rfl, HB.out.1, HB.out.2.drewN _⟩
set_option maxRecDepth 100000 in
set_option maxHeartbeats 4000000 in
theorem addVW_hi (b c : Nat) (ys : List Int) (x y : Int) (w : World) (hb : Blk w b ys) (hn : 1 ≤ ys.length) (hx : ys.getD 0 0 = x) (hx0 : 0 ≤ x) (hx1 : x < 18446744073709551616) (hy0 : 0 ≤ y) (hy1 : y < 18446744073709551616) (hs : 18446744073709551616 ≤ x + y) :
    Calls Tryz.prog 92 #[.slice (some ⟨b, 0, none⟩) 1 c, .slice (some ⟨b, 0, none⟩) 1 c, .int .u64 y] w fun e w' => e = .returned (.int .u64 1) ∧ Blk w' b (ys.set 0 (x + y - 18446744073709551616)) ∧ Only w w' (· = b) := by
  have h0 : w.cell? ⟨b, 0, none⟩ = some (.int .u64 x) := by rw [hb.cell 0 (by omega), hx]
  have f0 := blk_frozen hb 0
  have e1 : (x + y + 0) % 18446744073709551616 = x + y - 18446744073709551616 := by omega
  have e2 : (x + y + 0) / 18446744073709551616 = 1 := by omega
  have HA := Lib.hid (fun w => add_any x y 0 w hx0 hy0 (by decide) (by decide))
  rw [e1, e2] at HA
  have HB := Lib.hid (And.intro (hb.set 0 (x + y - 18446744073709551616)) ((Only.refl w (· = b)).set (p := ⟨b, 0, none⟩) (.inr rfl) (.int .u64 (x + y - 18446744073709551616))))
  clear hb e1 e2
  go_enter Tryz.func92, Tryz.ntmps92
  go_wp2_with fail
  refine (HA.out _).mono ?_
  rintro e w' ⟨rfl, hw⟩
  rw [hw]
  clear hw w'
  go_wp2_with fail
  refine wp_loop_rounds 1 ?_
  rw [rounds_succ]
  go_wp2_with fail
  go_ret
  exact ⟨rfl, HB.out.1, HB.out.2⟩
set_option maxRecDepth 100000 in
set_option maxHeartbeats 4000000 in
theorem rshVU_one (b c : Nat) (ys : List Int) (x : Int) (w : World) (hb : Blk w b ys) (hn : 1 ≤ ys.length) (hl : ys.length < 1099511627776) (hx : ys.getD 0 0 = x) :
    Calls Tryz.prog 36 #[.slice (some ⟨b, 0, none⟩) 1 c, .slice (some ⟨b, 0, none⟩) 1 c, .int .u64 1] w fun e w' => (∃ r, e = .returned (.int .u64 r)) ∧ Only w w' (· = b) ∧ ∃ zs, Blk w' b zs ∧ zs.length = ys.length ∧ zs.getD 0 0 = x / 2 := by
  refine (rshVU_any b 0 c b 0 c 1 1 ys (fun i => ys.getD i 0) w (by omega) (by omega) (by omega) hb (by omega) hl (fun i hi => by rw [Nat.zero_add]; exact hb.cell i (by omega)) (.inr ⟨rfl, by omega, by omega⟩)).mono ?_
  rintro e w' ⟨he, ho, zs, hz, hzl, _, h0, _⟩
  refine ⟨⟨_, he⟩, ho, zs, hz, hzl, ?_⟩
  rw [Nat.zero_add] at h0
  rw [h0]
  show ys.getD 0 0 / 2 ^ 1 = _
  rw [hx]; rfl
end Go.Proofs.YtgbpglojbgicjaaGreatFmt
namespace Go.Proofs.YtgbpglojbgicjaaGreatFmt
open Go.RowKit Go.Proofs.YtgbpglojbgicjaaGreatFmtW.PrintWords
theorem after_copy1 {W : World} {f b : Nat} {ys : List Int} {cs : Array Value} (T : Int) (hf : W.heap[f]? = some (.cells cs 112 (0, 0))) (hb : Blk W b ys) (hne : f ≠ b) (hl : 1 ≤ ys.length) :
    ∃ w2 zs, w2 = W.setRow b (words (splice ys 0 [T])) ∧ w2.heap[f]? = some (.cells cs 112 (0, 0)) ∧ Blk w2 b zs ∧ zs.length = ys.length ∧ zs.getD 0 0 = T ∧ Only W w2 (fun k => k = b) := by
  refine ⟨_, splice ys 0 [T], rfl, (setRow_other W b f _ hne).trans hf, hb.row _, length_splice _ _ _ (by simp; omega), ?_, (Only.refl W (fun k => k = b)).row (.inr rfl) _⟩
  rw [splice_at _ _ _ _ (by simp; omega)]
  rfl
def OneWord (w : World) (f b : Nat) (p T e : Int) (n : Bool) (c l : Nat) (w' : World) : Prop := ∃ zs, w'.heap[f]? = some (.cells (fl p 0 1 n (.slice (some ⟨b, 0, none⟩) 1 c) e) 112 (0, 0)) ∧ Blk w' b zs ∧ zs.length = l ∧ zs.getD 0 0 = T ∧ Only w w' (fun k => k = f ∨ k = b)
def acci (b : Bool) : Int := if b then 1 else -1
def Inc (rb sb q : Int) : Bool := rb == 1 && (sb == 1 || q % 2 == 1)
def Rounded (w : World) (f b : Nat) (p k : Nat) (T e rb sb : Int) (n : Bool) (c l : Nat) (en : Ending) (w' : World) : Prop := en = .returned (.tuple #[]) ∧ ∃ a x e' zs, w'.heap[f]? = some (.cells (fl p a 1 n (.slice (some ⟨b, 0, none⟩) 1 c) e') 112 (0, 0)) ∧ Blk w' b zs ∧ zs.length = l ∧ zs.getD 0 0 = x ∧ Only w w' (fun k => k = f ∨ k = b) ∧
  a = (if rb = 0 ∧ sb = 0 then 0 else if Inc rb sb (T / 2 ^ k) = n then -1 else 1) ∧
  ((Inc rb sb (T / 2 ^ k) = false ∧ x = T / 2 ^ k * 2 ^ k ∧ e' = e) ∨ (Inc rb sb (T / 2 ^ k) = true ∧ T / 2 ^ k + 1 < 2 ^ p ∧ x = (T / 2 ^ k + 1) * 2 ^ k ∧ e' = e) ∨ (Inc rb sb (T / 2 ^ k) = true ∧ T / 2 ^ k + 1 = 2 ^ p ∧ x = 9223372036854775808 ∧ e' = e + 1))
theorem OneWord.store {w w3 : World} {f b : Nat} {p T e : Int} {n : Bool} {c l : Nat} (h : OneWord w f b p T e n c l w3) (hl : 1 ≤ l) (a x : Int) : ∃ zs, ((w3.setCell ⟨f, 2, none⟩ (.int .i8 a)).setCell ⟨b, 0, none⟩ (.int .u64 x)).heap[f]? = some (.cells (fl p a 1 n (.slice (some ⟨b, 0, none⟩) 1 c) e) 112 (0, 0)) ∧ Blk ((w3.setCell ⟨f, 2, none⟩ (.int .i8 a)).setCell ⟨b, 0, none⟩ (.int .u64 x)) b zs ∧ zs.length = l ∧ zs.getD 0 0 = x ∧ Only w ((w3.setCell ⟨f, 2, none⟩ (.int .i8 a)).setCell ⟨b, 0, none⟩ (.int .u64 x)) (fun k => k = f ∨ k = b) := by
  obtain ⟨zs, hf, hb, hzl, hz0, ho⟩ := h
  have hne : f ≠ b := blk_ne hf hb (by decide)
  refine ⟨zs.set 0 x, ?_, (show Blk (w3.setCell ⟨f, 2, none⟩ (.int .i8 a)) b zs from blk_far hb (p := ⟨f, 2, none⟩) (Ne.symm hne) _).set 0 x, by simpa using hzl, ?_, ?_⟩
  · simpa [fl] using blk_far (blk_set hf 2 (.int .i8 a)) (p := ⟨b, 0, none⟩) hne (.int .u64 x)
  · simp [List.getD, show 0 < zs.length by omega]
  · exact ho.trans (((Only.refl w3 (fun k => k = f ∨ k = b)).set (p := ⟨f, 2, none⟩) (.inr (.inl rfl)) (.int .i8 a)).set (p := ⟨b, 0, none⟩) (.inr (.inr rfl)) (.int .u64 x))
theorem top_split (T : Int) (p k : Nat) (hpk : p + k = 64) (h0 : 0 ≤ T) (h1 : T < 18446744073709551616) : T / 2 ^ k < 2 ^ p ∧ (T / 2 ^ k + 1 < 2 ^ p → T + 2 ^ k < 18446744073709551616) ∧ (T / 2 ^ k + 1 = 2 ^ p → 18446744073709551616 ≤ T + 2 ^ k ∧ T + 2 ^ k - 18446744073709551616 < 2 ^ k) := by
  have e : (2 : Int) ^ p * 2 ^ k = 18446744073709551616 := by rw [← Int.pow_add, hpk]; decide
  have hk : (0 : Int) < 2 ^ k := Int.pow_pos (by omega)
  have hT := Int.mul_ediv_add_emod T (2 ^ k)
  have r0 := Int.emod_nonneg T (Int.ne_of_gt hk)
  have r1 := Int.emod_lt_of_pos T hk
  generalize (2 : Int) ^ k = L at *
  generalize (2 : Int) ^ p = P at *
  generalize T % L = r at *
  generalize T / L = q at *
  rw [Int.mul_comm] at hT
  refine ⟨?_, fun h => ?_, fun h => ?_⟩
  · rcases Int.lt_or_le q P with h | h
    · exact h
    · have := Int.mul_le_mul_of_nonneg_right h (Int.le_of_lt hk)
      omega
  · have := Int.mul_le_mul_of_nonneg_right (show q + 2 ≤ P by omega) (Int.le_of_lt hk)
    rw [Int.add_mul] at this
    omega
  · have : (q + 1) * L = P * L := by rw [h]
    rw [Int.add_mul, Int.one_mul] at this
    omega
theorem word_up (T : Int) (k : Nat) : (T + 2 ^ k) / 2 ^ k * 2 ^ k = (T / 2 ^ k + 1) * 2 ^ k := by
  have hk : (2 : Int) ^ k ≠ 0 := Int.ne_of_gt (Int.pow_pos (by omega))
  rw [show T + 2 ^ k = T + 1 * 2 ^ k by omega, Int.add_mul_ediv_right _ _ hk]
theorem word_over (r : Int) (k : Nat) (hk : k < 64) (h0 : 0 ≤ r) (h1 : r < 2 ^ k) : (r / 2 + 9223372036854775808) / 2 ^ k * 2 ^ k = 9223372036854775808 := by
  have hp : (0 : Int) < 2 ^ k := Int.pow_pos (by omega)
  have e : (9223372036854775808 : Int) = 2 ^ (63 - k) * 2 ^ k := by rw [← Int.pow_add, show 63 - k + k = 63 by omega]; decide
  conv => lhs; rw [e]
  rw [Int.add_mul_ediv_right _ _ (Int.ne_of_gt hp), Int.ediv_eq_zero_of_lt (by omega) (by omega), Int.zero_add]
  exact e.symm
set_option linter.unusedVariables false in
set_option linter.unusedSimpArgs false in
set_option maxRecDepth 100000 in
set_option maxHeartbeats 8000000 in
theorem round_one (f b c p k : Nat) (ys : List Int) (a e T rb sb : Int) (n : Bool) (w : World) (hf : w.heap[f]? = some (.cells (fl p a 1 n (.slice (some ⟨b, 0, none⟩) 1 c) e) 112 (0, 0))) (hb : Blk w b ys) (hn : 1 ≤ ys.length) (hjc : 1 ≤ c) (hl : ys.length < 1099511627776) (hw : Wd (fun i => ys.getD i 0) 1) (hk : k = 64 - p) (hp0 : 0 < p) (hp1 : p < 64) (hT : ys.getD 0 0 = T) (hT0 : 9223372036854775808 ≤ T)
    (hrb : T / 2 ^ (k - 1) % 2 = rb) (hst : (Stk (fun i => ys.getD i 0) 0 (k - 1) ∧ sb = 0) ∨ (¬ Stk (fun i => ys.getD i 0) 0 (k - 1) ∧ sb = 1)) (he : e < 2147483647) (he0 : -2147483648 ≤ e) :
    Calls Tryz.prog 131 #[.pointer (some ⟨f, 0, none⟩), .int .u64 0] w (Rounded w f b p k T e rb sb n c ys.length) := by
  have hT1 : T < 18446744073709551616 := by rw [← hT]; exact (hw 0 (by omega)).2
  have c0 : w.cell? ⟨f, 0, none⟩ = some (.int .u32 p) := blk_cell hf 0
  have c1 : w.cell? ⟨f, 1, none⟩ = some (.int .u8 0) := blk_cell hf 1
  have c2 : w.cell? ⟨f, 2, none⟩ = some (.int .i8 a) := blk_cell hf 2
  have c3 : w.cell? ⟨f, 3, none⟩ = some (.int .u8 1) := blk_cell hf 3
  have c5 : w.cell? ⟨f, 5, none⟩ = some (.slice (some ⟨b, 0, none⟩) 1 c) := blk_cell hf 5
  have f2 := blk_frozen hf 2
  have hne : f ≠ b := blk_ne hf hb (by decide)
  have hb1 : Blk (w.setCell ⟨f, 2, none⟩ (.int .i8 0)) b ys := blk_far hb (p := ⟨f, 2, none⟩) (Ne.symm hne) _
  have hf1 : (w.setCell ⟨f, 2, none⟩ (.int .i8 0)).heap[f]? = some (.cells (fl p 0 1 n (.slice (some ⟨b, 0, none⟩) 1 c) e) 112 (0, 0)) := by simpa [fl] using blk_set hf 2 (.int .i8 0)
  have ho1 : Only w (w.setCell ⟨f, 2, none⟩ (.int .i8 0)) (fun k => k = f ∨ k = b) := (Only.refl w (fun k => k = f ∨ k = b)).set (p := ⟨f, 2, none⟩) (.inr (.inl rfl)) _
  have m3 : 64 - (p : Int) - 1 = ((k - 1 : Nat) : Int) := by omega
  have m4 : IntKind.u32.wrap (64 - (p : Int)) = 64 - (p : Int) := by rw [IntKind.wrap_u32]; omega
  have m5 : IntKind.u32.wrap (((k - 1 : Nat) : Int)) = ((k - 1 : Nat) : Int) := by rw [IntKind.wrap_u32]; omega
  have m6 : decide ((64 : Int) ≤ p) = false := by rw [decide_eq_false_iff_not]; omega
  have m7 : IntKind.u32.wrap ((p : Int) + 63) = (p : Int) + 63 := by rw [IntKind.wrap_u32]; omega
  have m8 : ((p : Int) + 63) / 64 = 1 := by omega
  have m11 : IntKind.u32.wrap (64 - (p : Int)) = 64 - (p : Int) := by rw [IntKind.wrap_u32]; omega
  have hrb2 : rb = 0 ∨ rb = 1 := by rw [← hrb]; omega
  have hsb2 : sb = 0 ∨ sb = 1 := by rcases hst with h | h <;> omega
  have d1 : bits .and .u64 rb 1 = rb := by rcases hrb2 with h | h <;> (rw [h]; decide +kernel)
  have d2 : bits .and .u64 sb 1 = sb := by rcases hsb2 with h | h <;> (rw [h]; decide +kernel)
  have HBIT : Hid (∀ W, Blk W b ys → Calls Tryz.prog 151 #[.slice (some ⟨b, 0, none⟩) 1 c, .int .u64 ((k - 1 : Nat) : Int)] W fun e w' => e = .returned (.int .u64 rb) ∧ w' = W) := Lib.hid (fun W hb' => (show Calls Tryz.prog 151 #[.slice (some ⟨b, 0, none⟩) 1 c, .int .u64 ((k - 1 : Nat) : Int)] W _ from by have h := bit_at b 1 c 0 (k - 1) ys W hb' hn (by omega) (by omega) (by omega) hw; rw [Nat.mul_zero, Nat.zero_add] at h; exact h).mono (by rintro e w' ⟨h1, h2⟩; rw [hT, hrb] at h1; exact ⟨h1, h2⟩))
  have HST : Hid (∀ W, Blk W b ys → Calls Tryz.prog 106 #[.slice (some ⟨b, 0, none⟩) 1 c, .int .u64 ((k - 1 : Nat) : Int)] W fun e w' => e = .returned (.int .u64 sb) ∧ w' = W) := Lib.hid (fun W hb' => (show Calls Tryz.prog 106 #[.slice (some ⟨b, 0, none⟩) 1 c, .int .u64 ((k - 1 : Nat) : Int)] W _ from by have h := sticky_at b 1 c 0 (k - 1) ys W hb' hn (by omega) hjc (by omega) (by omega) hw; rw [Nat.mul_zero, Nat.zero_add] at h; exact h).mono (by
    rintro e w' ⟨h1, h2⟩
    refine ⟨?_, h2⟩
    rcases h1 with h | h <;> rcases hst with g | g
    · rw [h.2, g.2]
    · exact absurd h.1 g.1
    · exact absurd g.1 h.1
    · rw [h.2, g.2]))
  have HB := Lib.hid (And.intro hb1 (And.intro hf1 ho1))
  have HT := Lib.hid hT
  have HRS := Lib.hid (And.intro hrb2 hsb2)
  generalize ((k - 1 : Nat) : Int) = R at *
  clear hf hb hb1 hf1 ho1 hst hrb hw hT hrb2 hsb2
  go_enter Tryz.func131, Tryz.ntmps131
  go_wp2_with fail
  refine (HBIT.out _ HB.out.1).mono ?_
  rintro en w' ⟨rfl, hw'⟩
  rw [hw']
  clear hw' w' HBIT
  obtain ⟨hb1, hf1, ho1⟩ := HB.out
  clear c0 c1 c2 c3 c5 f2 HB
  generalize w.setCell ⟨f, 2, none⟩ (.int .i8 0) = w1 at *
  have c0 : w1.cell? ⟨f, 0, none⟩ = some (.int .u32 p) := blk_cell hf1 0
  have c1 : w1.cell? ⟨f, 1, none⟩ = some (.int .u8 0) := blk_cell hf1 1
  have c5 : w1.cell? ⟨f, 5, none⟩ = some (.slice (some ⟨b, 0, none⟩) 1 c) := blk_cell hf1 5
  go_upto_region 8 with (fail)
  go_cut [63] (fun s wx => s = .bool true ∧ w1 = wx)
  case first =>
    by_cases h : rb = 0
    · have h0 : (rb == 0) = true := by rw [h]; rfl
      clear h
      go_wp2_with fail
      go_meet
      exact ⟨rfl, rfl⟩
    · have h0 : (rb == 0) = false := by rw [beq_eq_false_iff_ne]; exact h
      clear h
      go_wp2_with fail
      go_meet
      exact ⟨rfl, rfl⟩
  case rest =>
  obtain ⟨rfl, rfl⟩ := hcut
  go_wp2_with fail
  refine (HST.out _ hb1).mono ?_
  rintro en w' ⟨rfl, hw'⟩
  rw [hw']
  clear hw' w' HST
  go_upto_region 15 with (fail)
  simp only [m8]
  have hoA : OneWord w f b p T e n c ys.length w1 := ⟨ys, hf1, hb1, rfl, HT.out, ho1⟩
  clear hf1 hb1 ho1 c0 c1 c5
  obtain ⟨wc, hwc⟩ : ∃ wc, wc = w1 := ⟨_, rfl⟩
  rw [← hwc] at hoA ⊢
  clear hwc
  have hpk : p + k = 64 := by omega
  have hT0' : 0 ≤ T := by omega
  obtain ⟨hq, hqa, hqb⟩ := top_split T p k hpk hT0' hT1
  have hL : (2 : Int) ^ k < 18446744073709551616 := by
    have := Int.pow_lt_pow_of_lt (a := 2) (by decide) (show k < 64 by omega)
    rw [show (2 : Int) ^ 64 = 18446744073709551616 by decide] at this
    exact this
  have hL0 : (0 : Int) < 2 ^ k := Int.pow_pos (by omega)
  have hLw : IntKind.u64.wrap (2 ^ (64 - p)) = 2 ^ k := by rw [← hk, IntKind.wrap_u64]; exact Int.emod_eq_of_lt (by omega) hL
  have hL1 : IntKind.u64.wrap (2 ^ k - 1) = 2 ^ k - 1 := by rw [IntKind.wrap_u64]; exact Int.emod_eq_of_lt (by omega) (by omega)
  have hv := andNot_low T k (by omega) hT0' hT1
  have hbit := and_bit T k (by omega) hT0' hT1
  have HV : Hid (∀ x : Int, 0 ≤ x → x < 18446744073709551616 → bits .andNot .u64 x (2 ^ k - 1) = x / 2 ^ k * 2 ^ k) := Lib.hid (fun x a b => andNot_low x k (by omega) a b)
  have HW : Hid ((T + 2 ^ k) / 2 ^ k * 2 ^ k = (T / 2 ^ k + 1) * 2 ^ k) := Lib.hid (word_up T k)
  have HX : Hid (∀ r : Int, 0 ≤ r → r < 2 ^ k → (r / 2 + 9223372036854775808) / 2 ^ k * 2 ^ k = 9223372036854775808) := Lib.hid (fun r => word_over r k (by omega))
  have HQ := Lib.hid (And.intro hqa hqb)
  clear hqa hqb
  generalize hLe : (2 : Int) ^ k = L at *
  generalize hPe : (2 : Int) ^ p = P at *
  have HE2 := Lib.hid (And.intro hLe hPe)
  clear hLe hPe
  obtain ⟨zs, hf3, hb3, hzl, hz0, ho3⟩ := id hoA
  have c0 : wc.cell? ⟨f, 0, none⟩ = some (.int .u32 p) := blk_cell hf3 0
  have c1 : wc.cell? ⟨f, 1, none⟩ = some (.int .u8 0) := blk_cell hf3 1
  have c2 : wc.cell? ⟨f, 2, none⟩ = some (.int .i8 0) := blk_cell hf3 2
  have c4 : wc.cell? ⟨f, 4, none⟩ = some (.bool n) := blk_cell hf3 4
  have c5 : wc.cell? ⟨f, 5, none⟩ = some (.slice (some ⟨b, 0, none⟩) 1 c) := blk_cell hf3 5
  have c6 : wc.cell? ⟨f, 6, none⟩ = some (.int .i32 e) := blk_cell hf3 6
  have f2 := blk_frozen hf3 2
  have f3 := blk_frozen hf3 3
  have f6 := blk_frozen hf3 6
  have x0 : wc.cell? ⟨b, 0, none⟩ = some (.int .u64 T) := by rw [hb3.cell 0 (by omega), hz0]
  have g0 := blk_frozen hb3 0
  by_cases hex : rb = 0 ∧ sb = 0
  · obtain ⟨rfl, rfl⟩ := hex
    have b3 : bits .or .u64 0 0 = 0 := by decide +kernel
    go_wp2_with fail
    go_end0
    unfold Rounded
    have hk2 : (2 : Int) ^ (64 - p) = L := by rw [← hk]; exact HE2.out.1
    simp only [HE2.out.1, hk2, HE2.out.2]
    refine ⟨by first | rfl | trivial, 0, T / L * L, e, _, blk_far hf3 (p := ⟨b, 0, none⟩) hne _, hb3.set 0 (T / L * L), by simpa using hzl, ?_, ho3.set (p := ⟨b, 0, none⟩) (.inr (.inr rfl)) _, rfl, .inl ⟨rfl, rfl, rfl⟩⟩
    simp [List.getD, show 0 < zs.length by omega]
  · have hor : (bits .or .u64 rb sb != 0) = true := by
      rcases HRS.out.1 with h | h <;> rcases HRS.out.2 with h' | h' <;> first | (exact absurd (And.intro h h') hex) | (rw [h, h']; decide +kernel)
    have HH := Lib.hid (And.intro hv (And.intro hL1 hbit))
    have HP := Lib.hid (And.intro hpk hq)
    clear hv hbit hL1 hpk hq
    go_upto_block 0 with (fail)
    go_cut [11] (fun s wx => s = .bool (Inc rb sb (T / L)) ∧ wc = wx)
    case first =>
      have hb := HH.out.2.2
      rcases HRS.out.1 with rfl | rfl
      · have e0 : Inc 0 sb (T / L) = false := rfl
        clear hb
        go_wp2_with fail
        go_meet
        exact ⟨rfl, rfl⟩
      · rcases HRS.out.2 with rfl | rfl
        · rcases (by omega : T / L % 2 = 0 ∨ T / L % 2 = 1) with h | h
          · have HE : Hid (Inc 1 0 (T / L) = false) := Lib.hid (by simp [Inc, h])
            rw [h, Int.zero_mul] at hb
            clear h
            go_wp2_with fail
            go_meet
            exact ⟨by rw [HE.out], rfl⟩
          · have HE : Hid (Inc 1 0 (T / L) = true) := Lib.hid (by simp [Inc, h])
            rw [h, Int.one_mul] at hb
            clear h
            have hl : (L != 0) = true := by rw [bne_iff_ne]; omega
            go_wp2_with fail
            go_meet
            exact ⟨by rw [HE.out], rfl⟩
        · have e0 : Inc 1 1 (T / L) = true := rfl
          clear hb
          go_wp2_with fail
          go_meet
          exact ⟨rfl, rfl⟩
    case rest =>
    obtain ⟨rfl, rfl⟩ := hcut
    have HA : Hid (∀ b w, Calls Tryz.prog 130 #[.bool b] w fun e w' => e = .returned (.int .i8 (acci b)) ∧ w' = w) := Lib.hid (fun b w => acc_calls b w)
    have HI : Hid (∃ i, i = Inc rb sb (T / L)) := Lib.hid ⟨_, rfl⟩
    obtain ⟨i, hi⟩ := HI.out
    rw [← hi]
    have HI2 := Lib.hid hi
    clear hi HI
    go_wp2_with fail
    refine (HA.out _ _).mono ?_
    rintro en w' ⟨rfl, hw'⟩
    rw [hw']
    clear hw' w' HA
    go_upto_region 33 with (fail)
    have hu1 : IntKind.u32.wrap 0 = 0 := rfl
    clear c0 c1 c2 c4 f2 f3
    cases i with
    | false =>
      have hv := HH.out.1
      have hL1 := HH.out.2.1
      go_wp2_with fail
      go_end0
      obtain ⟨zs', h1, h2, h3, h4, h5⟩ := hoA.store (by omega) (acci n) (T / L * L)
      unfold Rounded
      rw [HE2.out.1, HE2.out.2, if_neg hex, ← HI2.out]
      exact ⟨rfl, _, _, _, zs', h1, h2, h3, h4, h5, by cases n <;> rfl, .inl ⟨rfl, rfl, rfl⟩⟩
    | true =>
      obtain ⟨w5, hw5, hf5, hb5, ho5⟩ : ∃ w5, w5 = wc.setCell ⟨f, 2, none⟩ (.int .i8 (acci (true != n))) ∧ w5.heap[f]? = some (.cells (fl p (acci (true != n)) 1 n (.slice (some ⟨b, 0, none⟩) 1 c) e) 112 (0, 0)) ∧ Blk w5 b zs ∧ Only w w5 (fun k => k = f ∨ k = b) :=
        ⟨_, rfl, by simpa [fl] using blk_set hf3 2 (.int .i8 (acci (true != n))), blk_far hb3 (p := ⟨f, 2, none⟩) (Ne.symm hne) _, ho3.set (p := ⟨f, 2, none⟩) (.inr (.inl rfl)) _⟩
      have HN : Hid (acci (true != n) = if Inc rb sb (T / L) = n then -1 else 1) := Lib.hid (by rw [← HI2.out]; cases n <;> rfl)
      have HW5 := Lib.hid hw5
      clear hw5 hf3 hb3 ho3 c5 c6 f6 x0 g0
      go_upto_region 34 with (fail)
      rw [show wc.setCell ⟨f, 2, none⟩ (.int .i8 (acci !true == n)) = w5 from HW5.out.symm]
      by_cases hov : T / L + 1 < P
      · have HC := Lib.hid (addVW_lo b c zs T L w5.drew hb5 (by omega) hz0 hT0' (by omega) (HQ.out.1 hov))
        have c5 : w5.cell? ⟨f, 5, none⟩ = some (.slice (some ⟨b, 0, none⟩) 1 c) := blk_cell hf5 5
        go_still_tail 9, (by kernel_rfl)
        change wpList _ _ _ _ _ w5.drew
        go_wp2_with fail
        refine HC.out.mono ?_
        rintro en w6 ⟨rfl, hb6, ho6⟩
        have hf6 := (ho6.kept f (blk_lt hf5) hne).trans hf5
        have ho56 : Only w w6 (fun k => k = f ∨ k = b) := ho5.drew.trans (ho6.mono (fun _ _ h => .inr h))
        have HO6 := Lib.hid ho56
        clear ho6 ho56 hf5 hb5 c5 HC ho5 HW5
        have c5 : w6.cell? ⟨f, 5, none⟩ = some (.slice (some ⟨b, 0, none⟩) 1 c) := blk_cell hf6 5
        have x0 : w6.cell? ⟨b, 0, none⟩ = some (.int .u64 (T + L)) := by rw [hb6.cell 0 (by rw [List.length_set]; omega)]; simp [List.getD, show 0 < zs.length by omega]
        have g0 := blk_frozen hb6 0
        have hv : bits .andNot .u64 (T + L) (L - 1) = (T / L + 1) * L := (HV.out (T + L) (by omega) (HQ.out.1 hov)).trans HW.out
        have hL1 := HH.out.2.1
        go_wp2_with fail
        go_end0
        unfold Rounded
        rw [HE2.out.1, HE2.out.2, if_neg hex, ← HI2.out]
        refine ⟨rfl, _, _, _, _, blk_far hf6 (p := ⟨b, 0, none⟩) hne _, hb6.set 0 ((T / L + 1) * L), by simp; omega, ?_, HO6.out.set (p := ⟨b, 0, none⟩) (.inr (.inr rfl)) _, ?_, .inr (.inl ⟨rfl, hov, rfl, rfl⟩)⟩
        · simp [List.getD, show 0 < zs.length by omega]
        · rw [HN.out, ← HI2.out]
      · have hov2 : T / L + 1 = P := by have := HP.out.2; omega
        obtain ⟨r0, r1⟩ := HQ.out.2 hov2
        obtain ⟨r, hr⟩ : ∃ r, r = T + L - 18446744073709551616 := ⟨_, rfl⟩
        have HC := addVW_hi b c zs T L w5.drew hb5 (by omega) hz0 hT0' hT1 (by omega) hL r0
        rw [← hr] at HC r1
        have hr0 : 0 ≤ r := by omega
        have hr63 : r / 2 < 9223372036854775808 := by omega
        have HC := Lib.hid HC
        have HR := Lib.hid (And.intro (HV.out (r / 2 + 9223372036854775808) (by omega) (by omega)) (HX.out r hr0 r1))
        have hor3 := or_top (r / 2) (by omega) hr63
        clear r0 r1 hr hov
        have HOV := Lib.hid hov2
        clear hov2
        have c5 : w5.cell? ⟨f, 5, none⟩ = some (.slice (some ⟨b, 0, none⟩) 1 c) := blk_cell hf5 5
        go_still_tail 9, (by kernel_rfl)
        change wpList _ _ _ _ _ w5.drew
        go_wp2_with fail
        refine HC.out.mono ?_
        rintro en w6 ⟨rfl, hb6, ho6⟩
        have hf6 := (ho6.kept f (blk_lt hf5) hne).trans hf5
        have ho56 : Only w w6 (fun k => k = f ∨ k = b) := ho5.drew.trans (ho6.mono (fun _ _ h => .inr h))
        have HO6 := Lib.hid ho56
        clear ho6 ho56 hf5 hb5 c5 HC ho5 HW5
        have c6 : w6.cell? ⟨f, 6, none⟩ = some (.int .i32 e) := blk_cell hf6 6
        have f6 := blk_frozen hf6 6
        have he1 : IntKind.i32.wrap (e + 1) = e + 1 := by rw [IntKind.wrap_i32]; omega
        go_upto_region 38 with (fail)
        obtain ⟨w7, hw7, hf7, hb7, ho7⟩ : ∃ w7, w7 = w6.setCell ⟨f, 6, none⟩ (.int .i32 (e + 1)) ∧ w7.heap[f]? = some (.cells (fl p (acci (true != n)) 1 n (.slice (some ⟨b, 0, none⟩) 1 c) (e + 1)) 112 (0, 0)) ∧ Blk w7 b (zs.set 0 r) ∧ Only w w7 (fun k => k = f ∨ k = b) :=
          ⟨_, rfl, by simpa [fl] using blk_set hf6 6 (.int .i32 (e + 1)), blk_far hb6 (p := ⟨f, 6, none⟩) (Ne.symm hne) _, HO6.out.set (p := ⟨f, 6, none⟩) (.inr (.inl rfl)) _⟩
        rw [← hw7]
        clear hw7 hf6 hb6 c6 f6 HO6
        have hen := Tryz.rshVU_enters
        have HC := Lib.hid (rshVU_one b c (zs.set 0 r) r w7.drew hb7 (by rw [List.length_set]; omega) (by rw [List.length_set]; omega) (by simp [List.getD, show 0 < zs.length by omega]))
        have c5 : w7.cell? ⟨f, 5, none⟩ = some (.slice (some ⟨b, 0, none⟩) 1 c) := blk_cell hf7 5
        go_still_tail 8, (by kernel_rfl)
        change wpList _ _ _ _ _ w7.drew
        go_wp2_with fail
        refine HC.out.mono ?_
        rintro en w8 ⟨⟨ret, rfl⟩, ho8, zs2, hb8, hzl2, hz2⟩
        have hf8 := (ho8.kept f (blk_lt hf7) hne).trans hf7
        have HO8 := Lib.hid (show Only w w8 (fun k => k = f ∨ k = b) from ho7.drew.trans (ho8.mono (fun _ _ h => .inr h)))
        rw [List.length_set] at hzl2
        clear ho8 hf7 hb7 c5 HC ho7
        have c5 : w8.cell? ⟨f, 5, none⟩ = some (.slice (some ⟨b, 0, none⟩) 1 c) := blk_cell hf8 5
        have x0 : w8.cell? ⟨b, 0, none⟩ = some (.int .u64 (r / 2)) := by rw [hb8.cell 0 (by omega), hz2]
        have g0 := blk_frozen hb8 0
        have hv : bits .andNot .u64 (r / 2 + 9223372036854775808) (L - 1) = 9223372036854775808 := HR.out.1.trans HR.out.2
        have hL1 := HH.out.2.1
        go_wp2_with fail
        go_end0
        unfold Rounded
        rw [HE2.out.1, HE2.out.2, if_neg hex, ← HI2.out]
        refine ⟨rfl, _, _, _, _, blk_far (show (w8.setCell ⟨b, 0, none⟩ (.int .u64 (r / 2 + 9223372036854775808))).heap[f]? = _ from blk_far hf8 (p := ⟨b, 0, none⟩) hne _) (p := ⟨b, 0, none⟩) hne _, (show Blk (w8.setCell ⟨b, 0, none⟩ (.int .u64 (r / 2 + 9223372036854775808))) b _ from hb8.set 0 (r / 2 + 9223372036854775808)).set 0 9223372036854775808, by simp; omega, ?_, (HO8.out.set (p := ⟨b, 0, none⟩) (.inr (.inr rfl)) _).set (p := ⟨b, 0, none⟩) (.inr (.inr rfl)) _, ?_, .inr (.inr ⟨rfl, HOV.out, rfl, rfl⟩)⟩
        · simp [List.getD, show 0 < zs2.length by omega]
        · rw [HN.out, ← HI2.out]
end Go.Proofs.YtgbpglojbgicjaaGreatFmt
namespace Go.Proofs.YtgbpglojbgicjaaGreatFmt
open Go.RowKit Go.Proofs.YtgbpglojbgicjaaGreatFmtW.PrintWords Go.Proofs.YtgbpglojbgicjaaGreatFmtW.PrintLast
theorem flt_info : ∃ j, Tryz.prog.info? 112 = some j ∧ j.size ≠ 0 := by
  have h : (Tryz.prog.info? 112).map (fun i => i.size) = some 7 := by kernel_rfl
  obtain ⟨j, hj, h2⟩ := Option.map_eq_some_iff.1 h
  exact ⟨j, hj, by rw [h2]; decide⟩
theorem flt_other (a b : Nat) (ca cb : Array Value) (w : World) (hne : a ≠ b) (ha : w.heap[a]? = some (.cells ca 112 (0, 0))) (hb : w.heap[b]? = some (.cells cb 112 (0, 0))) :
    (binOp .neq 106 (.pointer (some ⟨a, 0, none⟩)) (.pointer (some ⟨b, 0, none⟩))).run Tryz.prog w = .ok (.bool true) w := by
  obtain ⟨j, hj, hs⟩ := flt_info
  have hn : (⟨a, 0, none⟩ : Addr) ≠ ⟨b, 0, none⟩ := fun h => hne (congrArg Addr.block h)
  have h : ∀ d : Nat, (Op.equalIn (d + 1) 106 (.pointer (some ⟨a, 0, none⟩)) (.pointer (some ⟨b, 0, none⟩))).run Tryz.prog w = .ok false w := fun d => by
    simp [Op.equalIn, run_underlying Tryz.underlying106, sizeOf, typeInfo, hj, hs, run_sameAddr_other w hn ha hb]
  simp only [binOp]
  simp [Op.equal, Op.maxDepth, h 9999]
theorem flt_same (a : Nat) (w : World) :
    (binOp .neq 106 (.pointer (some ⟨a, 0, none⟩)) (.pointer (some ⟨a, 0, none⟩))).run Tryz.prog w = .ok (.bool false) w := by
  obtain ⟨j, hj, hs⟩ := flt_info
  exact Lib.run_neq_ptr_same w _ Tryz.underlying106 hj
set_option maxRecDepth 100000 in
set_option maxHeartbeats 4000000 in
theorem copy_self (f : Nat) (w : World) : Calls Tryz.prog 105 #[.pointer (some ⟨f, 0, none⟩), .pointer (some ⟨f, 0, none⟩)] w fun en w' => en = .returned (.pointer (some ⟨f, 0, none⟩)) ∧ w' = w := by
  have hs := flt_same f w
  go_enter Tryz.func105, Tryz.ntmps105
  go_wp2_with fail
  go_ret
  exact ⟨rfl, rfl⟩
set_option maxRecDepth 100000 in
set_option maxHeartbeats 4000000 in
theorem setMantExp_lit (f b c : Nat) (ys : List Int) (w : World) (hf : w.heap[f]? = some (.cells (fl 65 0 1 false (.slice (some ⟨b, 0, none⟩) 2 c) 65) 112 (0, 0))) (hb : Blk w b ys) (hn : 2 ≤ ys.length) (h0 : ys.getD 0 0 = 9223372036854775808) :
    Calls Tryz.prog 71 #[.pointer (some ⟨f, 0, none⟩), .pointer (some ⟨f, 0, none⟩), .int .i64 (-66)] w fun en w' => en = .returned (.pointer (some ⟨f, 0, none⟩)) ∧ w'.heap[f]? = some (.cells (fl 65 0 1 false (.slice (some ⟨b, 0, none⟩) 2 c) (-1)) 112 (0, 0)) ∧ Blk w' b (ys.set 0 9223372036854775808) ∧ Only w w' (fun k => k = f ∨ k = b) := by
  have c3 : w.cell? ⟨f, 3, none⟩ = some (.int .u8 1) := blk_cell hf 3
  have c6 : w.cell? ⟨f, 6, none⟩ = some (.int .i32 65) := blk_cell hf 6
  have HC := Lib.hid (copy_self f w)
  have HS := Lib.hid (setExp_a f b c ys 0 1 65 (-1) w hf hb hn h0 (by decide) (by decide))
  clear hf hb
  go_enter Tryz.func71, Tryz.ntmps71
  go_wp2_with fail
  refine HC.out.mono ?_
  rintro en w' ⟨rfl, hw⟩
  rw [hw]
  clear hw w'
  go_wp2_with fail
  refine HS.out.mono ?_
  rintro en w' ⟨rfl, h1, h2, h3⟩
  go_wp2_with fail
  go_ret
  exact ⟨rfl, h1, h2, h3⟩
set_option linter.unusedVariables false in
set_option linter.unusedSimpArgs false in
set_option maxRecDepth 100000 in
set_option maxHeartbeats 4000000 in
theorem set_lit (f g bx cx : Nat) (xs : List Int) (w : World) (hf : w.heap[f]? = some (.cells (fl 53 0 0 false (.slice none 0 0) 0) 112 (0, 0))) (hx : w.heap[g]? = some (.cells (fl 65 0 1 false (.slice (some ⟨bx, 0, none⟩) 2 cx) (-1)) 112 (0, 0))) (hbx : Blk w bx xs) (hxl : 2 ≤ xs.length) (hx0 : xs.getD 0 0 = 9223372036854775808) (hx1 : xs.getD 1 0 = 12297829382473034410) (hfx : f ≠ g) :
    Calls Tryz.prog 107 #[.pointer (some ⟨f, 0, none⟩), .pointer (some ⟨g, 0, none⟩)] w fun en w' => en = .returned (.pointer (some ⟨f, 0, none⟩)) ∧ ∃ b c zs, w'.heap[f]? = some (.cells (fl 53 (-1) 1 false (.slice (some ⟨b, 0, none⟩) 1 c) (-1)) 112 (0, 0)) ∧ Blk w' b zs ∧ 1 ≤ zs.length ∧ zs.getD 0 0 = 12297829382473033728 ∧ Only w w' (fun k => k = f) ∧ w.heap.size ≤ b := by
  have c2 : w.cell? ⟨f, 2, none⟩ = some (.int .i8 0) := blk_cell hf 2
  have c3 : w.cell? ⟨f, 3, none⟩ = some (.int .u8 0) := blk_cell hf 3
  have c4 : w.cell? ⟨f, 4, none⟩ = some (.bool false) := blk_cell hf 4
  have c6 : w.cell? ⟨f, 6, none⟩ = some (.int .i32 0) := blk_cell hf 6
  have f2 := blk_frozen hf 2
  have f3 := blk_frozen hf 3
  have f4 := blk_frozen hf 4
  have f6 := blk_frozen hf 6
  have x3 : w.cell? ⟨g, 3, none⟩ = some (.int .u8 1) := blk_cell hx 3
  have x4 : w.cell? ⟨g, 4, none⟩ = some (.bool false) := blk_cell hx 4
  have x6 : w.cell? ⟨g, 6, none⟩ = some (.int .i32 (-1)) := blk_cell hx 6
  have hfb : f ≠ bx := blk_ne hf hbx (by decide)
  have hpn := flt_other f g _ _ (w.setCell ⟨f, 2, none⟩ (.int .i8 0)) hfx (blk_set hf 2 (.int .i8 0)) (blk_far hx (p := ⟨f, 2, none⟩) (Ne.symm hfx) _)
  obtain ⟨w1, hw1, hf1, ho1⟩ : ∃ w1, w1 = (((w.setCell ⟨f, 2, none⟩ (.int .i8 0)).setCell ⟨f, 3, none⟩ (.int .u8 1)).setCell ⟨f, 4, none⟩ (.bool false)).setCell ⟨f, 6, none⟩ (.int .i32 (-1)) ∧ w1.heap[f]? = some (.cells (fl 53 0 1 false (.slice none 0 0) (-1)) 112 (0, 0)) ∧ Only w w1 (fun k => k = f) :=
    ⟨_, rfl, by simpa [fl] using blk_set (blk_set (blk_set (blk_set hf 2 (.int .i8 0)) 3 (.int .u8 1)) 4 (.bool false)) 6 (.int .i32 (-1)), ((((Only.refl w (fun k => k = f)).set (p := ⟨f, 2, none⟩) (.inr rfl) (.int .i8 0)).set (p := ⟨f, 3, none⟩) (.inr rfl) (.int .u8 1)).set (p := ⟨f, 4, none⟩) (.inr rfl) (.bool false)).set (p := ⟨f, 6, none⟩) (.inr rfl) (.int .i32 (-1))⟩
  have HW := Lib.hid hw1
  have hx1w := (ho1.kept _ (blk_lt hx) (Ne.symm hfx)).trans hx
  have hbx1 := ho1.blk hbx (Ne.symm hfb)
  have HF1 := Lib.hid (And.intro hf1 (And.intro ho1 (And.intro hx1w hbx1)))
  clear hf hx hbx hw1 hf1 ho1 hx1w hbx1
  go_enter Tryz.func107, Tryz.ntmps107
  go_upto_region 8 with (fail)
  rw [← HW.out]
  obtain ⟨hf1, ho1, hx1w, hbx1⟩ := HF1.out
  clear HF1 HW c2 c3 c4 c6 f2 f3 f4 f6 x3 x4 x6
  have HK : Hid (∀ W, Only w1 W (fun _ => False) → W.cell? ⟨f, 5, none⟩ = some (.slice none 0 0) ∧ W.cell? ⟨g, 5, none⟩ = some (.slice (some ⟨bx, 0, none⟩) 2 cx)) := Lib.hid (fun W hW => by
    have a := (hW.kept _ (blk_lt hf1) (fun h => h)).trans hf1
    have b := (hW.kept _ (blk_lt hx1w) (fun h => h)).trans hx1w
    exact ⟨blk_cell a 5, blk_cell b 5⟩)
  have hfd := blk_drew hf1
  have hxd : Blk w1.drew bx xs := hbx1
  have HO1 := Lib.hid ho1
  clear hf1 hbx1 ho1
  refine start_ (S := (fun W => Only w1 W (fun _ => False))) (ds := [12]) #[false, false, false, false, false, false, false, false, false, false, false, false, false] (by kernel_rfl) rfl rfl ?_ (fun hHeld => ?_)
  · exact (Only.refl w1 _).drew
  generalize w1.drew = W1 at *
  refine pure_ (i := 0) (oi := ?o0) (v := ?v0) #[true, false, false, false, false, false, false, false, false, false, false, false, false] ?h0 rfl (by kernel_rfl) ?q0 (Or.inl ⟨?w0, ?y0⟩) rfl ?r0
  case h0 => (simp only [List.getElem?_toArray, List.getElem?_cons_succ, List.getElem?_cons_zero]; rfl)
  case q0 => exact fun _ _ _ h => h
  case w0 => rfl
  case y0 => (intro W; go_simp; first | done | with_reducible rfl)
  simp only [Act.put, List.setIfInBounds_toArray, List.set_cons_zero, List.set_cons_succ]
  refine pure_ (i := 1) (oi := ?o1) (v := ?v1) #[true, true, false, false, false, false, false, false, false, false, false, false, false] ?h1 rfl (by kernel_rfl) ?q1 (Or.inl ⟨?w1, ?y1⟩) rfl ?r1
  case h1 => (simp only [List.getElem?_toArray, List.getElem?_cons_succ, List.getElem?_cons_zero]; rfl)
  case q1 => exact fun _ _ _ h => h
  case w1 => rfl
  case y1 => (intro W; go_simp; first | done | with_reducible rfl)
  simp only [Act.put, List.setIfInBounds_toArray, List.set_cons_zero, List.set_cons_succ]
  refine pure_ (i := 2) (oi := ?o2) (v := ?v2) #[true, true, true, false, false, false, false, false, false, false, false, false, false] ?h2 rfl (by kernel_rfl) ?q2 (Or.inl ⟨?w2, ?y2⟩) rfl ?r2
  case h2 => (simp only [List.getElem?_toArray, List.getElem?_cons_succ, List.getElem?_cons_zero]; rfl)
  case q2 => exact fun _ _ _ h => h
  case w2 => rfl
  case y2 => (intro W; go_simp; first | done | with_reducible rfl)
  simp only [Act.put, List.setIfInBounds_toArray, List.set_cons_zero, List.set_cons_succ]
  refine pure_ (i := 3) (oi := ?o3) (v := ?v3) #[true, true, true, true, false, false, false, false, false, false, false, false, false] ?h3 rfl (by kernel_rfl) ?q3 (Or.inl ⟨?w3, ?y3⟩) rfl ?r3
  case h3 => (simp only [List.getElem?_toArray, List.getElem?_cons_succ, List.getElem?_cons_zero]; rfl)
  case q3 => exact fun _ _ _ h => h
  case w3 => rfl
  case y3 => (intro W; go_simp; first | done | with_reducible rfl)
  simp only [Act.put, List.setIfInBounds_toArray, List.set_cons_zero, List.set_cons_succ]
  refine pure_ (i := 5) (oi := ?o4) (v := ?v4) #[true, true, true, true, false, true, false, false, false, false, false, false, false] ?h4 rfl (by kernel_rfl) ?q4 (Or.inl ⟨?w4, ?y4⟩) rfl ?r4
  case h4 => (simp only [List.getElem?_toArray, List.getElem?_cons_succ, List.getElem?_cons_zero]; rfl)
  case q4 => exact fun _ _ _ h => h
  case w4 => rfl
  case y4 => (intro W; go_simp; first | done | with_reducible rfl)
  simp only [Act.put, List.setIfInBounds_toArray, List.set_cons_zero, List.set_cons_succ]
  refine pure_ (i := 6) (oi := ?o5) (v := ?v5) #[true, true, true, true, false, true, true, false, false, false, false, false, false] ?h5 rfl (by kernel_rfl) ?q5 (Or.inl ⟨?w5, ?y5⟩) rfl ?r5
  case h5 => (simp only [List.getElem?_toArray, List.getElem?_cons_succ, List.getElem?_cons_zero]; rfl)
  case q5 => exact fun _ _ _ h => h
  case w5 => rfl
  case y5 => (intro W; go_simp; first | done | with_reducible rfl)
  simp only [Act.put, List.setIfInBounds_toArray, List.set_cons_zero, List.set_cons_succ]
  refine pure_ (i := 7) (oi := ?o6) (v := ?v6) #[true, true, true, true, false, true, true, true, false, false, false, false, false] ?h6 rfl (by kernel_rfl) ?q6 (Or.inl ⟨?w6, ?y6⟩) rfl ?r6
  case h6 => (simp only [List.getElem?_toArray, List.getElem?_cons_succ, List.getElem?_cons_zero]; rfl)
  case q6 => exact fun _ _ _ h => h
  case w6 => rfl
  case y6 => (intro W; go_simp; first | done | with_reducible rfl)
  simp only [Act.put, List.setIfInBounds_toArray, List.set_cons_zero, List.set_cons_succ]
  refine wpAnyLast_take (i := 4) (oi := ?o7) (v := ?v7) ?h7 (by kernel_rfl) (by kernel_rfl) (by kernel_rfl) (by kernel_rfl) (by kernel_rfl) ?q7 (Or.inl ⟨?w7, ?y7⟩) hHeld ?r7
  case h7 => (simp only [List.getElem?_toArray, List.getElem?_cons_succ, List.getElem?_cons_zero]; rfl)
  case q7 => exact fun _ _ _ h => h
  case w7 => rfl
  case y7 => (intro W hSw; obtain ⟨q5, q6⟩ := HK.out _ hSw; go_simp; first | done | with_reducible rfl)
  simp only [Act.put, List.setIfInBounds_toArray, List.set_cons_zero, List.set_cons_succ]
  refine wpAnyLast_take (i := 8) (oi := ?o8) (v := ?v8) ?h8 (by kernel_rfl) (by kernel_rfl) (by kernel_rfl) (by kernel_rfl) (by kernel_rfl) ?q8 (Or.inl ⟨?w8, ?y8⟩) hHeld ?r8
  case h8 => (simp only [List.getElem?_toArray, List.getElem?_cons_succ, List.getElem?_cons_zero]; rfl)
  case q8 => exact fun _ _ _ h => h
  case w8 => rfl
  case y8 => (intro W hSw; obtain ⟨q5, q6⟩ := HK.out _ hSw; go_simp; first | done | with_reducible rfl)
  simp only [Act.put, List.setIfInBounds_toArray, List.set_cons_zero, List.set_cons_succ]
  refine wpAnyLast_ready (rs := [9]) (by kernel_rfl) (by simp) ?_
  refine AllReadyL.cons (o := ?o9) ?h9 (by simp) (fun K hK => ?s9) ?m9
  case h9 => (simp only [List.getElem?_toArray, List.getElem?_cons_succ, List.getElem?_cons_zero]; rfl)
  case m9 => exact AllReadyL.nil
  go_simp
  go_at_call 82
  refine (set_any (.slice none 0 0) none bx 2 cx xs W1 .nil hxd (by decide) hxl (by decide)).mono ?_
  rintro en W2 ⟨b, zs, rfl, hz, hzl, hzm, ho, hob, hzi⟩
  replace ho : Only W1 W2 (fun _ => False) := ho.mono (fun _ _ h => by cases h)
  replace hob : W1.heap.size ≤ b := by rcases hob with h | h; (cases h); (exact h)
  have hfN := (ho.kept _ (blk_lt hfd) (fun h => h)).trans hfd
  have hsz := hHeld.base.size
  refine hK.out _ _ (hHeld.trans ho) (fun hHeldN => ?_)
  clear hK K hHeld
  have hHeld := hHeldN
  clear hHeldN
  simp only [Act.put, List.setIfInBounds_toArray, List.set_cons_zero, List.set_cons_succ]
  refine pure_ (i := 10) (oi := ?o10) (v := ?v10) #[true, true, true, true, true, true, true, true, true, true, true, false, false] ?h10 rfl (by kernel_rfl) ?q10 (Or.inl ⟨?w10, ?y10⟩) rfl ?r10
  case h10 => (simp only [List.getElem?_toArray, List.getElem?_cons_succ, List.getElem?_cons_zero]; rfl)
  case q10 => exact fun _ _ _ h => h
  case w10 => rfl
  case y10 => (intro W; go_simp; first | done | with_reducible rfl)
  simp only [Act.put, List.setIfInBounds_toArray, List.set_cons_zero, List.set_cons_succ]
  refine pure_ (i := 11) (oi := ?o11) (v := ?v11) #[true, true, true, true, true, true, true, true, true, true, true, true, false] ?h11 rfl (by kernel_rfl) ?q11 (Or.inl ⟨?w11, ?y11⟩) rfl ?r11
  case h11 => (simp only [List.getElem?_toArray, List.getElem?_cons_succ, List.getElem?_cons_zero]; rfl)
  case q11 => exact fun _ _ _ h => h
  case w11 => rfl
  case y11 => (intro W; go_simp; first | done | with_reducible rfl)
  simp only [Act.put, List.setIfInBounds_toArray, List.set_cons_zero, List.set_cons_succ]
  refine wpAnyLast_ready (rs := [12]) (by kernel_rfl) (by simp) ?_
  refine AllReadyL.cons_last (o := ?o12) ?h12 (by simp) (fun K hK => ?s12) ?m12
  case h12 => (simp only [List.getElem?_toArray, List.getElem?_cons_succ, List.getElem?_cons_zero]; rfl)
  case m12 => exact AllReadyL.nil
  have r5 : W2.cell? ⟨f, 5, none⟩ = some (.slice none 0 0) := blk_cell hfN 5
  have fr5 := blk_frozen hfN 5
  go_simp
  refine hK.out _ _ ?_
  clear hK K r5 fr5
  simp only [Act.put, List.setIfInBounds_toArray, List.set_cons_zero, List.set_cons_succ]
  refine done_ (by kernel_rfl) ?_
  obtain ⟨w2, hw2, hf2, hb2, ho2⟩ := after_set (f := f) hfN hz hHeld
  rw [← hw2]
  have hbz : w1.heap.size ≤ b := Nat.le_trans hsz hob
  clear hw2 hHeld hfN hz hfd hxd ho hob hsz HK
  have z0 : zs.getD 0 0 = 9223372036854775808 := by rw [hzi 0 (by omega)]; exact hx0
  have z1 : zs.getD 1 0 = 12297829382473034410 := by rw [hzi 1 (by omega)]; exact hx1
  obtain ⟨c, hc⟩ : ∃ c, zs.length = c + 2 := ⟨zs.length - 2, by omega⟩
  rw [hc] at hf2
  have hn2 := fun n => (Only.refl w2 (fun _ => False)).drewN n
  have HR := Lib.hid (fun n => round_b f b c zs 0 (-1) (w2.drewN n) (((hn2 n).kept _ (blk_lt hf2) (fun h => h)).trans hf2) ((hn2 n).blk hb2 (fun h => h)) hzl z0 z1)
  have HN := Lib.hid hn2
  clear hn2
  have p0 : w2.cell? ⟨f, 0, none⟩ = some (.int .u32 53) := blk_cell hf2 0
  have hx9 := (ho2.kept _ (blk_lt hx1w) (Ne.symm hfx)).trans hx1w
  have q0 : w2.cell? ⟨g, 0, none⟩ = some (.int .u32 65) := blk_cell hx9 0
  clear hzi hx0 hx1 z0 z1 hc hf2 hb2 hx9 hx1w
  go_wp2_with fail
  go_quiet (fail)
  go_wp2_with fail
  refine (HR.out nq).mono ?_
  rintro en w3 ⟨rfl, hf3, ⟨ys, hb3, hl3, y0⟩, ho3⟩
  go_wp2_with fail
  go_ret
  have ho23 := (ho2.step (HN.out nq) (fun _ _ h => h.elim)).step ho3 (fun i hi h => by rcases h with h | h; (exact h); (subst h; exact absurd hi (Nat.not_lt.2 hbz)))
  exact ⟨rfl, b, c + 2, ys, hf3, hb3, by omega, y0, HO1.out.trans ho23, Nat.le_trans HO1.out.base.size hbz⟩
end Go.Proofs.YtgbpglojbgicjaaGreatFmt
namespace Go.Proofs.YtgbpglojbgicjaaGreatFmt
open Go.RowKit Go.Proofs.YtgbpglojbgicjaaGreatFmtW.PrintWords Go.Proofs.YtgbpglojbgicjaaGreatFmtW.PrintLast
set_option maxRecDepth 100000 in
set_option maxHeartbeats 4000000 in
theorem setInt_zero (f gx : Nat) (ox : Option Nat) (w : World) (hf : w.heap[f]? = some (.cells (fl 0 0 0 false (.slice none 0 0) 0) 112 (0, 0))) (hx : IsInt w gx ox 0) :
    Calls Tryz.prog 70 #[.pointer (some ⟨f, 0, none⟩), .pointer (some ⟨gx, 0, none⟩)] w fun en w' => en = .returned (.pointer (some ⟨f, 0, none⟩)) ∧ w'.heap[f]? = some (.cells (fl 64 0 0 false (.slice none 0 0) 0) 112 (0, 0)) ∧ Only w w' (fun k => k = f) := by
  obtain ⟨vx, hgx, hnx⟩ := id hx
  rcases hnx.cases_ with ⟨h0, A, c, rfl⟩ | ⟨hpos, _⟩
  · have c0 : w.cell? ⟨f, 0, none⟩ = some (.int .u32 0) := blk_cell hf 0
    have c2 : w.cell? ⟨f, 2, none⟩ = some (.int .i8 0) := blk_cell hf 2
    have c3 : w.cell? ⟨f, 3, none⟩ = some (.int .u8 0) := blk_cell hf 3
    have c4 : w.cell? ⟨f, 4, none⟩ = some (.bool false) := blk_cell hf 4
    have f0 := blk_frozen hf 0
    have f2 := blk_frozen hf 2
    have f3 := blk_frozen hf 3
    have f4 := blk_frozen hf 4
    have x0 : w.cell? ⟨gx, 0, none⟩ = some (.bool false) := blk_cell hgx 0
    have x1 : w.cell? ⟨gx, 1, none⟩ = some (.slice A 0 c) := blk_cell hgx 1
    have hfx : f ≠ gx := blk_ne hf hgx (by decide)
    have HB := Lib.hid (bitLen_int gx ox 0 w hx (Fits.of (k := 1) (by decide) (by decide)))
    have HS : Hid (((((w.setCell ⟨f, 0, none⟩ (.int .u32 64)).setCell ⟨f, 2, none⟩ (.int .i8 0)).setCell ⟨f, 4, none⟩ (.bool false)).setCell ⟨f, 3, none⟩ (.int .u8 0)).heap[f]? = some (.cells (fl 64 0 0 false (.slice none 0 0) 0) 112 (0, 0)) ∧ Only w ((((w.setCell ⟨f, 0, none⟩ (.int .u32 64)).setCell ⟨f, 2, none⟩ (.int .i8 0)).setCell ⟨f, 4, none⟩ (.bool false)).setCell ⟨f, 3, none⟩ (.int .u8 0)) (fun k => k = f)) := Lib.hid ⟨by simpa [fl] using blk_set (blk_set (blk_set (blk_set hf 0 (.int .u32 64)) 2 (.int .i8 0)) 4 (.bool false)) 3 (.int .u8 0), ((((Only.refl w (fun k => k = f)).set (p := ⟨f, 0, none⟩) (.inr rfl) (.int .u32 64)).set (p := ⟨f, 2, none⟩) (.inr rfl) (.int .i8 0)).set (p := ⟨f, 4, none⟩) (.inr rfl) (.bool false)).set (p := ⟨f, 3, none⟩) (.inr rfl) (.int .u8 0)⟩
    clear hf hx hgx hnx
    go_enter Tryz.func70, Tryz.ntmps70
    go_wp2_with fail
    refine HB.out.mono ?_
    rintro e w' ⟨⟨k, rfl, hk, hk2⟩, hww⟩
    rw [hww]
    clear hww w'
    obtain rfl : k = 0 := hk.unique BLen.zero
    have hmx : max (0 : Int) 64 = 64 := by decide
    go_wp2_with fail
    go_ret
    exact ⟨rfl, HS.out⟩
  · exact absurd hpos (by decide)
set_option maxRecDepth 100000 in
set_option maxHeartbeats 4000000 in
theorem setMantExp_zero (f : Nat) (p a e x : Int) (n : Bool) (v : Value) (w : World) (hf : w.heap[f]? = some (.cells (fl p a 0 n v e) 112 (0, 0))) :
    Calls Tryz.prog 71 #[.pointer (some ⟨f, 0, none⟩), .pointer (some ⟨f, 0, none⟩), .int .i64 x] w fun en w' => en = .returned (.pointer (some ⟨f, 0, none⟩)) ∧ w' = w := by
  have c3 : w.cell? ⟨f, 3, none⟩ = some (.int .u8 0) := blk_cell hf 3
  have HC := Lib.hid (copy_self f w)
  clear hf
  go_enter Tryz.func71, Tryz.ntmps71
  go_wp2_with fail
  refine HC.out.mono ?_
  rintro en w' ⟨rfl, hw⟩
  rw [hw]
  clear hw w'
  go_wp2_with fail
  go_ret
  exact ⟨rfl, rfl⟩
set_option maxRecDepth 100000 in
set_option maxHeartbeats 4000000 in
theorem setMantExp_any (f b c m p : Nat) (ys : List Int) (a e x : Int) (n : Bool) (w : World) (hf : w.heap[f]? = some (.cells (fl p a 1 n (.slice (some ⟨b, 0, none⟩) m c) e) 112 (0, 0))) (hb : Blk w b ys) (hm : Mant ys m c) (hp : Whole ys m p) (hx0 : -2147483648 ≤ e + x) (hx1 : e + x ≤ 2147483647) (he0 : -2147483648 ≤ e) (he1 : e ≤ 2147483647) :
    Calls Tryz.prog 71 #[.pointer (some ⟨f, 0, none⟩), .pointer (some ⟨f, 0, none⟩), .int .i64 x] w fun en w' => en = .returned (.pointer (some ⟨f, 0, none⟩)) ∧ w'.heap[f]? = some (.cells (fl p 0 1 n (.slice (some ⟨b, 0, none⟩) m c) (e + x)) 112 (0, 0)) ∧ Blk w' b ys ∧ Only w w' (fun k => k = f ∨ k = b) := by
  have c3 : w.cell? ⟨f, 3, none⟩ = some (.int .u8 1) := blk_cell hf 3
  have c6 : w.cell? ⟨f, 6, none⟩ = some (.int .i32 e) := blk_cell hf 6
  have HC := Lib.hid (copy_self f w)
  have HS := Lib.hid (setExp_whole f b c m p ys a 1 e (e + x) n w hf hb hm hp hx0 hx1)
  have h1 : IntKind.i64.wrap e = e := by rw [IntKind.wrap_i64]; omega
  have h2 : IntKind.i64.wrap (e + x) = e + x := by rw [IntKind.wrap_i64]; omega
  clear hf hb hm hp
  go_enter Tryz.func71, Tryz.ntmps71
  go_wp2_with fail
  refine HC.out.mono ?_
  rintro en w' ⟨rfl, hw⟩
  rw [hw]
  clear hw w'
  go_wp2_with fail
  refine HS.out.mono ?_
  rintro en w' ⟨rfl, h1, h2, h3⟩
  go_wp2_with fail
  go_ret
  exact ⟨rfl, h1, h2, h3⟩
def RoundRel (p k : Nat) (T e rb sb : Int) (n : Bool) (a x e' : Int) : Prop := a = (if rb = 0 ∧ sb = 0 then 0 else if Inc rb sb (T / 2 ^ k) = n then -1 else 1) ∧
  ((Inc rb sb (T / 2 ^ k) = false ∧ x = T / 2 ^ k * 2 ^ k ∧ e' = e) ∨ (Inc rb sb (T / 2 ^ k) = true ∧ T / 2 ^ k + 1 < 2 ^ p ∧ x = (T / 2 ^ k + 1) * 2 ^ k ∧ e' = e) ∨ (Inc rb sb (T / 2 ^ k) = true ∧ T / 2 ^ k + 1 = 2 ^ p ∧ x = 9223372036854775808 ∧ e' = e + 1))
def GotSet (w : World) (f p k : Nat) (T e rb sb : Int) (n : Bool) (en : Ending) (w' : World) : Prop := en = .returned (.pointer (some ⟨f, 0, none⟩)) ∧ (∃ b c a x e' zs, w'.heap[f]? = some (.cells (fl p a 1 n (.slice (some ⟨b, 0, none⟩) 1 c) e') 112 (0, 0)) ∧ Blk w' b zs ∧ 1 ≤ zs.length ∧ zs.getD 0 0 = x ∧ w.heap.size ≤ b ∧ RoundRel p k T e rb sb n a x e') ∧ Only w w' (fun k => k = f)
theorem round_gen (f b c m p k : Nat) (ys : List Int) (a e T rb sb : Int) (n : Bool) (w : World) (hf : w.heap[f]? = some (.cells (fl p a 1 n (.slice (some ⟨b, 0, none⟩) m c) e) 112 (0, 0))) (hb : Blk w b ys) (hm : Mant ys m c) (h1 : m = 1) (hk : k = 64 - p) (hp0 : 0 < p) (hp1 : p < 64) (hT : ys.getD (m - 1) 0 = T)
    (hrb : T / 2 ^ (k - 1) % 2 = rb) (hst : (Stk (fun i => ys.getD i 0) (m - 1) (k - 1) ∧ sb = 0) ∨ (¬ Stk (fun i => ys.getD i 0) (m - 1) (k - 1) ∧ sb = 1)) (he : e < 2147483647) (he0 : -2147483648 ≤ e) :
    Calls Tryz.prog 131 #[.pointer (some ⟨f, 0, none⟩), .int .u64 0] w (Rounded w f b p k T e rb sb n c ys.length) := by
  subst h1
  obtain ⟨_, _, h2, h3, h4, h5, h6⟩ := hm
  exact round_one f b c p k ys a e T rb sb n w hf hb h2 h3 h4 h5 hk hp0 hp1 hT (by rw [← hT]; exact h6) hrb hst he he0
end Go.Proofs.YtgbpglojbgicjaaGreatFmt
