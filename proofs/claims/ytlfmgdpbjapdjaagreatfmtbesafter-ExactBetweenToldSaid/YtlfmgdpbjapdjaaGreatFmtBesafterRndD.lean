/- Closed facts of the card. -/
import Derived.Test.YtlfmgdpbjapdjaaGreatFmtBesafterPt06
import Derived.Test.YtlfmgdpbjapdjaaGreatFmtBesafterPt03
import Derived.StillTailTactics
import Derived.Deep.DeepCutAuto
import Derived.Deep.CutBlock
namespace Go.Proofs.YtlfmgdpbjapdjaaGreatFmtBesafter
open Go.RowKit Go.Proofs.YtlfmgdpbjapdjaaGreatFmtBesafterW.PrintWords
theorem after_copy1 {W : World} {f b : Nat} {ys : List Int} {cs : Array Value} (T : Int) (hf : W.heap[f]? = some (.cells cs 119 (0, 0))) (hb : Blk W b ys) (hne : f ≠ b) (hl : 1 ≤ ys.length) :
    ∃ w2 zs, w2 = W.setRow b (words (splice ys 0 [T])) ∧ w2.heap[f]? = some (.cells cs 119 (0, 0)) ∧ Blk w2 b zs ∧ zs.length = ys.length ∧ zs.getD 0 0 = T ∧ Only W w2 (fun k => k = b) := by
  refine ⟨_, splice ys 0 [T], rfl, (setRow_other W b f _ hne).trans hf, hb.row _, length_splice _ _ _ (by simp; omega), ?_, (Only.refl W (fun k => k = b)).row (.inr rfl) _⟩
  rw [splice_at _ _ _ _ (by simp; omega)]
  rfl
def OneWord (w : World) (f b : Nat) (p T e : Int) (n : Bool) (c l : Nat) (w' : World) : Prop := ∃ zs, w'.heap[f]? = some (.cells (fl p 0 1 n (.slice (some ⟨b, 0, none⟩) 1 c) e) 119 (0, 0)) ∧ Blk w' b zs ∧ zs.length = l ∧ zs.getD 0 0 = T ∧ Only w w' (fun k => k = f ∨ k = b)
def acci (b : Bool) : Int := if b then 1 else -1
def Inc (rb sb q : Int) : Bool := rb == 1 && (sb == 1 || q % 2 == 1)
def Rounded (w : World) (f b : Nat) (p k : Nat) (T e rb sb : Int) (n : Bool) (c l : Nat) (en : Ending) (w' : World) : Prop := en = .returned (.tuple #[]) ∧ ∃ a x e' zs, w'.heap[f]? = some (.cells (fl p a 1 n (.slice (some ⟨b, 0, none⟩) 1 c) e') 119 (0, 0)) ∧ Blk w' b zs ∧ zs.length = l ∧ zs.getD 0 0 = x ∧ Only w w' (fun k => k = f ∨ k = b) ∧
  a = (if rb = 0 ∧ sb = 0 then 0 else if Inc rb sb (T / 2 ^ k) = n then -1 else 1) ∧
  ((Inc rb sb (T / 2 ^ k) = false ∧ x = T / 2 ^ k * 2 ^ k ∧ e' = e) ∨ (Inc rb sb (T / 2 ^ k) = true ∧ T / 2 ^ k + 1 < 2 ^ p ∧ x = (T / 2 ^ k + 1) * 2 ^ k ∧ e' = e) ∨ (Inc rb sb (T / 2 ^ k) = true ∧ T / 2 ^ k + 1 = 2 ^ p ∧ x = 9223372036854775808 ∧ e' = e + 1))
theorem OneWord.store {w w3 : World} {f b : Nat} {p T e : Int} {n : Bool} {c l : Nat} (h : OneWord w f b p T e n c l w3) (hl : 1 ≤ l) (a x : Int) : ∃ zs, ((w3.setCell ⟨f, 2, none⟩ (.int .i8 a)).setCell ⟨b, 0, none⟩ (.int .u64 x)).heap[f]? = some (.cells (fl p a 1 n (.slice (some ⟨b, 0, none⟩) 1 c) e) 119 (0, 0)) ∧ Blk ((w3.setCell ⟨f, 2, none⟩ (.int .i8 a)).setCell ⟨b, 0, none⟩ (.int .u64 x)) b zs ∧ zs.length = l ∧ zs.getD 0 0 = x ∧ Only w ((w3.setCell ⟨f, 2, none⟩ (.int .i8 a)).setCell ⟨b, 0, none⟩ (.int .u64 x)) (fun k => k = f ∨ k = b) := by
  obtain ⟨zs, hf, hb, hzl, hz0, ho⟩ := h
  have hne : f ≠ b := blk_ne hf hb (by decide)
  refine ⟨zs.set 0 x, ?_, (show Blk (w3.setCell ⟨f, 2, none⟩ (.int .i8 a)) b zs from blk_far hb (p := ⟨f, 2, none⟩) (Ne.symm hne) _).set 0 x, by simpa using hzl, ?_, ?_⟩
  · simpa [fl] using blk_far (blk_set hf 2 (.int .i8 a)) (p := ⟨b, 0, none⟩) hne (.int .u64 x)
  · simp [List.getD, show 0 < zs.length by omega]
  · exact ho.trans (((Only.refl w3 (fun k => k = f ∨ k = b)).set (p := ⟨f, 2, none⟩) (.inr (.inl rfl)) (.int .i8 a)).set (p := ⟨b, 0, none⟩) (.inr (.inr rfl)) (.int .u64 x))
theorem top_split (T : Int) (p k : Nat) (hpk : p + k = 64) (h0 : 0 ≤ T) (h1 : T < 18446744073709551616) : T / 2 ^ k < 2 ^ p ∧ (T / 2 ^ k + 1 < 2 ^ p → T + 2 ^ k < 18446744073709551616) ∧ (T / 2 ^ k + 1 = 2 ^ p → 18446744073709551616 ≤ T + 2 ^ k ∧ T + 2 ^ k - 18446744073709551616 < 2 ^ k) := by
  have e : (2 : Int) ^ p * 2 ^ k = 18446744073709551616 := by rw [← Int.pow_add, hpk]; decide
  have hk : (0 : Int) < 2 ^ k := Int.pow_pos (by omega)
  have hT := Int.mul_ediv_add_emod T (2 ^ k)
  have r0 := Int.emod_nonneg T (Int.ne_of_gt hk)
  have r1 := Int.emod_lt_of_pos T hk
  generalize (2 : Int) ^ k = L at *
  generalize (2 : Int) ^ p = P at *
  generalize T % L = r at *
  generalize T / L = q at *
  rw [Int.mul_comm] at hT
  refine ⟨?_, fun h => ?_, fun h => ?_⟩
  · rcases Int.lt_or_le q P with h | h
    · exact h
    · have := Int.mul_le_mul_of_nonneg_right h (Int.le_of_lt hk)
      omega
  · have := Int.mul_le_mul_of_nonneg_right (show q + 2 ≤ P by omega) (Int.le_of_lt hk)
    rw [Int.add_mul] at this
    omega
  · have : (q + 1) * L = P * L := by rw [h]
    rw [Int.add_mul, Int.one_mul] at this
    omega
theorem word_up (T : Int) (k : Nat) : (T + 2 ^ k) / 2 ^ k * 2 ^ k = (T / 2 ^ k + 1) * 2 ^ k := by
  have hk : (2 : Int) ^ k ≠ 0 := Int.ne_of_gt (Int.pow_pos (by omega))
  rw [show T + 2 ^ k = T + 1 * 2 ^ k by omega, Int.add_mul_ediv_right _ _ hk]
theorem word_over (r : Int) (k : Nat) (hk : k < 64) (h0 : 0 ≤ r) (h1 : r < 2 ^ k) : (r / 2 + 9223372036854775808) / 2 ^ k * 2 ^ k = 9223372036854775808 := by
  have hp : (0 : Int) < 2 ^ k := Int.pow_pos (by omega)
  have e : (9223372036854775808 : Int) = 2 ^ (63 - k) * 2 ^ k := by rw [← Int.pow_add, show 63 - k + k = 63 by omega]; decide
  conv => lhs; rw [e]
  rw [Int.add_mul_ediv_right _ _ (Int.ne_of_gt hp), Int.ediv_eq_zero_of_lt (by omega) (by omega), Int.zero_add]
  exact e.symm
set_option linter.unusedVariables false in
set_option linter.unusedSimpArgs false in
set_option maxRecDepth 100000 in
set_option maxHeartbeats 8000000 in
theorem round_one (f b c p k : Nat) (ys : List Int) (a e T rb sb : Int) (n : Bool) (w : World) (hf : w.heap[f]? = some (.cells (fl p a 1 n (.slice (some ⟨b, 0, none⟩) 1 c) e) 119 (0, 0))) (hb : Blk w b ys) (hn : 1 ≤ ys.length) (hjc : 1 ≤ c) (hl : ys.length < 1099511627776) (hw : Wd (fun i => ys.getD i 0) 1) (hk : k = 64 - p) (hp0 : 0 < p) (hp1 : p < 64) (hT : ys.getD 0 0 = T) (hT0 : 9223372036854775808 ≤ T)
    (hrb : T / 2 ^ (k - 1) % 2 = rb) (hst : (Stk (fun i => ys.getD i 0) 0 (k - 1) ∧ sb = 0) ∨ (¬ Stk (fun i => ys.getD i 0) 0 (k - 1) ∧ sb = 1)) (he : e < 2147483647) (he0 : -2147483648 ≤ e) :
    Calls Tryz.prog 124 #[.pointer (some ⟨f, 0, none⟩), .int .u64 0] w (Rounded w f b p k T e rb sb n c ys.length) := by
  have hT1 : T < 18446744073709551616 := by rw [← hT]; exact (hw 0 (by omega)).2
  have c0 : w.cell? ⟨f, 0, none⟩ = some (.int .u32 p) := blk_cell hf 0
  have c1 : w.cell? ⟨f, 1, none⟩ = some (.int .u8 0) := blk_cell hf 1
  have c2 : w.cell? ⟨f, 2, none⟩ = some (.int .i8 a) := blk_cell hf 2
  have c3 : w.cell? ⟨f, 3, none⟩ = some (.int .u8 1) := blk_cell hf 3
  have c5 : w.cell? ⟨f, 5, none⟩ = some (.slice (some ⟨b, 0, none⟩) 1 c) := blk_cell hf 5
  have f2 := blk_frozen hf 2
  have hne : f ≠ b := blk_ne hf hb (by decide)
  have hb1 : Blk (w.setCell ⟨f, 2, none⟩ (.int .i8 0)) b ys := blk_far hb (p := ⟨f, 2, none⟩) (Ne.symm hne) _
  have hf1 : (w.setCell ⟨f, 2, none⟩ (.int .i8 0)).heap[f]? = some (.cells (fl p 0 1 n (.slice (some ⟨b, 0, none⟩) 1 c) e) 119 (0, 0)) := by simpa [fl] using blk_set hf 2 (.int .i8 0)
  have ho1 : Only w (w.setCell ⟨f, 2, none⟩ (.int .i8 0)) (fun k => k = f ∨ k = b) := (Only.refl w (fun k => k = f ∨ k = b)).set (p := ⟨f, 2, none⟩) (.inr (.inl rfl)) _
  have m3 : 64 - (p : Int) - 1 = ((k - 1 : Nat) : Int) := by omega
  have m4 : IntKind.u32.wrap (64 - (p : Int)) = 64 - (p : Int) := by rw [IntKind.wrap_u32]; omega
  have m5 : IntKind.u32.wrap (((k - 1 : Nat) : Int)) = ((k - 1 : Nat) : Int) := by rw [IntKind.wrap_u32]; omega
  have m6 : decide ((64 : Int) ≤ p) = false := by rw [decide_eq_false_iff_not]; omega
  have m7 : IntKind.u32.wrap ((p : Int) + 63) = (p : Int) + 63 := by rw [IntKind.wrap_u32]; omega
  have m8 : ((p : Int) + 63) / 64 = 1 := by omega
  have m11 : IntKind.u32.wrap (64 - (p : Int)) = 64 - (p : Int) := by rw [IntKind.wrap_u32]; omega
  have hrb2 : rb = 0 ∨ rb = 1 := by rw [← hrb]; omega
  have hsb2 : sb = 0 ∨ sb = 1 := by rcases hst with h | h <;> omega
  have d1 : bits .and .u64 rb 1 = rb := by rcases hrb2 with h | h <;> (rw [h]; decide +kernel)
  have d2 : bits .and .u64 sb 1 = sb := by rcases hsb2 with h | h <;> (rw [h]; decide +kernel)
  have HBIT : Hid (∀ W, Blk W b ys → Calls Tryz.prog 142 #[.slice (some ⟨b, 0, none⟩) 1 c, .int .u64 ((k - 1 : Nat) : Int)] W fun e w' => e = .returned (.int .u64 rb) ∧ w' = W) := Lib.hid (fun W hb' => (show Calls Tryz.prog 142 #[.slice (some ⟨b, 0, none⟩) 1 c, .int .u64 ((k - 1 : Nat) : Int)] W _ from by have h := bit_at b 1 c 0 (k - 1) ys W hb' hn (by omega) (by omega) (by omega) hw; rw [Nat.mul_zero, Nat.zero_add] at h; exact h).mono (by rintro e w' ⟨h1, h2⟩; rw [hT, hrb] at h1; exact ⟨h1, h2⟩))
  have HST : Hid (∀ W, Blk W b ys → Calls Tryz.prog 98 #[.slice (some ⟨b, 0, none⟩) 1 c, .int .u64 ((k - 1 : Nat) : Int)] W fun e w' => e = .returned (.int .u64 sb) ∧ w' = W) := Lib.hid (fun W hb' => (show Calls Tryz.prog 98 #[.slice (some ⟨b, 0, none⟩) 1 c, .int .u64 ((k - 1 : Nat) : Int)] W _ from by have h := sticky_at b 1 c 0 (k - 1) ys W hb' hn (by omega) hjc (by omega) (by omega) hw; rw [Nat.mul_zero, Nat.zero_add] at h; exact h).mono (by
    rintro e w' ⟨h1, h2⟩
    refine ⟨?_, h2⟩
    rcases h1 with h | h <;> rcases hst with g | g
    · rw [h.2, g.2]
    · exact absurd h.1 g.1
    · exact absurd g.1 h.1
    · rw [h.2, g.2]))
  have HB := Lib.hid (And.intro hb1 (And.intro hf1 ho1))
  have HT := Lib.hid hT
  have HRS := Lib.hid (And.intro hrb2 hsb2)
  generalize ((k - 1 : Nat) : Int) = R at *
  clear hf hb hb1 hf1 ho1 hst hrb hw hT hrb2 hsb2
  go_enter Tryz.func124, Tryz.ntmps124
  go_wp2_with fail
  refine (HBIT.out _ HB.out.1).mono ?_
  rintro en w' ⟨rfl, hw'⟩
  rw [hw']
  clear hw' w' HBIT
  obtain ⟨hb1, hf1, ho1⟩ := HB.out
  clear c0 c1 c2 c3 c5 f2 HB
  generalize w.setCell ⟨f, 2, none⟩ (.int .i8 0) = w1 at *
  have c0 : w1.cell? ⟨f, 0, none⟩ = some (.int .u32 p) := blk_cell hf1 0
  have c1 : w1.cell? ⟨f, 1, none⟩ = some (.int .u8 0) := blk_cell hf1 1
  have c5 : w1.cell? ⟨f, 5, none⟩ = some (.slice (some ⟨b, 0, none⟩) 1 c) := blk_cell hf1 5
  go_upto_region 8 with (fail)
  go_cut [63] (fun s wx => s = .bool true ∧ w1 = wx)
  case first =>
    by_cases h : rb = 0
    · have h0 : (rb == 0) = true := by rw [h]; rfl
      clear h
      go_wp2_with fail
      go_meet
      exact ⟨rfl, rfl⟩
    · have h0 : (rb == 0) = false := by rw [beq_eq_false_iff_ne]; exact h
      clear h
      go_wp2_with fail
      go_meet
      exact ⟨rfl, rfl⟩
  case rest =>
  obtain ⟨rfl, rfl⟩ := hcut
  go_wp2_with fail
  refine (HST.out _ hb1).mono ?_
  rintro en w' ⟨rfl, hw'⟩
  rw [hw']
  clear hw' w' HST
  go_upto_region 15 with (fail)
  simp only [m8]
  have hoA : OneWord w f b p T e n c ys.length w1 := ⟨ys, hf1, hb1, rfl, HT.out, ho1⟩
  clear hf1 hb1 ho1 c0 c1 c5
  obtain ⟨wc, hwc⟩ : ∃ wc, wc = w1 := ⟨_, rfl⟩
  rw [← hwc] at hoA ⊢
  clear hwc
  have hpk : p + k = 64 := by omega
  have hT0' : 0 ≤ T := by omega
  obtain ⟨hq, hqa, hqb⟩ := top_split T p k hpk hT0' hT1
  have hL : (2 : Int) ^ k < 18446744073709551616 := by
    have := Int.pow_lt_pow_of_lt (a := 2) (by decide) (show k < 64 by omega)
    rw [show (2 : Int) ^ 64 = 18446744073709551616 by decide] at this
    exact this
  have hL0 : (0 : Int) < 2 ^ k := Int.pow_pos (by omega)
  have hLw : IntKind.u64.wrap (2 ^ (64 - p)) = 2 ^ k := by rw [← hk, IntKind.wrap_u64]; exact Int.emod_eq_of_lt (by omega) hL
  have hL1 : IntKind.u64.wrap (2 ^ k - 1) = 2 ^ k - 1 := by rw [IntKind.wrap_u64]; exact Int.emod_eq_of_lt (by omega) (by omega)
  have hv := andNot_low T k (by omega) hT0' hT1
  have hbit := and_bit T k (by omega) hT0' hT1
  have HV : Hid (∀ x : Int, 0 ≤ x → x < 18446744073709551616 → bits .andNot .u64 x (2 ^ k - 1) = x / 2 ^ k * 2 ^ k) := Lib.hid (fun x a b => andNot_low x k (by omega) a b)
  have HW : Hid ((T + 2 ^ k) / 2 ^ k * 2 ^ k = (T / 2 ^ k + 1) * 2 ^ k) := Lib.hid (word_up T k)
  have HX : Hid (∀ r : Int, 0 ≤ r → r < 2 ^ k → (r / 2 + 9223372036854775808) / 2 ^ k * 2 ^ k = 9223372036854775808) := Lib.hid (fun r => word_over r k (by omega))
  have HQ := Lib.hid (And.intro hqa hqb)
  clear hqa hqb
  generalize hLe : (2 : Int) ^ k = L at *
  generalize hPe : (2 : Int) ^ p = P at *
  have HE2 := Lib.hid (And.intro hLe hPe)
  clear hLe hPe
  obtain ⟨zs, hf3, hb3, hzl, hz0, ho3⟩ := id hoA
  have c0 : wc.cell? ⟨f, 0, none⟩ = some (.int .u32 p) := blk_cell hf3 0
  have c1 : wc.cell? ⟨f, 1, none⟩ = some (.int .u8 0) := blk_cell hf3 1
  have c2 : wc.cell? ⟨f, 2, none⟩ = some (.int .i8 0) := blk_cell hf3 2
  have c4 : wc.cell? ⟨f, 4, none⟩ = some (.bool n) := blk_cell hf3 4
  have c5 : wc.cell? ⟨f, 5, none⟩ = some (.slice (some ⟨b, 0, none⟩) 1 c) := blk_cell hf3 5
  have c6 : wc.cell? ⟨f, 6, none⟩ = some (.int .i32 e) := blk_cell hf3 6
  have f2 := blk_frozen hf3 2
  have f3 := blk_frozen hf3 3
  have f6 := blk_frozen hf3 6
  have x0 : wc.cell? ⟨b, 0, none⟩ = some (.int .u64 T) := by rw [hb3.cell 0 (by omega), hz0]
  have g0 := blk_frozen hb3 0
  by_cases hex : rb = 0 ∧ sb = 0
  · obtain ⟨rfl, rfl⟩ := hex
    have b3 : bits .or .u64 0 0 = 0 := by decide +kernel
    go_wp2_with fail
    go_end0
    unfold Rounded
    have hk2 : (2 : Int) ^ (64 - p) = L := by rw [← hk]; exact HE2.out.1
    simp only [HE2.out.1, hk2, HE2.out.2]
    refine ⟨by first | rfl | trivial, 0, T / L * L, e, _, blk_far hf3 (p := ⟨b, 0, none⟩) hne _, hb3.set 0 (T / L * L), by simpa using hzl, ?_, ho3.set (p := ⟨b, 0, none⟩) (.inr (.inr rfl)) _, rfl, .inl ⟨rfl, rfl, rfl⟩⟩
    simp [List.getD, show 0 < zs.length by omega]
  · have hor : (bits .or .u64 rb sb != 0) = true := by
      rcases HRS.out.1 with h | h <;> rcases HRS.out.2 with h' | h' <;> first | (exact absurd (And.intro h h') hex) | (rw [h, h']; decide +kernel)
    have HH := Lib.hid (And.intro hv (And.intro hL1 hbit))
    have HP := Lib.hid (And.intro hpk hq)
    clear hv hbit hL1 hpk hq
    go_upto_block 0 with (fail)
    go_cut [11] (fun s wx => s = .bool (Inc rb sb (T / L)) ∧ wc = wx)
    case first =>
      have hb := HH.out.2.2
      rcases HRS.out.1 with rfl | rfl
      · have e0 : Inc 0 sb (T / L) = false := rfl
        clear hb
        go_wp2_with fail
        go_meet
        exact ⟨rfl, rfl⟩
      · rcases HRS.out.2 with rfl | rfl
        · rcases (by omega : T / L % 2 = 0 ∨ T / L % 2 = 1) with h | h
          · have HE : Hid (Inc 1 0 (T / L) = false) := Lib.hid (by simp [Inc, h])
            rw [h, Int.zero_mul] at hb
            clear h
            go_wp2_with fail
            go_meet
            exact ⟨by rw [HE.out], rfl⟩
          · have HE : Hid (Inc 1 0 (T / L) = true) := Lib.hid (by simp [Inc, h])
            rw [h, Int.one_mul] at hb
            clear h
            have hl : (L != 0) = true := by rw [bne_iff_ne]; omega
            go_wp2_with fail
            go_meet
            exact ⟨by rw [HE.out], rfl⟩
        · have e0 : Inc 1 1 (T / L) = true := rfl
          clear hb
          go_wp2_with fail
          go_meet
          exact ⟨rfl, rfl⟩
    case rest =>
    obtain ⟨rfl, rfl⟩ := hcut
    have HA : Hid (∀ b w, Calls Tryz.prog 123 #[.bool b] w fun e w' => e = .returned (.int .i8 (acci b)) ∧ w' = w) := Lib.hid (fun b w => acc_calls b w)
    have HI : Hid (∃ i, i = Inc rb sb (T / L)) := Lib.hid ⟨_, rfl⟩
    obtain ⟨i, hi⟩ := HI.out
    rw [← hi]
    have HI2 := Lib.hid hi
    clear hi HI
    go_wp2_with fail
    refine (HA.out _ _).mono ?_
    rintro en w' ⟨rfl, hw'⟩
    rw [hw']
    clear hw' w' HA
    go_upto_region 33 with (fail)
    have hu1 : IntKind.u32.wrap 0 = 0 := rfl
    clear c0 c1 c2 c4 f2 f3
    cases i with
    | false =>
      have hv := HH.out.1
      have hL1 := HH.out.2.1
      go_wp2_with fail
      go_end0
      obtain ⟨zs', h1, h2, h3, h4, h5⟩ := hoA.store (by omega) (acci n) (T / L * L)
      unfold Rounded
      rw [HE2.out.1, HE2.out.2, if_neg hex, ← HI2.out]
      exact ⟨rfl, _, _, _, zs', h1, h2, h3, h4, h5, by cases n <;> rfl, .inl ⟨rfl, rfl, rfl⟩⟩
    | true =>
      obtain ⟨w5, hw5, hf5, hb5, ho5⟩ : ∃ w5, w5 = wc.setCell ⟨f, 2, none⟩ (.int .i8 (acci (true != n))) ∧ w5.heap[f]? = some (.cells (fl p (acci (true != n)) 1 n (.slice (some ⟨b, 0, none⟩) 1 c) e) 119 (0, 0)) ∧ Blk w5 b zs ∧ Only w w5 (fun k => k = f ∨ k = b) :=
        ⟨_, rfl, by simpa [fl] using blk_set hf3 2 (.int .i8 (acci (true != n))), blk_far hb3 (p := ⟨f, 2, none⟩) (Ne.symm hne) _, ho3.set (p := ⟨f, 2, none⟩) (.inr (.inl rfl)) _⟩
      have HN : Hid (acci (true != n) = if Inc rb sb (T / L) = n then -1 else 1) := Lib.hid (by rw [← HI2.out]; cases n <;> rfl)
      have HW5 := Lib.hid hw5
      clear hw5 hf3 hb3 ho3 c5 c6 f6 x0 g0
      go_upto_region 34 with (fail)
      rw [show wc.setCell ⟨f, 2, none⟩ (.int .i8 (acci !true == n)) = w5 from HW5.out.symm]
      by_cases hov : T / L + 1 < P
      · have HC := Lib.hid (addVW_lo b c zs T L w5.drew hb5 (by omega) hz0 hT0' (by omega) (HQ.out.1 hov))
        have c5 : w5.cell? ⟨f, 5, none⟩ = some (.slice (some ⟨b, 0, none⟩) 1 c) := blk_cell hf5 5
        go_still_tail 9, (by kernel_rfl)
        change wpList _ _ _ _ _ w5.drew
        go_wp2_with fail
        refine HC.out.mono ?_
        rintro en w6 ⟨rfl, hb6, ho6⟩
        have hf6 := (ho6.kept f (blk_lt hf5) hne).trans hf5
        have ho56 : Only w w6 (fun k => k = f ∨ k = b) := ho5.drew.trans (ho6.mono (fun _ _ h => .inr h))
        have HO6 := Lib.hid ho56
        clear ho6 ho56 hf5 hb5 c5 HC ho5 HW5
        have c5 : w6.cell? ⟨f, 5, none⟩ = some (.slice (some ⟨b, 0, none⟩) 1 c) := blk_cell hf6 5
        have x0 : w6.cell? ⟨b, 0, none⟩ = some (.int .u64 (T + L)) := by rw [hb6.cell 0 (by rw [List.length_set]; omega)]; simp [List.getD, show 0 < zs.length by omega]
        have g0 := blk_frozen hb6 0
        have hv : bits .andNot .u64 (T + L) (L - 1) = (T / L + 1) * L := (HV.out (T + L) (by omega) (HQ.out.1 hov)).trans HW.out
        have hL1 := HH.out.2.1
        go_wp2_with fail
        go_end0
        unfold Rounded
        rw [HE2.out.1, HE2.out.2, if_neg hex, ← HI2.out]
        refine ⟨rfl, _, _, _, _, blk_far hf6 (p := ⟨b, 0, none⟩) hne _, hb6.set 0 ((T / L + 1) * L), by simp; omega, ?_, HO6.out.set (p := ⟨b, 0, none⟩) (.inr (.inr rfl)) _, ?_, .inr (.inl ⟨rfl, hov, rfl, rfl⟩)⟩
        · simp [List.getD, show 0 < zs.length by omega]
        · rw [HN.out, ← HI2.out]
      · have hov2 : T / L + 1 = P := by have := HP.out.2; omega
        obtain ⟨r0, r1⟩ := HQ.out.2 hov2
        obtain ⟨r, hr⟩ : ∃ r, r = T + L - 18446744073709551616 := ⟨_, rfl⟩
        have HC := addVW_hi b c zs T L w5.drew hb5 (by omega) hz0 hT0' hT1 (by omega) hL r0
        rw [← hr] at HC r1
        have hr0 : 0 ≤ r := by omega
        have hr63 : r / 2 < 9223372036854775808 := by omega
        have HC := Lib.hid HC
        have HR := Lib.hid (And.intro (HV.out (r / 2 + 9223372036854775808) (by omega) (by omega)) (HX.out r hr0 r1))
        have hor3 := or_top (r / 2) (by omega) hr63
        clear r0 r1 hr hov
        have HOV := Lib.hid hov2
        clear hov2
        have c5 : w5.cell? ⟨f, 5, none⟩ = some (.slice (some ⟨b, 0, none⟩) 1 c) := blk_cell hf5 5
        go_still_tail 9, (by kernel_rfl)
        change wpList _ _ _ _ _ w5.drew
        go_wp2_with fail
        refine HC.out.mono ?_
        rintro en w6 ⟨rfl, hb6, ho6⟩
        have hf6 := (ho6.kept f (blk_lt hf5) hne).trans hf5
        have ho56 : Only w w6 (fun k => k = f ∨ k = b) := ho5.drew.trans (ho6.mono (fun _ _ h => .inr h))
        have HO6 := Lib.hid ho56
        clear ho6 ho56 hf5 hb5 c5 HC ho5 HW5
        have c6 : w6.cell? ⟨f, 6, none⟩ = some (.int .i32 e) := blk_cell hf6 6
        have f6 := blk_frozen hf6 6
        have he1 : IntKind.i32.wrap (e + 1) = e + 1 := by rw [IntKind.wrap_i32]; omega
        go_upto_region 38 with (fail)
        obtain ⟨w7, hw7, hf7, hb7, ho7⟩ : ∃ w7, w7 = w6.setCell ⟨f, 6, none⟩ (.int .i32 (e + 1)) ∧ w7.heap[f]? = some (.cells (fl p (acci (true != n)) 1 n (.slice (some ⟨b, 0, none⟩) 1 c) (e + 1)) 119 (0, 0)) ∧ Blk w7 b (zs.set 0 r) ∧ Only w w7 (fun k => k = f ∨ k = b) :=
          ⟨_, rfl, by simpa [fl] using blk_set hf6 6 (.int .i32 (e + 1)), blk_far hb6 (p := ⟨f, 6, none⟩) (Ne.symm hne) _, HO6.out.set (p := ⟨f, 6, none⟩) (.inr (.inl rfl)) _⟩
        rw [← hw7]
        clear hw7 hf6 hb6 c6 f6 HO6
        have hen := Tryz.rshVU_enters
        have HC := Lib.hid (rshVU_one b c (zs.set 0 r) r w7.drew hb7 (by rw [List.length_set]; omega) (by rw [List.length_set]; omega) (by simp [List.getD, show 0 < zs.length by omega]))
        have c5 : w7.cell? ⟨f, 5, none⟩ = some (.slice (some ⟨b, 0, none⟩) 1 c) := blk_cell hf7 5
        go_still_tail 8, (by kernel_rfl)
        change wpList _ _ _ _ _ w7.drew
        go_wp2_with fail
        refine HC.out.mono ?_
        rintro en w8 ⟨⟨ret, rfl⟩, ho8, zs2, hb8, hzl2, hz2⟩
        have hf8 := (ho8.kept f (blk_lt hf7) hne).trans hf7
        have HO8 := Lib.hid (show Only w w8 (fun k => k = f ∨ k = b) from ho7.drew.trans (ho8.mono (fun _ _ h => .inr h)))
        rw [List.length_set] at hzl2
        clear ho8 hf7 hb7 c5 HC ho7
        have c5 : w8.cell? ⟨f, 5, none⟩ = some (.slice (some ⟨b, 0, none⟩) 1 c) := blk_cell hf8 5
        have x0 : w8.cell? ⟨b, 0, none⟩ = some (.int .u64 (r / 2)) := by rw [hb8.cell 0 (by omega), hz2]
        have g0 := blk_frozen hb8 0
        have hv : bits .andNot .u64 (r / 2 + 9223372036854775808) (L - 1) = 9223372036854775808 := HR.out.1.trans HR.out.2
        have hL1 := HH.out.2.1
        go_wp2_with fail
        go_end0
        unfold Rounded
        rw [HE2.out.1, HE2.out.2, if_neg hex, ← HI2.out]
        refine ⟨rfl, _, _, _, _, blk_far (show (w8.setCell ⟨b, 0, none⟩ (.int .u64 (r / 2 + 9223372036854775808))).heap[f]? = _ from blk_far hf8 (p := ⟨b, 0, none⟩) hne _) (p := ⟨b, 0, none⟩) hne _, (show Blk (w8.setCell ⟨b, 0, none⟩ (.int .u64 (r / 2 + 9223372036854775808))) b _ from hb8.set 0 (r / 2 + 9223372036854775808)).set 0 9223372036854775808, by simp; omega, ?_, (HO8.out.set (p := ⟨b, 0, none⟩) (.inr (.inr rfl)) _).set (p := ⟨b, 0, none⟩) (.inr (.inr rfl)) _, ?_, .inr (.inr ⟨rfl, HOV.out, rfl, rfl⟩)⟩
        · simp [List.getD, show 0 < zs2.length by omega]
        · rw [HN.out, ← HI2.out]
end Go.Proofs.YtlfmgdpbjapdjaaGreatFmtBesafter
