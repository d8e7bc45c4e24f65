/- Part 11 of the walk: RndQ Plain RndR RndS RndT RndU RndV RndW RndX RndY RndZ. -/
import Derived.Test.YtlfmgdpbjapdjaaGreatFmtBesafterPt10
import Derived.Laws.BitsAllLaws
import Derived.Laws.BitsLemmas
import Derived.RowKit
import Ieee.Arith
import Derived.Laws.FloatBits
namespace Go.Proofs.YtlfmgdpbjapdjaaGreatFmtBesafter
open Go.RowKit Go.Proofs.YtlfmgdpbjapdjaaGreatFmtBesafterW.PrintWords
theorem conv_infp (w : World) : (convert 55 59 (.float .f64 9218868437227405312)).run Tryz.prog w = .ok (.float .f32 2139095040) w := by kernel_rfl
theorem conv_infn (w : World) : (convert 55 59 (.float .f64 18442240474082181120)).run Tryz.prog w = .ok (.float .f32 4286578688) w := by kernel_rfl
set_option linter.unusedVariables false in
set_option linter.unusedSimpArgs false in
set_option maxRecDepth 100000 in
set_option maxHeartbeats 8000000 in
theorem float32_inf (x b c m  P : Nat) (ys : List Int) (E T rb sb : Int) (n : Bool) (w : World) (hx : w.heap[x]? = some (.cells (fl P 0 1 n (.slice (some ⟨b, 0, none⟩) m c) E) 119 (0, 0))) (hb : Blk w b ys) (hm : Mant ys m c) (hP : 64 ≤ P) (hP2 : P < 4294967296) (hT : ys.getD (m - 1) 0 = T) (hE1 : E ≤ 2000000000) (hE0 : -125 ≤ E)
    (hrb : T / 2 ^ (40 - 1) % 2 = rb) (hst : (Stk (fun i => ys.getD i 0) (m - 1) (40 - 1) ∧ sb = 0) ∨ (¬ Stk (fun i => ys.getD i 0) (m - 1) (40 - 1) ∧ sb = 1)) (hfin : ∀ a x e', RoundRel 24 40 T E rb sb n a x e' → 128 < e') :
    Calls Tryz.prog 75 #[.pointer (some ⟨x, 0, none⟩)] w fun en w' => en = .returned (.tuple #[.float .f32 (if n then 4286578688 else 2139095040), .int .i8 (if n then -1 else 1)]) ∧ Only w w' (fun _ => False) := by
  have x3 : w.cell? ⟨x, 3, none⟩ = some (.int .u8 1) := blk_cell hx 3
  have x4 : w.cell? ⟨x, 4, none⟩ = some (.bool n) := blk_cell hx 4
  have x6 : w.cell? ⟨x, 6, none⟩ = some (.int .i32 E) := blk_cell hx 6
  have w1 : IntKind.i32.wrap (E - 1) = E - 1 := by rw [IntKind.wrap_i32]; omega
  have d1 : decide (E - 1 < -126) = false := by rw [decide_eq_false_iff_not]; omega
  have hxl := blk_lt hx
  have HX := Lib.hid (And.intro hx (And.intro hb (And.intro hm (And.intro hT (And.intro hrb hst)))))
  have HF := Lib.hid hfin
  clear hx hb hm hT hrb hst hfin 
  go_enter Tryz.func75, Tryz.ntmps75
  have HO0 := Lib.hid (Only.refl w (fun _ => False))
  have hxd := HX.out.1
  have hbd := HX.out.2.1
  have HXD := Lib.hid (And.intro hxd hbd)
  clear hxd hbd
  go_upto_region 19 with (fail)
  go_wp2_with fail
  obtain ⟨_, _, hm, hT, hrb, hst⟩ := HX.out
  refine (set_any_flt w.heap.size x b c m 24 40 P ys E T rb sb n _ (heap_alloc_new w _) ((Below.heap_alloc _ _ x hxl).trans HXD.out.1) (((Only.refl w (fun _ => False)).alloc _).blk HXD.out.2 (fun h => h)) hm (by omega) rfl (by omega) (by omega) hP hP2 hT hrb hst (by omega) (by omega)).mono ?_
  rintro en w2 ⟨rfl, ⟨b', c', a, x', e', zs, hf2, hb2, hl2, y0, hbb, hrel⟩, ho2⟩
  have hfin := HF.out a x' e' hrel
  have hxx : w2.heap[x]? = some (.cells (fl P 0 1 n (.slice (some ⟨b, 0, none⟩) m c) E) 119 (0, 0)) := (ho2.kept x (by simp; omega) (by omega)).trans ((Below.heap_alloc _ _ x hxl).trans HXD.out.1)
  have hoA : Only w w2 (fun _ => False) := HO0.out.trans (((Only.refl w (fun _ => False)).alloc _).step ho2 (by rintro i hi rfl; omega))
  have HO := Lib.hid hoA
  have HREL := Lib.hid hrel
  have hr1 := RoundRel.range hrel
  have hTT : 9223372036854775808 ≤ T ∧ T < 18446744073709551616 := by rw [← hT]; exact ⟨hm.2.2.2.2.2.2, (hm.2.2.2.2.2.1 (m - 1) (by have := hm.1; omega)).2⟩
  have hw := RoundRel.word hrel (by omega) (by omega) hTT.1 hTT.2
  clear hoA ho2 hbb hm hT hrb hst x4 hrel HX HXD HF HO0
  generalize w.heap.size = r at *
  have x4 : w2.cell? ⟨x, 4, none⟩ = some (.bool n) := blk_cell hxx 4
  have r2 : w2.cell? ⟨r, 2, none⟩ = some (.int .i8 a) := blk_cell hf2 2
  have r3 : w2.cell? ⟨r, 3, none⟩ = some (.int .u8 1) := blk_cell hf2 3
  have r5 : w2.cell? ⟨r, 5, none⟩ = some (.slice (some ⟨b', 0, none⟩) 1 c') := blk_cell hf2 5
  have r6 : w2.cell? ⟨r, 6, none⟩ = some (.int .i32 e') := blk_cell hf2 6
  have HM := Lib.hid (fun W hb => msb_lit b' c' zs x' W hb hl2 y0)
  clear hf2 hxx
  have v1 : IntKind.i32.wrap (e' - 1) = e' - 1 := by rw [IntKind.wrap_i32]; omega
  have d5 : decide (127 < e' - 1) = true := by rw [decide_eq_true_eq]; omega
  have hcp := conv_infp
  have hcn := conv_infn
  cases n
  · go_wp2_with fail
    refine (inf_pos w2).mono ?_
    rintro en w' ⟨rfl, hw'⟩
    rw [hw']
    clear hw' w'
    go_wp2_with fail
    go_ret2
    exact ⟨rfl, HO.out⟩
  · go_wp2_with fail
    refine (inf_neg w2).mono ?_
    rintro en w' ⟨rfl, hw'⟩
    rw [hw']
    clear hw' w'
    go_wp2_with fail
    go_ret2
    exact ⟨rfl, HO.out⟩
theorem neg_nought32 (w : World) : (Op.unary .neg (.float .f32 0)).run Tryz.prog w = .ok (.float .f32 2147483648) w := by
  first | kernel_rfl | rfl
set_option linter.unusedSimpArgs false in
set_option maxRecDepth 100000 in
set_option maxHeartbeats 8000000 in
theorem float32_low (x b c m P : Nat) (E : Int) (n : Bool) (w : World) (hx : w.heap[x]? = some (.cells (fl P 0 1 n (.slice (some ⟨b, 0, none⟩) m c) E) 119 (0, 0))) (hE1 : E < -149) (hE0 : -2000000000 ≤ E) :
    Calls Tryz.prog 75 #[.pointer (some ⟨x, 0, none⟩)] w fun en w' => en = .returned (.tuple #[.float .f32 (if n then 2147483648 else 0), .int .i8 (if n then 1 else -1)]) ∧ Only w w' (fun _ => False) := by
  have x3 : w.cell? ⟨x, 3, none⟩ = some (.int .u8 1) := blk_cell hx 3
  have x4 : w.cell? ⟨x, 4, none⟩ = some (.bool n) := blk_cell hx 4
  have x6 : w.cell? ⟨x, 6, none⟩ = some (.int .i32 E) := blk_cell hx 6
  have w1 : IntKind.i32.wrap (E - 1) = E - 1 := by rw [IntKind.wrap_i32]; omega
  have d1 : decide (E - 1 < -126) = true := by rw [decide_eq_true_eq]; omega
  have w2 : IntKind.i64.wrap (E - 1) = E - 1 := by rw [IntKind.wrap_i64]; omega
  have w4 : IntKind.i64.wrap (150 + (E - 1)) = 150 + (E - 1) := by rw [IntKind.wrap_i64]; omega
  have d2 : decide (150 + (E - 1) < 0) = true := by rw [decide_eq_true_eq]; omega
  clear hx
  go_enter Tryz.func75, Tryz.ntmps75
  go_upto_region 8 with (fail)
  go_quiet (fail)
  have HO0 := Lib.hid ((Only.refl w (fun _ => False)).drewN nq)
  cases n
  · go_wp2_with fail
    go_ret2
    exact ⟨rfl, HO0.out⟩
  · have hng := neg_nought32
    go_wp2_with fail
    go_ret2
    exact ⟨rfl, HO0.out⟩
set_option linter.unusedSimpArgs false in
set_option maxRecDepth 100000 in
set_option maxHeartbeats 8000000 in
theorem float32_half (x b c m P : Nat) (ys : List Int) (E sb : Int) (n : Bool) (w : World) (hx : w.heap[x]? = some (.cells (fl P 0 1 n (.slice (some ⟨b, 0, none⟩) m c) E) 119 (0, 0))) (hb : Blk w b ys) (hm : Mant ys m c) (hE : E = -149) (hst : (Stk (fun i => ys.getD i 0) (m - 1) 63 ∧ sb = 0) ∨ (¬ Stk (fun i => ys.getD i 0) (m - 1) 63 ∧ sb = 1)) :
    Calls Tryz.prog 75 #[.pointer (some ⟨x, 0, none⟩)] w fun en w' => en = .returned (.tuple #[.float .f32 (if sb = 0 then (if n then 2147483648 else 0) else if n then 2147483649 else 1), .int .i8 (if sb = 0 then (if n then 1 else -1) else if n then -1 else 1)]) ∧ Only w w' (fun _ => False) := by
  obtain ⟨g0, g1, g2, g3, g4, g5, g6⟩ := hm
  have x3 : w.cell? ⟨x, 3, none⟩ = some (.int .u8 1) := blk_cell hx 3
  have x4 : w.cell? ⟨x, 4, none⟩ = some (.bool n) := blk_cell hx 4
  have x5 : w.cell? ⟨x, 5, none⟩ = some (.slice (some ⟨b, 0, none⟩) m c) := blk_cell hx 5
  have x6 : w.cell? ⟨x, 6, none⟩ = some (.int .i32 (-149)) := by rw [← hE]; exact blk_cell hx 6
  have m1 : IntKind.u64.wrap (m : Int) = m := by rw [IntKind.wrap_u64]; omega
  have m2 : IntKind.u64.wrap ((m : Int) * 64) = (m : Int) * 64 := by rw [IntKind.wrap_u64]; omega
  have m3 : (m : Int) * 64 - 1 = ((64 * (m - 1) + 63 : Nat) : Int) := by omega
  have m4 : IntKind.u64.wrap ((64 * (m - 1) + 63 : Nat) : Int) = ((64 * (m - 1) + 63 : Nat) : Int) := by rw [IntKind.wrap_u64]; omega
  have HST : Hid (∀ W, Blk W b ys → Calls Tryz.prog 98 #[.slice (some ⟨b, 0, none⟩) m c, .int .u64 ((64 * (m - 1) + 63 : Nat) : Int)] W fun e w' => e = .returned (.int .u64 sb) ∧ w' = W) := Lib.hid (fun W hb' => (sticky_at b m c (m - 1) 63 ys W hb' g2 (by omega) g3 (by omega) (by omega) g5).mono (by
    rintro e w' ⟨h1, h2⟩
    refine ⟨?_, h2⟩
    rcases h1 with h | h <;> rcases hst with g | g
    · rw [h.2, g.2]
    · exact absurd h.1 g.1
    · exact absurd g.1 h.1
    · rw [h.2, g.2]))
  have hs2 : sb = 0 ∨ sb = 1 := by rcases hst with h | h <;> omega
  generalize ((64 * (m - 1) + 63 : Nat) : Int) = R at *
  have HB := Lib.hid hb
  clear hx hb hst hE g5 g6
  have hng := neg_nought32
  rcases hs2 with rfl | rfl
  · go_enter Tryz.func75, Tryz.ntmps75
    go_upto_region 8 with (fail)
    go_quiet ((go_at_call 98; exact Calls.quiet_of_same (HST.out _ (by exact HB.out))))
    have HO0 := Lib.hid ((Only.refl w (fun _ => False)).drewN nq)
    cases n
    · go_wp2_with fail
      go_ret2
      exact ⟨rfl, HO0.out⟩
    · go_wp2_with fail
      go_ret2
      exact ⟨rfl, HO0.out⟩
  · go_enter Tryz.func75, Tryz.ntmps75
    go_upto_region 8 with (fail)
    go_quiet ((go_at_call 98; exact Calls.quiet_of_same (HST.out _ (by exact HB.out))))
    have HO0 := Lib.hid ((Only.refl w (fun _ => False)).drewN nq)
    cases n
    · go_wp2_with fail
      go_ret2
      exact ⟨rfl, HO0.out⟩
    · go_wp2_with fail
      go_ret2
      exact ⟨rfl, HO0.out⟩
end Go.Proofs.YtlfmgdpbjapdjaaGreatFmtBesafter
namespace Go.Proofs.YtlfmgdpbjapdjaaGreatFmtBesafter.Flt
open Go.RowKit
theorem ofInt_toNat (x : Int) : (BitVec.ofInt 64 x).toNat = (x % 18446744073709551616).toNat := by
  rw [BitVec.toNat_ofInt]; rfl
theorem i64_and_mask (x : Int) (j : Nat) (hj : j ≤ 63) (m : Int) (hm : m = 2 ^ j - 1) : bits .and .i64 x m = x % 2 ^ j := by
  have hp : (2 : Int) ^ j ≤ 2 ^ 63 := by
    have : (2 : Nat) ^ j ≤ 2 ^ 63 := Nat.pow_le_pow_right (by omega) hj
    exact_mod_cast this
  have h1 : (0 : Int) < 2 ^ j := by
    have : 0 < (2 : Nat) ^ j := Nat.two_pow_pos _
    exact_mod_cast this
  have hN : ((2 ^ j : Nat) : Int) = (2 : Int) ^ j := by norm_cast
  show IntKind.i64.wrap ((BitVec.ofInt 64 x &&& BitVec.ofInt 64 m).toNat : Int) = _
  have hy : (BitVec.ofInt 64 m).toNat = 2 ^ j - 1 := by
    rw [ofInt_toNat]; omega
  rw [BitVec.toNat_and, hy, Nat.and_two_pow_sub_one_eq_mod, ofInt_toNat, IntKind.wrap_i64]
  have hd : (2 : Int) ^ j ∣ 18446744073709551616 := by
    have : (2 : Int) ^ 64 = 2 ^ j * 2 ^ (64 - j) := by rw [← Int.pow_add]; congr 1; omega
    exact ⟨2 ^ (64 - j), this⟩
  have e : (((x % 18446744073709551616).toNat % 2 ^ j : Nat) : Int) = x % 2 ^ j := by
    rw [Int.natCast_emod, hN, Int.toNat_of_nonneg (by omega), Int.emod_emod_of_dvd _ hd]
  rw [e]
  have := Int.emod_nonneg x (show (2 : Int) ^ j ≠ 0 by omega)
  have := Int.emod_lt_of_pos x h1
  omega
theorem nat_xor_bit_lo (i x : Nat) (h : x < 2 ^ i) : x ^^^ 2 ^ i = x + 2 ^ i := by
  apply Nat.eq_of_testBit_eq
  intro j
  rw [Nat.testBit_xor, Nat.testBit_two_pow, Nat.add_comm x]
  rcases Nat.lt_trichotomy j i with hj | hj | hj
  · rw [Nat.testBit_two_pow_add_gt hj]
    have : ¬ i = j := by omega
    simp [this]
  · subst hj
    rw [Nat.testBit_two_pow_add_eq]
    simp [Nat.testBit_lt_two_pow h]
  · have h1 : x < 2 ^ j := Nat.lt_trans h (Nat.pow_lt_pow_right (by omega) hj)
    have h2 : 2 ^ i + x < 2 ^ j := by
      have : 2 ^ (i + 1) ≤ 2 ^ j := Nat.pow_le_pow_right (by omega) hj
      rw [Nat.pow_succ] at this
      omega
    have : ¬ i = j := by omega
    rw [Nat.testBit_lt_two_pow h1, Nat.testBit_lt_two_pow h2]
    simp [this]
theorem nat_xor_bit_hi (i x : Nat) (h : x < 2 ^ i) : (x + 2 ^ i) ^^^ 2 ^ i = x := by
  rw [← nat_xor_bit_lo i x h, Nat.xor_assoc, Nat.xor_self, Nat.xor_zero]
theorem nat_xor_bit (i x : Nat) (h : x < 2 ^ (i + 1)) : x ^^^ 2 ^ i = if x < 2 ^ i then x + 2 ^ i else x - 2 ^ i := by
  split
  · exact nat_xor_bit_lo i x (by assumption)
  · have e := nat_xor_bit_hi i (x - 2 ^ i) (by rw [Nat.pow_succ] at h; omega)
    rw [show x - 2 ^ i + 2 ^ i = x by omega] at e
    exact e
theorem nat_and_bit (i x : Nat) (h : x < 2 ^ (i + 1)) : x &&& 2 ^ i = if x < 2 ^ i then 0 else 2 ^ i := by
  rw [nat_bit]
  split
  · rw [Nat.div_eq_of_lt (by assumption)]; simp
  · have : x / 2 ^ i = 1 := by
      rw [Nat.pow_succ] at h
      exact Nat.div_eq_of_lt_le (by omega) (by omega)
    rw [this]; simp
theorem i64_sign : (BitVec.ofInt 64 (-9223372036854775808)).toNat = 2 ^ 63 := by decide
theorem i64_sign32 : (BitVec.ofInt 64 2147483648).toNat = 2 ^ 31 := by decide
theorem i64_lt (x : Int) : (x % 18446744073709551616).toNat < 2 ^ (63 + 1) := by omega
section
variable (x : Int) (h0 : -9223372036854775808 ≤ x) (h1 : x < 9223372036854775808)
include h0 h1
theorem i64_and_sign : bits .and .i64 x (-9223372036854775808) = if x < 0 then -9223372036854775808 else 0 := by
  show IntKind.i64.wrap ((BitVec.ofInt 64 x &&& BitVec.ofInt 64 (-9223372036854775808)).toNat : Int) = _
  rw [BitVec.toNat_and, i64_sign, ofInt_toNat, nat_and_bit 63 _ (i64_lt x), IntKind.wrap_i64]
  split <;> split <;> omega
theorem i64_xor_sign : bits .xor .i64 x (-9223372036854775808) = if x < 0 then x + 9223372036854775808 else x - 9223372036854775808 := by
  show IntKind.i64.wrap ((BitVec.ofInt 64 x ^^^ BitVec.ofInt 64 (-9223372036854775808)).toNat : Int) = _
  rw [BitVec.toNat_xor, i64_sign, ofInt_toNat, nat_xor_bit 63 _ (i64_lt x), IntKind.wrap_i64]
  split <;> split <;> omega
end
section
variable (x : Int) (h0 : 0 ≤ x) (h1 : x < 4294967296)
include h0 h1
theorem i64_and_sign32 : bits .and .i64 x 2147483648 = if 2147483648 ≤ x then 2147483648 else 0 := by
  show IntKind.i64.wrap ((BitVec.ofInt 64 x &&& BitVec.ofInt 64 2147483648).toNat : Int) = _
  rw [BitVec.toNat_and, i64_sign32, ofInt_toNat, nat_and_bit 31 _ (by omega), IntKind.wrap_i64]
  split <;> split <;> omega
theorem i64_xor_sign32 : bits .xor .i64 x 2147483648 = if 2147483648 ≤ x then x - 2147483648 else x + 2147483648 := by
  show IntKind.i64.wrap ((BitVec.ofInt 64 x ^^^ BitVec.ofInt 64 2147483648).toNat : Int) = _
  rw [BitVec.toNat_xor, i64_sign32, ofInt_toNat, nat_xor_bit 31 _ (by omega), IntKind.wrap_i64]
  split <;> split <;> omega
end
theorem i64_or_bit (x : Int) (j : Nat) (hj : j ≤ 62) (h0 : 0 ≤ x) (h1 : x < 2 ^ j) (m : Int) (hm : m = 2 ^ j) : bits .or .i64 x m = x + m := by
  have hp : (2 : Nat) ^ j ≤ 2 ^ 62 := Nat.pow_le_pow_right (by omega) hj
  have hN : ((2 ^ j : Nat) : Int) = (2 : Int) ^ j := by norm_cast
  show IntKind.i64.wrap ((BitVec.ofInt 64 x ||| BitVec.ofInt 64 m).toNat : Int) = _
  rw [BitVec.toNat_or, ofInt_toNat, ofInt_toNat]
  have e1 : (m % 18446744073709551616).toNat = 2 ^ j := by omega
  rw [e1, Nat.or_comm, nat_join j _ _ (Nat.mod_self _) (by omega), IntKind.wrap_i64]
  omega
end Go.Proofs.YtlfmgdpbjapdjaaGreatFmtBesafter.Flt
namespace Go.Proofs.YtlfmgdpbjapdjaaGreatFmtBesafter.Flt
open Ieee
def val (B r : Nat) : Nat := if r < B then r else (B + r % B) * 2 ^ (r / B - 1)
theorem val_lt_of_lt {B r s : Nat} (hB : 0 < B) (h : r < s) : val B r < val B s := by
  unfold val
  by_cases hr : r < B
  · rw [if_pos hr]
    by_cases hs : s < B
    · rw [if_pos hs]; exact h
    · rw [if_neg hs]
      have : 0 < 2 ^ (s / B - 1) := Nat.two_pow_pos _
      have h1 : B ≤ (B + s % B) * 2 ^ (s / B - 1) := by
        calc B ≤ B + s % B := Nat.le_add_right _ _
          _ = (B + s % B) * 1 := (Nat.mul_one _).symm
          _ ≤ _ := Nat.mul_le_mul_left _ this
      omega
  · have hs : ¬ s < B := by omega
    rw [if_neg hr, if_neg hs]
    have hrq : 1 ≤ r / B := by
      rw [Nat.le_div_iff_mul_le hB]; omega
    have hle : r / B ≤ s / B := Nat.div_le_div_right (Nat.le_of_lt h)
    have hmr := Nat.mod_lt r hB
    have hmod := Nat.div_add_mod r B
    have hmods := Nat.div_add_mod s B
    rcases Nat.lt_or_ge (r / B) (s / B) with hq | hq
    · have e : s / B - 1 = (r / B - 1) + 1 + (s / B - r / B - 1) := by omega
      have h2 : 2 ^ (s / B - 1) = 2 ^ (r / B - 1) * 2 * 2 ^ (s / B - r / B - 1) := by rw [e, Nat.pow_add, Nat.pow_succ]
      have h3 : 0 < 2 ^ (s / B - r / B - 1) := Nat.two_pow_pos _
      have h4 : 0 < 2 ^ (r / B - 1) := Nat.two_pow_pos _
      calc (B + r % B) * 2 ^ (r / B - 1) < (B + B) * 2 ^ (r / B - 1) := Nat.mul_lt_mul_of_pos_right (by omega) h4
        _ = B * (2 ^ (r / B - 1) * 2) := by rw [← Nat.two_mul, Nat.mul_comm 2 B, Nat.mul_assoc, Nat.mul_comm 2]
        _ ≤ (B + s % B) * (2 ^ (r / B - 1) * 2) := Nat.mul_le_mul_right _ (Nat.le_add_right _ _)
        _ = (B + s % B) * (2 ^ (r / B - 1) * 2) * 1 := (Nat.mul_one _).symm
        _ ≤ (B + s % B) * (2 ^ (r / B - 1) * 2) * 2 ^ (s / B - r / B - 1) := Nat.mul_le_mul_left _ h3
        _ = _ := by rw [h2, Nat.mul_assoc]
    · have heq : r / B = s / B := by omega
      have : r % B < s % B := by
        rw [← heq] at hmods
        omega
      rw [heq]
      exact Nat.mul_lt_mul_of_pos_right (by omega) (Nat.two_pow_pos _)
theorem val_le_iff {B r s : Nat} (hB : 0 < B) : val B r ≤ val B s ↔ r ≤ s := by
  constructor
  · intro h
    rcases Nat.lt_or_ge s r with h1 | h1
    · have := val_lt_of_lt hB h1; omega
    · exact h1
  · intro h
    rcases Nat.lt_or_ge r s with h1 | h1
    · exact Nat.le_of_lt (val_lt_of_lt hB h1)
    · have : r = s := by omega
      rw [this]; exact Nat.le_refl _
theorem val_inj {B r s : Nat} (hB : 0 < B) (h : val B r = val B s) : r = s := by
  have h1 := (val_le_iff (r := r) (s := s) hB).1 (by omega)
  have h2 := (val_le_iff (r := s) (s := r) hB).1 (by omega)
  omega
def srung (f : Format) (n : Nat) : Int := if n / f.signWeight % 2 == 1 then -((n % f.signWeight : Nat) : Int) else ((n % f.signWeight : Nat) : Int)
def isNaN (f : Format) (n : Nat) : Bool := decide (f.infRung < n % f.signWeight)
def sv (f : Format) (n : Nat) : Int := if n / f.signWeight % 2 == 1 then -((val f.binade (n % f.signWeight) : Nat) : Int) else ((val f.binade (n % f.signWeight) : Nat) : Int)
theorem binade_pos (f : Format) : 0 < f.binade := Nat.two_pow_pos _
theorem compare_int (a b : Int) : compare a b = if a < b then .lt else if a = b then .eq else .gt := rfl
theorem compare_sv (f : Format) (x y : Nat) : compare (sv f x) (sv f y) = compare (srung f x) (srung f y) := by
  have hB := binade_pos f
  have hl := fun r s => val_le_iff (B := f.binade) (r := r) (s := s) hB
  have h0 : val f.binade 0 = 0 := by unfold val; rw [if_pos hB]
  unfold sv srung
  generalize x % f.signWeight = r
  generalize y % f.signWeight = s
  have h1 := hl r s
  have h2 := hl s r
  have h3 := hl r 0
  have h4 := hl s 0
  rw [h0] at h3 h4
  rw [compare_int, compare_int]
  split <;> split
  all_goals
    repeat' split
    all_goals first | rfl | (exfalso; omega)
theorem compare_mul (a b c : Int) (hc : 0 < c) : compare (a * c) (b * c) = compare a b := by
  rw [compare_int, compare_int]
  by_cases h : a < b
  · rw [if_pos h, if_pos (Int.mul_lt_mul_of_pos_right h hc)]
  · by_cases e : a = b
    · subst e; rw [if_neg (by omega), if_pos rfl, if_neg h, if_pos rfl]
    · have hgt : b < a := by omega
      have hh := Int.mul_lt_mul_of_pos_right hgt hc
      rw [if_neg (by omega), if_neg (by omega), if_neg h, if_neg e]
theorem signed_eq (neg : Bool) (m k : Nat) : signed neg m k = if neg then -((m * 2 ^ k : Nat) : Int) else ((m * 2 ^ k : Nat) : Int) := by
  unfold signed; rw [Nat.shiftLeft_eq]
theorem compare_signed (s t : Bool) (m n a b : Nat) (L : Int) :
    compare (signed s m (L + a - min (L + a) (L + b)).toNat) (signed t n (L + b - min (L + a) (L + b)).toNat) = compare (signed s m a) (signed t n b) := by
  have ha : (L + a - min (L + a) (L + b)).toNat = a - min a b := by omega
  have hb : (L + b - min (L + a) (L + b)).toNat = b - min a b := by omega
  rw [ha, hb]
  have hc : (0 : Int) < ((2 ^ min a b : Nat) : Int) := by
    have := Nat.two_pow_pos (min a b); omega
  rw [← compare_mul _ _ _ hc]
  have key : ∀ (s : Bool) (m a k : Nat), k ≤ a → signed s m (a - k) * ((2 ^ k : Nat) : Int) = signed s m a := by
    intro s m a k hk
    rw [signed_eq, signed_eq]
    have e : m * 2 ^ (a - k) * 2 ^ k = m * 2 ^ a := by rw [Nat.mul_assoc, ← Nat.pow_add, Nat.sub_add_cancel hk]
    split
    · rw [Int.neg_mul, ← Int.natCast_mul, e]
    · rw [← Int.natCast_mul, e]
  rw [key s m a _ (Nat.min_le_left _ _), key t n b _ (Nat.min_le_right _ _)]
def Ok (f : Format) : Prop := f.binade ≤ f.infRung ∧ f.infRung % f.binade = 0 ∧ f.infRung < f.signWeight
theorem ok_double : Ok double := by unfold Ok; decide
theorem ok_single : Ok single := by unfold Ok; decide
def mg (f : Format) (r : Nat) : Nat := if r < f.binade then r else f.binade + r % f.binade
def ex (f : Format) (r : Nat) : Nat := r / f.binade - 1
theorem val_eq (f : Format) (r : Nat) : val f.binade r = mg f r * 2 ^ ex f r := by
  unfold val mg ex
  split
  · rename_i h
    rw [Nat.div_eq_of_lt h]; simp
  · rfl
theorem read_eq (f : Format) (hf : Ok f) (n : Nat) : f.read n =
    if n % f.signWeight < f.infRung then .number (n / f.signWeight % 2 == 1) (mg f (n % f.signWeight)) (f.leastPlace + (ex f (n % f.signWeight) : Nat))
    else if n % f.signWeight = f.infRung then .infinity (n / f.signWeight % 2 == 1) else .nan (n / f.signWeight % 2 == 1) (n % f.signWeight - f.infRung) := by
  obtain ⟨h0, _⟩ := hf
  unfold Format.read
  dsimp only
  generalize n % f.signWeight = r
  generalize (n / f.signWeight % 2 == 1) = s
  unfold mg ex
  by_cases h1 : r < f.binade
  · rw [if_pos h1, if_pos h1, Nat.div_eq_of_lt h1, if_pos (by omega)]
    simp
  · rw [if_neg h1, if_neg h1]
theorem signed_sv (f : Format) (n : Nat) : signed (n / f.signWeight % 2 == 1) (mg f (n % f.signWeight)) (ex f (n % f.signWeight)) = sv f n := by
  rw [signed_eq, ← val_eq]; rfl
theorem order_eq (f : Format) (hf : Ok f) (x y : Nat) : f.order x y = if isNaN f x || isNaN f y then none else some (compare (srung f x) (srung f y)) := by
  have hfin : ∀ n, n % f.signWeight < f.infRung → isNaN f n = false := fun n h => by unfold isNaN; simp; omega
  have hinf : ∀ n, n % f.signWeight = f.infRung → isNaN f n = false := fun n h => by unfold isNaN; simp; omega
  have hnan : ∀ n, ¬ n % f.signWeight < f.infRung → ¬ n % f.signWeight = f.infRung → isNaN f n = true := fun n h h' => by unfold isNaN; simp; omega
  unfold Format.order
  rw [read_eq f hf x, read_eq f hf y]
  by_cases hx : x % f.signWeight < f.infRung
  · rw [if_pos hx, hfin x hx]
    by_cases hy : y % f.signWeight < f.infRung
    · rw [if_pos hy, hfin y hy]
      simp only [Datum.order, Bool.or_self, Bool.false_eq_true, if_false]
      rw [compare_signed, signed_sv, signed_sv, compare_sv]
    · rw [if_neg hy]
      by_cases hy' : y % f.signWeight = f.infRung
      · rw [if_pos hy', hinf y hy']
        simp only [Datum.order, Bool.or_self, Bool.false_eq_true, if_false]
        rw [compare_int]
        unfold srung
        rw [hy']
        cases (y / f.signWeight % 2 == 1) <;> cases (x / f.signWeight % 2 == 1) <;> simp only [Bool.false_eq_true, if_true, if_false] <;> congr 1 <;> (repeat' split) <;> first | rfl | (exfalso; omega)
      · rw [if_neg hy', hnan y hy hy']
        simp [Datum.order]
  · rw [if_neg hx]
    by_cases hx' : x % f.signWeight = f.infRung
    · rw [if_pos hx', hinf x hx']
      by_cases hy : y % f.signWeight < f.infRung
      · rw [if_pos hy, hfin y hy]
        simp only [Datum.order, Bool.or_self, Bool.false_eq_true, if_false]
        rw [compare_int]
        unfold srung
        rw [hx']
        cases (y / f.signWeight % 2 == 1) <;> cases (x / f.signWeight % 2 == 1) <;> simp only [Bool.false_eq_true, if_true, if_false] <;> congr 1 <;> (repeat' split) <;> first | rfl | (exfalso; omega)
      · rw [if_neg hy]
        by_cases hy' : y % f.signWeight = f.infRung
        · rw [if_pos hy', hinf y hy']
          simp only [Datum.order, Bool.or_self, Bool.false_eq_true, if_false]
          have hp : 0 < f.infRung := by have := binade_pos f; have := hf.1; omega
          rw [compare_int]
          unfold srung
          rw [hx', hy']
          cases (y / f.signWeight % 2 == 1) <;> cases (x / f.signWeight % 2 == 1) <;> simp only [Bool.false_eq_true, if_true, if_false] <;> congr 1 <;> (repeat' split) <;> first | rfl | (exfalso; omega)
        · rw [if_neg hy', hnan y hy hy']
          simp [Datum.order]
    · rw [if_neg hx', hnan x hx hx']
      simp [Datum.order]
end Go.Proofs.YtlfmgdpbjapdjaaGreatFmtBesafter.Flt
namespace Go.Proofs.YtlfmgdpbjapdjaaGreatFmtBesafter.Flt
open Ieee
def I64 (b : Int) : Prop := -9223372036854775808 ≤ b ∧ b < 9223372036854775808
def valid32 (b : Int) : Bool := decide (0 ≤ b) && decide (b < 4294967296)
def cls64 (b : Int) : Int := if b / 4503599627370496 % 2048 = 2047 then (if b % 4503599627370496 = 0 then 3 else 4) else if b / 4503599627370496 % 2048 = 0 then (if b % 4503599627370496 = 0 then 0 else 1) else 2
def cls32 (b : Int) : Int := if valid32 b = true then (if b / 8388608 % 256 = 255 then (if b % 8388608 = 0 then 3 else 4) else if b / 8388608 % 256 = 0 then (if b % 8388608 = 0 then 0 else 1) else 2) else 4
def cls (b w : Int) : Int := if w = 64 then cls64 b else if w = 32 then cls32 b else 0
def sr64 (b : Int) : Int := if b < 0 then -(b + 9223372036854775808) else b
def sr32 (b : Int) : Int := if 2147483648 ≤ b then -(b - 2147483648) else b
def w64 (b : Int) : Nat := (b % 18446744073709551616).toNat
def w32 (b : Int) : Nat := if valid32 b = true then b.toNat else 2143289345
theorem dfields : double.signWeight = 9223372036854775808 ∧ double.infRung = 9218868437227405312 ∧ double.binade = 4503599627370496 := by decide
theorem sfields : single.signWeight = 2147483648 ∧ single.infRung = 2139095040 ∧ single.binade = 8388608 := by decide
theorem w64_nan (b : Int) (h : I64 b) : isNaN double (w64 b) = decide (cls64 b = 4) := by
  obtain ⟨h0, h1⟩ := h
  unfold isNaN w64 cls64
  rw [dfields.1, dfields.2.1]
  rw [decide_eq_decide]
  have e : (b % 18446744073709551616).toNat % 9223372036854775808 = (b % 9223372036854775808).toNat := by omega
  rw [e]
  constructor
  · intro h
    rw [if_pos (by omega), if_neg (by omega)]
  · intro h
    by_cases c : b / 4503599627370496 % 2048 = 2047
    · rw [if_pos c] at h
      by_cases c2 : b % 4503599627370496 = 0
      · rw [if_pos c2] at h; omega
      · omega
    · rw [if_neg c] at h
      split at h
      · split at h <;> omega
      · omega
theorem w64_srung (b : Int) (h : I64 b) : srung double (w64 b) = sr64 b := by
  obtain ⟨h0, h1⟩ := h
  unfold srung w64 sr64
  rw [dfields.1]
  by_cases c : b < 0
  · have e : ((b % 18446744073709551616).toNat / 9223372036854775808 % 2 == 1) = true := by simp only [beq_iff_eq]; omega
    rw [e, if_pos rfl, if_pos c]; omega
  · have e : ((b % 18446744073709551616).toNat / 9223372036854775808 % 2 == 1) = false := by rw [beq_eq_false_iff_ne]; omega
    rw [e, if_neg (by decide), if_neg c]; omega
theorem w32_lt (b : Int) : w32 b < 4294967296 := by
  unfold w32 valid32
  split
  · rename_i h; simp at h; omega
  · omega
theorem w32_nan (b : Int) : isNaN single (w32 b) = decide (cls32 b = 4) := by
  unfold isNaN w32 cls32
  rw [sfields.1, sfields.2.1, decide_eq_decide]
  by_cases hv : valid32 b = true
  · rw [if_pos hv, if_pos hv]
    have hv' : 0 ≤ b ∧ b < 4294967296 := by unfold valid32 at hv; simpa using hv
    constructor
    · intro h
      rw [if_pos (by omega), if_neg (by omega)]
    · intro h
      by_cases c : b / 8388608 % 256 = 255
      · rw [if_pos c] at h
        by_cases c2 : b % 8388608 = 0
        · rw [if_pos c2] at h; omega
        · omega
      · rw [if_neg c] at h
        split at h
        · split at h <;> omega
        · omega
  · rw [if_neg hv, if_neg hv]; decide
theorem w32_srung (b : Int) (h : valid32 b = true) : srung single (w32 b) = sr32 b := by
  unfold srung w32 sr32
  rw [sfields.1, if_pos h]
  unfold valid32 at h
  simp at h
  by_cases c : 2147483648 ≤ b
  · have e : (b.toNat / 2147483648 % 2 == 1) = true := by simp only [beq_iff_eq]; omega
    rw [e, if_pos rfl, if_pos c]; omega
  · have e : (b.toNat / 2147483648 % 2 == 1) = false := by rw [beq_eq_false_iff_ne]; omega
    rw [e, if_neg (by decide), if_neg c]; omega
theorem order_self (f : Format) (hf : Ok f) (n : Nat) : (f.order n n != some .eq) = isNaN f n := by
  rw [order_eq f hf]
  cases h : isNaN f n
  · simp
  · simp
end Go.Proofs.YtlfmgdpbjapdjaaGreatFmtBesafter.Flt
namespace Go.Proofs.YtlfmgdpbjapdjaaGreatFmtBesafter.Flt
open Ieee
theorem log2_mul_pow (m k : Nat) (hm : m ≠ 0) : (m * 2 ^ k).log2 = m.log2 + k := by
  induction k with
  | zero => simp
  | succ k ih =>
    have h0 : m * 2 ^ k ≠ 0 := Nat.mul_ne_zero hm (Nat.ne_of_gt (Nat.two_pow_pos _))
    rw [Nat.pow_succ, ← Nat.mul_assoc, Nat.mul_comm _ 2, Nat.log2_two_mul h0, ih, Nat.add_assoc]
theorem cut_eq (neg : Bool) (n d : Nat) : Toward.even.cut neg n d =
    n / 2 ^ min d (n.log2 + 2) + (decide (2 ^ min d (n.log2 + 2) < 2 * (n % 2 ^ min d (n.log2 + 2))) || (2 ^ min d (n.log2 + 2) == 2 * (n % 2 ^ min d (n.log2 + 2)) && n / 2 ^ min d (n.log2 + 2) % 2 == 1)).toNat := by
  unfold Toward.cut
  simp only [Nat.shiftLeft_eq, Nat.one_mul]
theorem cut_zero (neg : Bool) (n : Nat) : Toward.even.cut neg n 0 = n := by
  rw [cut_eq]
  simp [Nat.mod_one]
theorem cut_shift (neg : Bool) (n d j : Nat) (hn : n ≠ 0) : Toward.even.cut neg (n * 2 ^ j) (d + j) = Toward.even.cut neg n d := by
  rw [cut_eq, cut_eq, log2_mul_pow n j hn]
  have e : min (d + j) (n.log2 + j + 2) = min d (n.log2 + 2) + j := by omega
  rw [e]
  generalize min d (n.log2 + 2) = g
  have hj := Nat.two_pow_pos j
  rw [Nat.pow_add, Nat.mul_div_mul_right _ _ hj, Nat.mul_mod_mul_right, ← Nat.mul_assoc 2]
  have e1 : decide (2 ^ g * 2 ^ j < 2 * (n % 2 ^ g) * 2 ^ j) = decide (2 ^ g < 2 * (n % 2 ^ g)) := by
    rw [decide_eq_decide]; exact Nat.mul_lt_mul_right hj
  have e2 : (2 ^ g * 2 ^ j == 2 * (n % 2 ^ g) * 2 ^ j) = (2 ^ g == 2 * (n % 2 ^ g)) := by
    rw [Bool.eq_iff_iff, beq_iff_eq, beq_iff_eq]
    exact ⟨fun h => Nat.eq_of_mul_eq_mul_right hj h, fun h => congrArg (· * 2 ^ j) h⟩
  rw [e1, e2]
theorem nearest_shift (f : Format) (neg : Bool) (m k : Nat) (place : Int) : f.nearest neg (m * 2 ^ k) place = f.nearest neg m (place + k) := by
  unfold Format.nearest
  by_cases hm : m = 0
  · subst hm; simp
  have h0 : m * 2 ^ k ≠ 0 := Nat.mul_ne_zero hm (Nat.ne_of_gt (Nat.two_pow_pos _))
  rw [if_neg h0, if_neg hm, log2_mul_pow m k hm]
  have e : place + ((m.log2 + k : Nat) : Int) - f.fractionBits = place + k + (m.log2 : Int) - f.fractionBits := by omega
  rw [e]
  generalize max (place + k + (m.log2 : Int) - f.fractionBits) f.leastPlace = last
  have key : Toward.even.cut neg ((m * 2 ^ k) <<< (place - last).toNat) (last - place).toNat = Toward.even.cut neg (m <<< (place + k - last).toNat) (last - (place + k)).toNat := by
    rw [Nat.shiftLeft_eq, Nat.shiftLeft_eq]
    by_cases h1 : last ≤ place
    · rw [show (last - place).toNat = 0 by omega, show (last - (place + k)).toNat = 0 by omega, cut_zero, cut_zero, Nat.mul_assoc, ← Nat.pow_add]
      congr 2; omega
    · by_cases h2 : last ≤ place + k
      · rw [show (last - (place + k)).toNat = 0 by omega, show (place - last).toNat = 0 by omega, cut_zero, Nat.pow_zero, Nat.mul_one]
        have e3 : m * 2 ^ k = m * 2 ^ (place + k - last).toNat * 2 ^ (last - place).toNat := by
          rw [Nat.mul_assoc, ← Nat.pow_add]; congr 2; omega
        have h3 : m * 2 ^ (place + k - last).toNat ≠ 0 := Nat.mul_ne_zero hm (Nat.ne_of_gt (Nat.two_pow_pos _))
        rw [e3]
        have := cut_shift neg (m * 2 ^ (place + k - last).toNat) 0 (last - place).toNat h3
        rw [Nat.zero_add] at this
        rw [this, cut_zero]
      · rw [show (place - last).toNat = 0 by omega, show (place + k - last).toNat = 0 by omega, Nat.pow_zero, Nat.mul_one, Nat.mul_one]
        have e4 : (last - place).toNat = (last - (place + k)).toNat + k := by omega
        rw [e4, cut_shift neg m _ k hm]
  dsimp only
  rw [key]
theorem nearest_rung (f : Format) (neg : Bool) (r : Nat) (hr : r < f.infRung) : f.nearest neg (mg f r) (f.leastPlace + (ex f r : Nat)) = f.word neg r := by
  have hB := binade_pos f
  unfold Format.nearest
  by_cases hm : mg f r = 0
  · rw [if_pos hm]
    have : r = 0 := by
      unfold mg at hm
      split at hm <;> omega
    rw [this]
  rw [if_neg hm]
  have hBdef : f.binade = 2 ^ f.fractionBits := rfl
  by_cases h1 : r < f.binade
  · have hmr : mg f r = r := by unfold mg; rw [if_pos h1]
    have hex : ex f r = 0 := by unfold ex; rw [Nat.div_eq_of_lt h1]
    rw [hmr] at hm
    rw [hmr, hex]
    have hlog : r.log2 < f.fractionBits := by rw [Nat.log2_lt hm, ← hBdef]; exact h1
    have e : max (f.leastPlace + ((0 : Nat) : Int) + (r.log2 : Int) - f.fractionBits) f.leastPlace = f.leastPlace := by omega
    rw [e]
    simp only [Int.natCast_zero, Int.add_zero, Int.sub_self, Int.toNat_zero, Nat.shiftLeft_zero, cut_zero, Nat.zero_mul, Nat.zero_add]
    rw [Nat.min_eq_left (Nat.le_of_lt hr)]
  · have hmr : mg f r = f.binade + r % f.binade := by unfold mg; rw [if_neg h1]
    have hmod := Nat.mod_lt r hB
    have hlog : (mg f r).log2 = f.fractionBits := by
      rw [hmr, Nat.log2_eq_iff (by omega), Nat.pow_succ, ← hBdef]
      omega
    have hq : 1 ≤ r / f.binade := by rw [Nat.le_div_iff_mul_le hB]; omega
    rw [hlog]
    have e : max (f.leastPlace + (ex f r : Int) + (f.fractionBits : Int) - f.fractionBits) f.leastPlace = f.leastPlace + (ex f r : Int) := by omega
    rw [e]
    simp only [Int.sub_self, Int.toNat_zero, Nat.shiftLeft_zero, cut_zero]
    have e2 : (f.leastPlace + (ex f r : Int) - f.leastPlace).toNat = ex f r := by omega
    rw [e2, hmr]
    have e3 : ex f r * f.binade + (f.binade + r % f.binade) = r := by
      unfold ex
      have hdm := Nat.div_add_mod r f.binade
      have : (r / f.binade - 1) * f.binade + f.binade = f.binade * (r / f.binade) := by
        rw [← Nat.succ_mul, Nat.succ_eq_add_one, Nat.sub_add_cancel hq, Nat.mul_comm]
      omega
    rw [e3, Nat.min_eq_left (Nat.le_of_lt hr)]
theorem nearest_exact (f : Format) (neg : Bool) (m : Nat) (place : Int) (r : Nat) (hr : r < f.infRung) (hp : f.leastPlace ≤ place) (h : m * 2 ^ (place - f.leastPlace).toNat = val f.binade r) :
    f.nearest neg m place = f.word neg r := by
  have h1 := nearest_shift f neg m (place - f.leastPlace).toNat f.leastPlace
  have h2 := nearest_shift f neg (mg f r) (ex f r) f.leastPlace
  rw [← val_eq] at h2
  rw [h, h2, nearest_rung f neg r hr] at h1
  rw [h1]
  congr 1; omega
theorem rung_of (f : Format) (e : Nat) : ∀ m : Nat, m < 2 * f.binade → ∃ r, val f.binade r = m * 2 ^ e := by
  have hB := binade_pos f
  have top : ∀ e m : Nat, f.binade ≤ m → m < 2 * f.binade → val f.binade ((e + 1) * f.binade + (m - f.binade)) = m * 2 ^ e := by
    intro e m h1 h2
    unfold val
    have hd : ((e + 1) * f.binade + (m - f.binade)) / f.binade = e + 1 := by
      rw [Nat.mul_comm, Nat.mul_add_div hB, Nat.div_eq_of_lt (by omega), Nat.add_zero]
    have hmod : ((e + 1) * f.binade + (m - f.binade)) % f.binade = m - f.binade := by
      rw [Nat.mul_comm, Nat.mul_add_mod, Nat.mod_eq_of_lt (by omega)]
    have hge : ¬ ((e + 1) * f.binade + (m - f.binade)) < f.binade := by
      have : f.binade ≤ (e + 1) * f.binade := Nat.le_mul_of_pos_left _ (by omega)
      omega
    rw [if_neg hge, hd, hmod]
    congr 1; omega
  induction e with
  | zero =>
    intro m hm
    by_cases h : m < f.binade
    · exact ⟨m, by unfold val; rw [if_pos h]; simp⟩
    · exact ⟨_, top 0 m (by omega) hm⟩
  | succ e ih =>
    intro m hm
    by_cases h : m < f.binade
    · obtain ⟨r, hr⟩ := ih (2 * m) (by omega)
      exact ⟨r, by rw [hr, Nat.pow_succ, Nat.mul_comm 2 m, Nat.mul_assoc, Nat.mul_comm 2]⟩
    · exact ⟨_, top (e + 1) m (by omega) hm⟩
end Go.Proofs.YtlfmgdpbjapdjaaGreatFmtBesafter.Flt
namespace Go.Proofs.YtlfmgdpbjapdjaaGreatFmtBesafter.Flt
open Ieee
theorem dplace : double.leastPlace = -1074 := by decide
theorem splace : single.leastPlace = -149 := by decide
def wide (n : Nat) : Nat := double.write (single.read n)
theorem word_mod (f : Format) (neg : Bool) (r : Nat) (hr : r < f.signWeight) : f.word neg r % f.signWeight = r ∧ (f.word neg r / f.signWeight % 2 == 1) = neg := by
  unfold Format.word
  cases neg
  · rw [if_neg (by decide), Nat.mod_eq_of_lt hr, Nat.div_eq_of_lt hr]; exact ⟨rfl, rfl⟩
  · rw [if_pos rfl, Nat.add_mod_left, Nat.mod_eq_of_lt hr, Nat.add_div_left _ (by omega), Nat.div_eq_of_lt hr]; exact ⟨rfl, rfl⟩
def gapW : Nat := 925
def topD : Nat := 2046
def topS : Nat := 254
theorem gapW_eq : (gapW : Int) = 925 := rfl
theorem val_inf (f : Format) (hf : Ok f) (e : Nat) (he : f.infRung / f.binade - 1 = e) : val f.binade f.infRung = 2 ^ f.fractionBits * 2 ^ e := by
  unfold val
  rw [if_neg (by have := hf.1; omega), hf.2.1, he, Nat.add_zero]; rfl
theorem val_single_lt (r : Nat) (hr : r < single.infRung) : val single.binade r * 2 ^ gapW < val double.binade double.infRung := by
  have h := val_lt_of_lt (B := single.binade) (binade_pos _) hr
  rw [val_inf single ok_single topS (by decide), ← Nat.pow_add] at h
  rw [val_inf double ok_double topD (by decide), ← Nat.pow_add]
  calc val single.binade r * 2 ^ gapW < 2 ^ (single.fractionBits + topS) * 2 ^ gapW := Nat.mul_lt_mul_of_pos_right h (Nat.two_pow_pos _)
    _ = 2 ^ (single.fractionBits + topS + gapW) := by rw [← Nat.pow_add]
    _ ≤ 2 ^ (double.fractionBits + topD) := Nat.pow_le_pow_right (by omega) (by decide)
theorem wide_fin (n : Nat) (h : n % single.signWeight < single.infRung) : ∃ R, R < double.infRung ∧ val double.binade R = val single.binade (n % single.signWeight) * 2 ^ gapW ∧ wide n = double.word (n / single.signWeight % 2 == 1) R := by
  have hm : mg single (n % single.signWeight) < 2 * double.binade := by
    have hB : single.binade ≤ double.binade := by decide
    unfold mg
    split
    · omega
    · have := Nat.mod_lt (n % single.signWeight) (binade_pos single)
      omega
  obtain ⟨R, hR⟩ := rung_of double (ex single (n % single.signWeight) + gapW) (mg single (n % single.signWeight)) hm
  have hv : val double.binade R = val single.binade (n % single.signWeight) * 2 ^ gapW := by rw [hR, val_eq, Nat.mul_assoc, ← Nat.pow_add]
  have hlt : R < double.infRung := by
    have h1 := val_single_lt _ h
    rw [← hv] at h1
    have h2 := val_le_iff (r := double.infRung) (s := R) (binade_pos double)
    omega
  refine ⟨R, hlt, hv, ?_⟩
  unfold wide
  rw [read_eq single ok_single n, if_pos h]
  show double.nearest _ _ _ = _
  refine nearest_exact double _ _ _ R hlt (by rw [dplace, splace]; omega) ?_
  rw [hR, dplace, splace]
  have := gapW_eq
  congr 2
  omega
theorem wide_inf (n : Nat) (h : n % single.signWeight = single.infRung) : wide n = double.word (n / single.signWeight % 2 == 1) double.infRung := by
  unfold wide
  rw [read_eq single ok_single n, if_neg (by omega), if_pos h]
  rfl
theorem wide_rung (n : Nat) (h : isNaN single n = false) : ∃ R, R ≤ double.infRung ∧ wide n = double.word (n / single.signWeight % 2 == 1) R ∧
    ((n % single.signWeight < single.infRung ∧ R < double.infRung ∧ val double.binade R = val single.binade (n % single.signWeight) * 2 ^ gapW) ∨ (n % single.signWeight = single.infRung ∧ R = double.infRung)) := by
  unfold isNaN at h
  have h' : ¬ single.infRung < n % single.signWeight := by simpa using h
  by_cases c : n % single.signWeight < single.infRung
  · obtain ⟨R, h1, h2, h3⟩ := wide_fin n c
    exact ⟨R, by omega, h3, .inl ⟨c, h1, h2⟩⟩
  · have c' : n % single.signWeight = single.infRung := by omega
    exact ⟨_, Nat.le_refl _, wide_inf n c', .inr ⟨c', rfl⟩⟩
theorem wide_lt (n : Nat) : wide n < 18446744073709551616 := double.write_lt _
theorem wide_num (n : Nat) (h : isNaN single n = false) : isNaN double (wide n) = false := by
  obtain ⟨R, hR, hw, _⟩ := wide_rung n h
  have hlt : R < double.signWeight := Nat.lt_of_le_of_lt hR ok_double.2.2
  unfold isNaN
  rw [hw, (word_mod double _ R hlt).1]
  simp; omega
theorem wide_compare (a b : Nat) (ha : isNaN single a = false) (hb : isNaN single b = false) : compare (srung double (wide a)) (srung double (wide b)) = compare (srung single a) (srung single b) := by
  obtain ⟨R, hR, hw, hc⟩ := wide_rung a ha
  obtain ⟨S, hS, hv, hd⟩ := wide_rung b hb
  have hRl : R < double.signWeight := Nat.lt_of_le_of_lt hR ok_double.2.2
  have hSl : S < double.signWeight := Nat.lt_of_le_of_lt hS ok_double.2.2
  unfold srung
  rw [hw, hv, (word_mod double _ R hRl).1, (word_mod double _ R hRl).2, (word_mod double _ S hSl).1, (word_mod double _ S hSl).2]
  have hp := Nat.two_pow_pos gapW
  have hDB := binade_pos double
  have hSB := binade_pos single
  generalize a % single.signWeight = r at *
  generalize b % single.signWeight = s at *
  generalize (a / single.signWeight % 2 == 1) = p
  generalize (b / single.signWeight % 2 == 1) = q
  have key : ∀ {R S r s : Nat}, (r < single.infRung ∧ R < double.infRung ∧ val double.binade R = val single.binade r * 2 ^ gapW) ∨ (r = single.infRung ∧ R = double.infRung) → (s < single.infRung ∧ S < double.infRung ∧ val double.binade S = val single.binade s * 2 ^ gapW) ∨ (s = single.infRung ∧ S = double.infRung) → (R ≤ S ↔ r ≤ s) := by
    intro R S r s h1 h2
    rcases h1 with ⟨h1, h3, h5⟩ | ⟨h1, h3⟩ <;> rcases h2 with ⟨h2, h4, h6⟩ | ⟨h2, h4⟩
    · rw [← val_le_iff hDB, ← val_le_iff (r := r) (s := s) hSB, h5, h6]
      exact Nat.mul_le_mul_right_iff hp
    · omega
    · omega
    · omega
  have hz : ∀ {R r : Nat}, (r < single.infRung ∧ R < double.infRung ∧ val double.binade R = val single.binade r * 2 ^ gapW) ∨ (r = single.infRung ∧ R = double.infRung) → (R ≤ 0 ↔ r ≤ 0) := by
    intro R r h
    have h0 : (0 < single.infRung ∧ 0 < double.infRung ∧ val double.binade 0 = val single.binade 0 * 2 ^ gapW) := ⟨by decide, by decide, by unfold val; rw [if_pos hDB, if_pos hSB, Nat.zero_mul]⟩
    exact key h (.inl h0)
  have k1 := key hc hd
  have k2 := key hd hc
  have k3 := hz hc
  have k4 := hz hd
  rw [compare_int, compare_int]
  cases p <;> cases q <;> simp only [Bool.false_eq_true, if_false, if_true] <;> (repeat' split) <;> first | rfl | (exfalso; omega)
def neg64 (b : Int) : Bool := decide (b < 0)
def neg32 (b : Int) : Bool := decide (2147483648 ≤ b)
structure Stands (b w : Int) (r : Nat) : Prop where
  lt : r < 18446744073709551616
  wide64 : w = 64 → r = w64 b
  nan : w = 32 → cls32 b = 4 → isNaN double r = true
  num : w = 32 → ¬ cls32 b = 4 → r = wide (w32 b)
def sr (b w : Int) : Int := if w = 64 then sr64 b else sr32 b
theorem valid_of_cls {b : Int} (h : ¬ cls32 b = 4) : valid32 b = true := by
  cases hv : valid32 b
  · exfalso; apply h; unfold cls32; rw [hv]; rfl
  · rfl
theorem w32_num {b : Int} (h : ¬ cls32 b = 4) : isNaN single (w32 b) = false := by rw [w32_nan]; simpa using h
theorem stands_nan {b w : Int} {r : Nat} (hw : w = 64 ∨ w = 32) (hb : I64 b) (h : Stands b w r) : isNaN double r = decide (cls b w = 4) := by
  rcases hw with rfl | rfl
  · rw [h.wide64 rfl, w64_nan b hb]; rfl
  · by_cases c : cls32 b = 4
    · rw [h.nan rfl c]; symm; exact decide_eq_true c
    · rw [h.num rfl c, wide_num _ (w32_num c)]; symm; exact decide_eq_false c
theorem stands_order {b c w : Int} {r s : Nat} (hw : w = 64 ∨ w = 32) (hb : I64 b) (hc : I64 c) (h : Stands b w r) (k : Stands c w s) :
    double.order r s = if cls b w = 4 ∨ cls c w = 4 then none else some (compare (sr b w) (sr c w)) := by
  rw [order_eq double ok_double, stands_nan hw hb h, stands_nan hw hc k]
  by_cases c1 : cls b w = 4
  · simp [c1]
  · by_cases c2 : cls c w = 4
    · simp [c2]
    · simp only [c1, c2, decide_false, Bool.or_self, Bool.false_eq_true, if_false, or_self]
      rcases hw with rfl | rfl
      · rw [h.wide64 rfl, k.wide64 rfl, w64_srung b hb, w64_srung c hc]; rfl
      · have c1' : ¬ cls32 b = 4 := c1
        have c2' : ¬ cls32 c = 4 := c2
        rw [h.num rfl c1', k.num rfl c2', wide_compare _ _ (w32_num c1') (w32_num c2'), w32_srung b (valid_of_cls c1'), w32_srung c (valid_of_cls c2')]; rfl
end Go.Proofs.YtlfmgdpbjapdjaaGreatFmtBesafter.Flt
namespace Go.Proofs.YtlfmgdpbjapdjaaGreatFmtBesafter
open Go.RowKit
theorem rne_spec (M : Int) (t : Nat) (ht : 0 < t) (rb sb Q q : Int) (hQ : M / 2 ^ t = Q) (hrb : M / 2 ^ (t - 1) % 2 = rb) (hsb : (M % 2 ^ (t - 1) = 0 ∧ sb = 0) ∨ (¬ M % 2 ^ (t - 1) = 0 ∧ sb = 1)) (hq : q = Q + if Inc rb sb Q = true then 1 else 0) :
    2 * M ≤ (2 * q + 1) * 2 ^ t ∧ (2 * M = (2 * q + 1) * 2 ^ t → q % 2 = 0) ∧ (2 * q - 1) * 2 ^ t ≤ 2 * M ∧ (2 * M = (2 * q - 1) * 2 ^ t → q % 2 = 0) ∧ ((rb = 0 ∧ sb = 0) ↔ M = q * 2 ^ t) ∧ (Inc rb sb Q = true → M < q * 2 ^ t) ∧ (Inc rb sb Q = false → q * 2 ^ t ≤ M) := by
  obtain ⟨s, rfl⟩ : ∃ s, t = s + 1 := ⟨t - 1, by omega⟩
  rw [Nat.add_sub_cancel] at hrb hsb
  have hp : (0 : Int) < 2 ^ s := Int.pow_pos (by omega)
  rw [Int.pow_succ] at hQ ⊢
  have hQ2 : M / 2 ^ s / 2 = Q := by rw [← hQ, Int.ediv_ediv_of_nonneg (Int.le_of_lt hp)]
  have hM := Int.mul_ediv_add_emod M (2 ^ s)
  have l0 := Int.emod_nonneg M (Int.ne_of_gt hp)
  have l1 := Int.emod_lt_of_pos M hp
  have hd : M / 2 ^ s = 2 * Q + rb := by omega
  rw [hd] at hM
  have hrb2 : rb = 0 ∨ rb = 1 := by omega
  generalize (2 : Int) ^ s = H at *
  generalize M % H = L at *
  clear hd hQ2 hQ
  have e1 : ∀ a : Int, a * (H * 2) = 2 * (H * a) := fun a => by rw [Int.mul_comm H 2, ← Int.mul_assoc, Int.mul_comm a 2, Int.mul_assoc, Int.mul_comm a H]
  have e2 : H * (2 * Q + rb) = 2 * (H * Q) + H * rb := by rw [Int.mul_add, Int.mul_left_comm]
  rw [e2] at hM
  rw [e1, e1, e1]
  have hsb2 : sb = 0 ∨ sb = 1 := by rcases hsb with h | h <;> omega
  by_cases hi : Inc rb sb Q = true
  · rw [if_pos hi] at hq
    have h1 : rb = 1 ∧ (sb = 1 ∨ Q % 2 = 1) := by simpa [Inc] using hi
    obtain ⟨rfl, h2⟩ := h1
    subst hq
    have a1 : H * (2 * (Q + 1) + 1) = 2 * (H * Q) + 3 * H := by rw [Int.mul_add, Int.mul_left_comm, Int.mul_add]; omega
    have a2 : H * (2 * (Q + 1) - 1) = 2 * (H * Q) + H := by rw [Int.mul_sub, Int.mul_left_comm, Int.mul_add]; omega
    have a3 : H * (Q + 1) = H * Q + H := by rw [Int.mul_add]; omega
    rw [a1, a2, a3]
    refine ⟨by omega, by omega, by omega, fun h => ?_, ⟨fun h => by omega, fun h => by omega⟩, fun _ => by omega, fun h => by rw [hi] at h; cases h⟩
    rcases hsb with ⟨h3, h4⟩ | ⟨h3, h4⟩ <;> omega
  · rw [if_neg hi] at hq
    have h1 : ¬ (rb = 1 ∧ (sb = 1 ∨ Q % 2 = 1)) := by simpa [Inc] using hi
    rw [Int.add_zero] at hq
    subst hq
    have a1 : H * (2 * q + 1) = 2 * (H * q) + H := by rw [Int.mul_add, Int.mul_left_comm]; omega
    have a2 : H * (2 * q - 1) = 2 * (H * q) - H := by rw [Int.mul_sub, Int.mul_left_comm]; omega
    rw [a1, a2]
    rcases hrb2 with rfl | rfl
    · refine ⟨by omega, by omega, by omega, by omega, ⟨fun h => ?_, fun h => ?_⟩, fun h => absurd h hi, fun _ => by omega⟩
      · rcases hsb with ⟨h3, h4⟩ | ⟨h3, h4⟩ <;> omega
      · rcases hsb with ⟨h3, h4⟩ | ⟨h3, h4⟩ <;> omega
    · have h5 : sb = 0 ∧ q % 2 = 0 := by omega
      refine ⟨?_, by omega, by omega, by omega, ⟨fun h => by omega, fun h => by omega⟩, fun h => absurd h hi, fun _ => by omega⟩
      rcases hsb with ⟨h3, h4⟩ | ⟨h3, h4⟩ <;> omega
theorem val_grid (B q i : Nat) (hB : 0 < B) (h1 : B ≤ q ∨ i = 0) (h2 : q ≤ 2 * B) : Flt.val B (q + i * B) = q * 2 ^ i := by
  unfold Flt.val
  by_cases hq : q < B
  · obtain rfl : i = 0 := by omega
    simp [hq]
  · rw [if_neg (by have : 0 ≤ i * B := Nat.zero_le _; omega)]
    by_cases h3 : q = 2 * B
    · subst h3
      have e : 2 * B + i * B = (i + 2) * B := by rw [Nat.add_mul]; omega
      rw [e, Nat.mul_mod_left, Nat.mul_div_cancel _ hB, show i + 2 - 1 = i + 1 by omega, Nat.pow_succ, Nat.add_zero, ← Nat.mul_assoc, Nat.mul_comm (B * 2 ^ i), Nat.mul_assoc]
    · have e : q + i * B = (q - B) + (i + 1) * B := by rw [Nat.add_mul]; omega
      rw [e, Nat.add_mul_mod_self_right, Nat.add_mul_div_right _ _ hB, Nat.mod_eq_of_lt (by omega), Nat.div_eq_of_lt (by omega), Nat.zero_add, Nat.add_sub_cancel, show B + (q - B) = q by omega]
theorem num_none {f : Nat → Int} : ∀ n, Wd f n → num f n = 0 → ∀ i, i < n → f i = 0
  | 0, _, _ => fun i hi => by omega
  | n + 1, hf, h => by
    have h1 := num_nonneg (f := f) (n := n) fun i hi => hf i (by omega)
    have h2 := (hf n (by omega)).1
    have hp : (0 : Int) < 2 ^ (64 * n) := Int.pow_pos (by omega)
    rw [num] at h
    have h3 : 0 ≤ f n * 2 ^ (64 * n) := Int.mul_nonneg h2 (Int.le_of_lt hp)
    have h4 : f n * 2 ^ (64 * n) = 0 := by omega
    have h5 : f n = 0 := (Int.mul_eq_zero.1 h4).resolve_right (Int.ne_of_gt hp)
    intro i hi
    by_cases hin : i = n
    · rw [hin]; exact h5
    · exact num_none n (fun i hi => hf i (by omega)) (by omega) i (by omega)
theorem stk_num (f : Nat → Int) (j k : Nat) (hf : Wd f (j + 1)) (hk : k ≤ 64) : Stk f j k ↔ num f (j + 1) % 2 ^ (64 * j + k) = 0 := by
  have h := num_mod f j k 0 hf hk
  rw [Nat.add_zero] at h
  rw [h]
  constructor
  · intro hs
    rw [num_zero j hs.1, hs.2, Int.zero_mul, Int.zero_add]
  · intro hs
    have h1 := num_nonneg (f := f) (n := j) fun i hi => hf i (by omega)
    have hp : (0 : Int) < 2 ^ (64 * j) := Int.pow_pos (by omega)
    have hpk : (0 : Int) < 2 ^ k := Int.pow_pos (by omega)
    have h2 := Int.emod_nonneg (f j) (Int.ne_of_gt hpk)
    have h3 : 0 ≤ f j % 2 ^ k * 2 ^ (64 * j) := Int.mul_nonneg h2 (Int.le_of_lt hp)
    have h4 : f j % 2 ^ k * 2 ^ (64 * j) = 0 := by omega
    exact ⟨num_none j (fun i hi => hf i (by omega)) (by omega), (Int.mul_eq_zero.1 h4).resolve_right (Int.ne_of_gt hp)⟩
theorem kept_spec (f : Nat → Int) (j k : Nat) (T rb sb q : Int) (hf : Wd f (j + 1)) (hk0 : 0 < k) (hk : k ≤ 64) (hT : f j = T) (hrb : T / 2 ^ (k - 1) % 2 = rb)
    (hst : (Stk f j (k - 1) ∧ sb = 0) ∨ (¬ Stk f j (k - 1) ∧ sb = 1)) (hq : q = T / 2 ^ k + if Inc rb sb (T / 2 ^ k) = true then 1 else 0) :
    2 * num f (j + 1) ≤ (2 * q + 1) * 2 ^ (64 * j + k) ∧ (2 * num f (j + 1) = (2 * q + 1) * 2 ^ (64 * j + k) → q % 2 = 0) ∧ (2 * q - 1) * 2 ^ (64 * j + k) ≤ 2 * num f (j + 1) ∧ (2 * num f (j + 1) = (2 * q - 1) * 2 ^ (64 * j + k) → q % 2 = 0) ∧ ((rb = 0 ∧ sb = 0) ↔ num f (j + 1) = q * 2 ^ (64 * j + k)) ∧ (Inc rb sb (T / 2 ^ k) = true → num f (j + 1) < q * 2 ^ (64 * j + k)) ∧ (Inc rb sb (T / 2 ^ k) = false → q * 2 ^ (64 * j + k) ≤ num f (j + 1)) := by
  refine rne_spec (num f (j + 1)) (64 * j + k) (by omega) rb sb (T / 2 ^ k) q ?_ ?_ ?_ hq
  · rw [num_div f j k 0 hf, hT]
  · rw [show 64 * j + k - 1 = 64 * j + (k - 1) by omega, num_div f j (k - 1) 0 hf, hT, hrb]
  · rw [show 64 * j + k - 1 = 64 * j + (k - 1) by omega]
    rcases hst with ⟨h1, h2⟩ | ⟨h1, h2⟩
    · exact .inl ⟨(stk_num f j (k - 1) hf (by omega)).1 h1, h2⟩
    · exact .inr ⟨fun h => h1 ((stk_num f j (k - 1) hf (by omega)).2 h), h2⟩
theorem RoundRel.kept {p k : Nat} {T e rb sb : Int} {n : Bool} {a x e' : Int} (h : RoundRel p k T e rb sb n a x e') (_ : p + k = 64) (_ : 0 < p) :
    ∃ q : Int, q = T / 2 ^ k + (if Inc rb sb (T / 2 ^ k) = true then 1 else 0) ∧ ((q < 2 ^ p ∧ x = q * 2 ^ k ∧ e' = e) ∨ (q = 2 ^ p ∧ x = 9223372036854775808 ∧ e' = e + 1) ∨ (2 ^ p ≤ T / 2 ^ k ∧ x = q * 2 ^ k ∧ e' = e)) := by
  obtain ⟨_, h⟩ := h
  refine ⟨_, rfl, ?_⟩
  rcases h with ⟨h1, h2, h3⟩ | ⟨h1, h2, h3, h4⟩ | ⟨h1, h2, h3, h4⟩
  · rw [h1, if_neg (by simp), Int.add_zero]
    by_cases h5 : T / 2 ^ k < 2 ^ p
    · exact .inl ⟨h5, h2, h3⟩
    · exact .inr (.inr ⟨by omega, h2, h3⟩)
  · rw [h1, if_pos rfl]
    exact .inl ⟨h2, h3, h4⟩
  · rw [h1, if_pos rfl]
    exact .inr (.inl ⟨h2, h3, h4⟩)
theorem pat_64 {p k : Nat} {T E rb sb : Int} {n : Bool} {a x e' : Int} {v : Nat} (h : RoundRel p k T E rb sb n a x e') (hT1 : T < 18446744073709551616)
    (hE : (-1021 ≤ E ∧ p = 53 ∧ k = 11) ∨ (E < -1021 ∧ 1074 + E = p ∧ 0 < p ∧ k = 64 - p))
    (hv : (-1021 ≤ e' ∧ (v : Int) = sg n + (e' + 1021) * 4503599627370496 + x / 2048) ∨ (e' < -1021 ∧ (v : Int) = sg n + x / 2 ^ (64 - (1074 + e').toNat))) :
    ∃ q : Int, q = T / 2 ^ k + (if Inc rb sb (T / 2 ^ k) = true then 1 else 0) ∧ (v : Int) = sg n + q + (max (E - 53) (-1074) + 1074) * 4503599627370496 := by
  have hp : 0 < p := by omega
  have hpk : p + k = 64 := by omega
  obtain ⟨q, hq, hc⟩ := h.kept hpk hp
  refine ⟨q, hq, ?_⟩
  have hpp : (2 : Int) ^ p * 2 ^ k = 18446744073709551616 := by rw [← Int.pow_add, hpk]; rfl
  have hkp : (0 : Int) < 2 ^ k := Int.pow_pos (by omega)
  have hTk : T / 2 ^ k < 2 ^ p := Int.ediv_lt_of_lt_mul hkp (by rw [hpp]; exact hT1)
  rcases hE with ⟨hE0, rfl, rfl⟩ | ⟨hE0, hpE, _, hk⟩
  · rw [show max (E - 53) (-1074) = E - 53 by omega]
    clear hpp hq h
    rcases hc with ⟨h1, h2, h3⟩ | ⟨h1, h2, h3⟩ | ⟨h1, _, _⟩
    · rcases hv with ⟨_, h4⟩ | ⟨h4, _⟩
      · rw [h4, h2, h3]; omega
      · omega
    · rcases hv with ⟨_, h4⟩ | ⟨h4, _⟩
      · rw [h4, h2, h3, h1]; omega
      · omega
    · omega
  · rw [show max (E - 53) (-1074) = -1074 by omega]
    rcases hc with ⟨h1, h2, h3⟩ | ⟨h1, h2, h3⟩ | ⟨h1, _, _⟩
    · rcases hv with ⟨h5, _⟩ | ⟨_, h4⟩
      · omega
      · rw [h4, h2, h3, show 64 - (1074 + E).toNat = k by omega, Int.mul_ediv_cancel _ (Int.ne_of_gt hkp)]; omega
    · rcases hv with ⟨h5, h4⟩ | ⟨h5, h4⟩
      · have hp52 : p = 52 := by omega
        rw [h4, h2, h3, h1, hp52, show E = -1022 by omega]; omega
      · have hs : (2 : Int) ^ p * 2 ^ (k - 1) = 9223372036854775808 := by rw [← Int.pow_add, show p + (k - 1) = 63 by omega]; rfl
        rw [h4, h2, h3, h1, show 64 - (1074 + (E + 1)).toNat = k - 1 by omega, ← hs, Int.mul_ediv_cancel _ (Int.ne_of_gt (Int.pow_pos (by omega)))]; omega
    · omega
theorem pat_32 {p k : Nat} {T E rb sb : Int} {n : Bool} {a x e' : Int} {v : Nat} (h : RoundRel p k T E rb sb n a x e') (hT1 : T < 18446744073709551616)
    (hE : (-125 ≤ E ∧ p = 24 ∧ k = 40) ∨ (E < -125 ∧ 149 + E = p ∧ 0 < p ∧ k = 64 - p))
    (hv : (-125 ≤ e' ∧ (v : Int) = sg2 n + (e' + 125) * 8388608 + x / 1099511627776) ∨ (e' < -125 ∧ (v : Int) = sg2 n + x / 2 ^ (64 - (149 + e').toNat))) :
    ∃ q : Int, q = T / 2 ^ k + (if Inc rb sb (T / 2 ^ k) = true then 1 else 0) ∧ (v : Int) = sg2 n + q + (max (E - 24) (-149) + 149) * 8388608 := by
  have hp : 0 < p := by omega
  have hpk : p + k = 64 := by omega
  obtain ⟨q, hq, hc⟩ := h.kept hpk hp
  refine ⟨q, hq, ?_⟩
  have hpp : (2 : Int) ^ p * 2 ^ k = 18446744073709551616 := by rw [← Int.pow_add, hpk]; rfl
  have hkp : (0 : Int) < 2 ^ k := Int.pow_pos (by omega)
  have hTk : T / 2 ^ k < 2 ^ p := Int.ediv_lt_of_lt_mul hkp (by rw [hpp]; exact hT1)
  rcases hE with ⟨hE0, rfl, rfl⟩ | ⟨hE0, hpE, _, hk⟩
  · rw [show max (E - 24) (-149) = E - 24 by omega]
    clear hpp hq h
    rcases hc with ⟨h1, h2, h3⟩ | ⟨h1, h2, h3⟩ | ⟨h1, _, _⟩
    · rcases hv with ⟨_, h4⟩ | ⟨h4, _⟩
      · rw [h4, h2, h3]; omega
      · omega
    · rcases hv with ⟨_, h4⟩ | ⟨h4, _⟩
      · rw [h4, h2, h3, h1]; omega
      · omega
    · omega
  · rw [show max (E - 24) (-149) = -149 by omega]
    rcases hc with ⟨h1, h2, h3⟩ | ⟨h1, h2, h3⟩ | ⟨h1, _, _⟩
    · rcases hv with ⟨h5, _⟩ | ⟨_, h4⟩
      · omega
      · rw [h4, h2, h3, show 64 - (149 + E).toNat = k by omega, Int.mul_ediv_cancel _ (Int.ne_of_gt hkp)]; omega
    · rcases hv with ⟨h5, h4⟩ | ⟨h5, h4⟩
      · have hp52 : p = 23 := by omega
        rw [h4, h2, h3, h1, hp52, show E = -126 by omega]; omega
      · have hs : (2 : Int) ^ p * 2 ^ (k - 1) = 9223372036854775808 := by rw [← Int.pow_add, show p + (k - 1) = 63 by omega]; rfl
        rw [h4, h2, h3, h1, show 64 - (149 + (E + 1)).toNat = k - 1 by omega, ← hs, Int.mul_ediv_cancel _ (Int.ne_of_gt (Int.pow_pos (by omega)))]; omega
    · omega
theorem near_grid (B Q i : Nat) (M : Int) (t : Nat) (hB : 0 < B) (h1 : B ≤ Q ∨ i = 0) (h2 : Q < 2 * B) (hQ : M / 2 ^ t = Q) :
    (Flt.val B (Q + i * B) : Int) * 2 ^ t ≤ M * 2 ^ i ∧ M * 2 ^ i < (Flt.val B (Q + i * B + 1) : Int) * 2 ^ t := by
  have hp : (0 : Int) < 2 ^ t := Int.pow_pos (by omega)
  have hi : (0 : Int) < 2 ^ i := Int.pow_pos (by omega)
  have hM := Int.mul_ediv_add_emod M (2 ^ t)
  have l0 := Int.emod_nonneg M (Int.ne_of_gt hp)
  have l1 := Int.emod_lt_of_pos M hp
  rw [hQ] at hM
  have e1 : ∀ q : Nat, ((q * 2 ^ i : Nat) : Int) * 2 ^ t = (2 ^ t * q) * 2 ^ i := fun q => by
    rw [Int.natCast_mul, Int.natCast_pow, Int.mul_comm (2 ^ t) (q : Int), Int.mul_assoc, Int.mul_assoc, Int.mul_comm (2 ^ t : Int)]; rfl
  rw [show Q + i * B + 1 = (Q + 1) + i * B by omega, val_grid B Q i hB h1 (by omega), val_grid B (Q + 1) i hB (by omega) (by omega), e1, e1]
  constructor
  · exact Int.mul_le_mul_of_nonneg_right (by omega) (Int.le_of_lt hi)
  · refine Int.mul_lt_mul_of_pos_right ?_ hi
    rw [Int.natCast_add, Int.mul_add]
    simp only [Int.natCast_one, Int.mul_one]
    omega
structure NearK (B : Nat) (M : Int) (i : Nat) (H : Int) (K : Nat) (up ex : Bool) : Prop where
  exact : ex = true ↔ M * 2 ^ i = (Flt.val B K : Int) * H
  above : up = true → 0 < K ∧ (Flt.val B (K - 1) : Int) * H ≤ M * 2 ^ i ∧ M * 2 ^ i < (Flt.val B K : Int) * H ∧ ((Flt.val B (K - 1) : Int) + Flt.val B K) * H ≤ 2 * (M * 2 ^ i) ∧ (((Flt.val B (K - 1) : Int) + Flt.val B K) * H = 2 * (M * 2 ^ i) → K % 2 = 0)
  below : up = false → (Flt.val B K : Int) * H ≤ M * 2 ^ i ∧ M * 2 ^ i < (Flt.val B (K + 1) : Int) * H ∧ 2 * (M * 2 ^ i) ≤ ((Flt.val B K : Int) + Flt.val B (K + 1)) * H ∧ (2 * (M * 2 ^ i) = ((Flt.val B K : Int) + Flt.val B (K + 1)) * H → K % 2 = 0)
theorem nearK_of (B Q i : Nat) (f : Nat → Int) (j k : Nat) (T rb sb : Int) (hB : 0 < B) (hB2 : B % 2 = 0) (h1 : B ≤ Q ∨ i = 0) (h2 : Q < 2 * B) (hf : Wd f (j + 1)) (hk0 : 0 < k) (hk : k ≤ 64) (hT : f j = T) (hQT : T / 2 ^ k = Q) (hrb : T / 2 ^ (k - 1) % 2 = rb)
    (hst : (Stk f j (k - 1) ∧ sb = 0) ∨ (¬ Stk f j (k - 1) ∧ sb = 1)) :
    NearK B (num f (j + 1)) i (2 ^ (64 * j + k)) (Q + i * B + if Inc rb sb Q = true then 1 else 0) (Inc rb sb Q) (decide (rb = 0 ∧ sb = 0)) := by
  have hs := kept_spec f j k T rb sb _ hf hk0 hk hT hrb hst rfl
  have hQ : num f (j + 1) / 2 ^ (64 * j + k) = Q := by have := num_div f j k 0 hf; rw [Nat.add_zero] at this; rw [this, hT, hQT]
  have hg := near_grid B Q i (num f (j + 1)) (64 * j + k) hB h1 h2 hQ
  rw [hQT] at hs
  have hi : (0 : Int) < 2 ^ i := Int.pow_pos (by omega)
  have e1 : ∀ q : Nat, ((q * 2 ^ i : Nat) : Int) * 2 ^ (64 * j + k) = (q * 2 ^ (64 * j + k)) * 2 ^ i := fun q => by
    rw [Int.natCast_mul, Int.natCast_pow, Int.mul_assoc, Int.mul_assoc, Int.mul_comm (2 ^ (64 * j + k) : Int)]; rfl
  have g0 := val_grid B Q i hB h1 (by omega)
  have g1 := val_grid B (Q + 1) i hB (by omega) (by omega)
  rw [show (Q + 1) + i * B = Q + i * B + 1 by omega] at g1
  have par : (i * B) % 2 = 0 := by rw [Nat.mul_mod, hB2, Nat.mul_zero]
  generalize num f (j + 1) = M at *
  generalize (2 : Int) ^ (64 * j + k) = H at *
  have key : ∀ a b : Int, a * 2 ^ i = b * 2 ^ i ↔ a = b := fun a b => ⟨fun h => Int.eq_of_mul_eq_mul_right (Int.ne_of_gt hi) h, fun h => by rw [h]⟩
  have kle : ∀ a b : Int, a ≤ b → a * 2 ^ i ≤ b * 2 ^ i := fun a b h => Int.mul_le_mul_of_nonneg_right h (Int.le_of_lt hi)
  have klt : ∀ a b : Int, a < b → a * 2 ^ i < b * 2 ^ i := fun a b h => Int.mul_lt_mul_of_pos_right h hi
  have mid : ((Flt.val B (Q + i * B) : Int) + Flt.val B (Q + i * B + 1)) * H = ((2 * Q + 1) * H) * 2 ^ i := by
    rw [Int.add_mul, g0, g1, e1, e1, ← Int.add_mul, ← Int.add_mul, Int.natCast_add]
    congr 2; simp only [Int.natCast_one]; omega
  have dbl : 2 * (M * 2 ^ i) = (2 * M) * 2 ^ i := by rw [Int.mul_assoc]
  obtain ⟨s1, s2, s3, s4, s5, s6, s7⟩ := hs
  by_cases hi2 : Inc rb sb Q = true
  · rw [if_pos hi2] at *
    refine ⟨?_, fun _ => ⟨by omega, by rw [Nat.add_sub_cancel]; exact hg.1, hg.2, ?_, ?_⟩, fun h => by rw [hi2] at h; cases h⟩
    · rw [decide_eq_true_iff, s5, g1, e1, key, Int.natCast_add]; simp only [Int.natCast_one]
    · rw [Nat.add_sub_cancel, mid, dbl]; refine kle _ _ ?_; rw [show (2 * (Q : Int) + 1) = 2 * (Q + 1) - 1 by omega]; exact s3
    · rw [Nat.add_sub_cancel, mid, dbl, key]; intro h; have := s4 (by rw [show 2 * ((Q : Int) + 1) - 1 = 2 * (Q : Int) + 1 by omega]; exact h.symm); omega
  · rw [if_neg hi2] at *
    rw [Int.add_zero] at *
    refine ⟨?_, fun h => absurd h hi2, fun _ => ⟨hg.1, hg.2, ?_, ?_⟩⟩
    · rw [decide_eq_true_iff, s5, Nat.add_zero, g0, e1, key]
    · rw [Nat.add_zero, mid, dbl]; exact kle _ _ s1
    · rw [Nat.add_zero, mid, dbl, key]; intro h; have := s2 h; omega
theorem near_64 {p k : Nat} {T E rb sb : Int} {n : Bool} {a x e' : Int} {v : Nat} (f : Nat → Int) (j : Nat) (h : RoundRel p k T E rb sb n a x e') (hf : Wd f (j + 1)) (hT : f j = T) (hT0 : 9223372036854775808 ≤ T) (hrb : T / 2 ^ (k - 1) % 2 = rb)
    (hst : (Stk f j (k - 1) ∧ sb = 0) ∨ (¬ Stk f j (k - 1) ∧ sb = 1))
    (hE : (-1021 ≤ E ∧ p = 53 ∧ k = 11) ∨ (E < -1021 ∧ 1074 + E = p ∧ 0 < p ∧ k = 64 - p))
    (hv : (-1021 ≤ e' ∧ (v : Int) = sg n + (e' + 1021) * 4503599627370496 + x / 2048) ∨ (e' < -1021 ∧ (v : Int) = sg n + x / 2 ^ (64 - (1074 + e').toNat))) :
    ∃ (K i : Nat) (up ex : Bool), (v : Int) = sg n + K ∧ (i : Int) = E - 64 + k + 1074 ∧ NearK 4503599627370496 (num f (j + 1)) i (2 ^ (64 * j + k)) K up ex ∧ a = (if ex = true then 0 else if up = n then -1 else 1) := by
  have hT1 : T < 18446744073709551616 := by rw [← hT]; exact (hf j (by omega)).2
  obtain ⟨q, hq, hvq⟩ := pat_64 h hT1 hE hv
  have ha := h.1
  have hkp : (0 : Int) < 2 ^ k := Int.pow_pos (by omega)
  have hQ0 : 0 ≤ T / 2 ^ k := Int.ediv_nonneg (by omega) (Int.le_of_lt hkp)
  obtain ⟨Q, hQ⟩ := Int.eq_ofNat_of_zero_le hQ0
  obtain ⟨i, hi⟩ : ∃ i : Nat, (i : Int) = max (E - 53) (-1074) + 1074 := ⟨(max (E - 53) (-1074) + 1074).toNat, by omega⟩
  have hp53 : p ≤ 53 := by omega
  have hTk : T / 2 ^ k < 2 ^ p := by
    refine Int.ediv_lt_of_lt_mul hkp ?_
    rw [← Int.pow_add, show p + k = 64 by omega]; exact hT1
  have hpp : (2 : Int) ^ p ≤ 2 ^ 53 := by exact_mod_cast Nat.pow_le_pow_right (by omega : 2 > 0) hp53
  have h2 : Q < 2 * 4503599627370496 := by omega
  have h1 : 4503599627370496 ≤ Q ∨ i = 0 := by
    rcases hE with ⟨hE0, rfl, rfl⟩ | ⟨hE0, _, _, _⟩
    · left; clear hpp hTk; omega
    · right; omega
  have hN := nearK_of 4503599627370496 Q i f j k T rb sb (by omega) (by omega) h1 h2 hf (by omega) (by omega) hT hQ hrb hst
  rw [hQ] at ha hq
  refine ⟨_, i, _, _, ?_, ?_, hN, ?_⟩
  · rw [hvq, hq, ← hi]
    by_cases hI : Inc rb sb Q = true
    · rw [if_pos hI, if_pos hI]; omega
    · rw [if_neg hI, if_neg hI]; omega
  · omega
  · rw [ha]; simp only [decide_eq_true_iff]
theorem near_32 {p k : Nat} {T E rb sb : Int} {n : Bool} {a x e' : Int} {v : Nat} (f : Nat → Int) (j : Nat) (h : RoundRel p k T E rb sb n a x e') (hf : Wd f (j + 1)) (hT : f j = T) (hT0 : 9223372036854775808 ≤ T) (hrb : T / 2 ^ (k - 1) % 2 = rb)
    (hst : (Stk f j (k - 1) ∧ sb = 0) ∨ (¬ Stk f j (k - 1) ∧ sb = 1))
    (hE : (-125 ≤ E ∧ p = 24 ∧ k = 40) ∨ (E < -125 ∧ 149 + E = p ∧ 0 < p ∧ k = 64 - p))
    (hv : (-125 ≤ e' ∧ (v : Int) = sg2 n + (e' + 125) * 8388608 + x / 1099511627776) ∨ (e' < -125 ∧ (v : Int) = sg2 n + x / 2 ^ (64 - (149 + e').toNat))) :
    ∃ (K i : Nat) (up ex : Bool), (v : Int) = sg2 n + K ∧ (i : Int) = E - 64 + k + 149 ∧ NearK 8388608 (num f (j + 1)) i (2 ^ (64 * j + k)) K up ex ∧ a = (if ex = true then 0 else if up = n then -1 else 1) := by
  have hT1 : T < 18446744073709551616 := by rw [← hT]; exact (hf j (by omega)).2
  obtain ⟨q, hq, hvq⟩ := pat_32 h hT1 hE hv
  have ha := h.1
  have hkp : (0 : Int) < 2 ^ k := Int.pow_pos (by omega)
  have hQ0 : 0 ≤ T / 2 ^ k := Int.ediv_nonneg (by omega) (Int.le_of_lt hkp)
  obtain ⟨Q, hQ⟩ := Int.eq_ofNat_of_zero_le hQ0
  obtain ⟨i, hi⟩ : ∃ i : Nat, (i : Int) = max (E - 24) (-149) + 149 := ⟨(max (E - 24) (-149) + 149).toNat, by omega⟩
  have hp53 : p ≤ 24 := by omega
  have hTk : T / 2 ^ k < 2 ^ p := by
    refine Int.ediv_lt_of_lt_mul hkp ?_
    rw [← Int.pow_add, show p + k = 64 by omega]; exact hT1
  have hpp : (2 : Int) ^ p ≤ 2 ^ 24 := by exact_mod_cast Nat.pow_le_pow_right (by omega : 2 > 0) hp53
  have h2 : Q < 2 * 8388608 := by omega
  have h1 : 8388608 ≤ Q ∨ i = 0 := by
    rcases hE with ⟨hE0, rfl, rfl⟩ | ⟨hE0, _, _, _⟩
    · left; clear hpp hTk; omega
    · right; omega
  have hN := nearK_of 8388608 Q i f j k T rb sb (by omega) (by omega) h1 h2 hf (by omega) (by omega) hT hQ hrb hst
  rw [hQ] at ha hq
  refine ⟨_, i, _, _, ?_, ?_, hN, ?_⟩
  · rw [hvq, hq, ← hi]
    by_cases hI : Inc rb sb Q = true
    · rw [if_pos hI, if_pos hI]; omega
    · rw [if_neg hI, if_neg hI]; omega
  · omega
  · rw [ha]; simp only [decide_eq_true_iff]
theorem near_low (B : Nat) (M H : Int) (hB : 1 < B) (h0 : 0 < M) (h1 : 2 * M < H) : NearK B M 0 H 0 false false := by
  have v0 : Flt.val B 0 = 0 := by unfold Flt.val; rw [if_pos (by omega)]
  have v1 : Flt.val B (0 + 1) = 1 := by unfold Flt.val; rw [if_pos (by omega)]
  refine ⟨⟨fun h => (by cases h), fun h => ?_⟩, fun h => (by cases h), fun _ => ?_⟩
  · rw [v0] at h
    simp only [Int.pow_zero, Int.mul_one, Int.natCast_zero, Int.zero_mul] at h
    omega
  · rw [v0, v1]
    simp only [Int.pow_zero, Int.mul_one, Int.natCast_zero, Int.zero_mul, Int.natCast_one, Int.zero_add, Int.one_mul]
    exact ⟨by omega, by omega, by omega, fun _ => by first | rfl | trivial⟩
theorem near_half (B : Nat) (f : Nat → Int) (j : Nat) (T sb : Int) (hB : 1 < B) (hB2 : B % 2 = 0) (hf : Wd f (j + 1)) (hT : f j = T) (hT0 : 9223372036854775808 ≤ T) (hst : (Stk f j 63 ∧ sb = 0) ∨ (¬ Stk f j 63 ∧ sb = 1)) :
    NearK B (num f (j + 1)) 0 (2 ^ (64 * j + 64)) (if sb = 0 then 0 else 1) (decide (sb ≠ 0)) false := by
  have hT1 : T < 18446744073709551616 := by rw [← hT]; exact (hf j (by omega)).2
  have h := nearK_of B 0 0 f j 64 T 1 sb (by omega) hB2 (.inr rfl) (by omega) hf (by omega) (by omega) hT (by
    rw [show (2 : Int) ^ 64 = 18446744073709551616 by rfl]; omega) (by rw [show (2 : Int) ^ (64 - 1) = 9223372036854775808 by rfl]; omega) hst
  have e0 : decide ((1 : Int) = 0 ∧ sb = 0) = false := by simp
  rw [e0] at h
  rcases hst with ⟨_, rfl⟩ | ⟨_, rfl⟩
  · simpa [Inc] using h
  · simpa [Inc] using h
theorem NearK.lo {B i K : Nat} {M H : Int} {up ex : Bool} (h : NearK B M i H K up ex) (hB : 0 < B) (hH : 0 < H) (hK : 0 < K) :
    ((Flt.val B (K - 1) : Int) + Flt.val B K) * H ≤ 2 * (M * 2 ^ i) ∧ (((Flt.val B (K - 1) : Int) + Flt.val B K) * H = 2 * (M * 2 ^ i) → K % 2 = 0) := by
  cases hu : up
  · obtain ⟨h1, _⟩ := h.below hu
    have hv := Flt.val_lt_of_lt hB (show K - 1 < K by omega)
    have h3 : ((Flt.val B (K - 1) : Int) + Flt.val B K) * H < (2 * (Flt.val B K : Int)) * H := Int.mul_lt_mul_of_pos_right (by omega) hH
    rw [Int.mul_assoc 2] at h3
    exact ⟨by omega, fun h => by omega⟩
  · exact (h.above hu).2.2.2
theorem NearK.hi {B i K : Nat} {M H : Int} {up ex : Bool} (h : NearK B M i H K up ex) (hB : 0 < B) (hH : 0 < H) :
    2 * (M * 2 ^ i) ≤ ((Flt.val B K : Int) + Flt.val B (K + 1)) * H ∧ (2 * (M * 2 ^ i) = ((Flt.val B K : Int) + Flt.val B (K + 1)) * H → K % 2 = 0) := by
  cases hu : up
  · exact (h.below hu).2.2
  · obtain ⟨_, _, h1, _⟩ := h.above hu
    have hv := Flt.val_lt_of_lt hB (show K < K + 1 by omega)
    have h3 : (2 * (Flt.val B K : Int)) * H < ((Flt.val B K : Int) + Flt.val B (K + 1)) * H := Int.mul_lt_mul_of_pos_right (by omega) hH
    rw [Int.mul_assoc 2] at h3
    exact ⟨by omega, fun h => by omega⟩
theorem near_mono {B i1 i2 K1 K2 : Nat} {M1 M2 H1 H2 : Int} {u1 u2 x1 x2 : Bool} (h1 : NearK B M1 i1 H1 K1 u1 x1) (h2 : NearK B M2 i2 H2 K2 u2 x2) (hB : 0 < B) (hH1 : 0 < H1) (hH2 : 0 < H2)
    (hle : M1 * 2 ^ i1 * H2 ≤ M2 * 2 ^ i2 * H1) : K1 ≤ K2 := by
  by_cases hc : K1 ≤ K2
  · exact hc
  · exfalso
    obtain ⟨a1, a2⟩ := h1.lo hB hH1 (by omega)
    obtain ⟨b1, b2⟩ := h2.hi hB hH2
    have v1 := (Flt.val_le_iff hB).2 (show K2 ≤ K1 - 1 by omega)
    have v2 := (Flt.val_le_iff hB).2 (show K2 + 1 ≤ K1 by omega)
    generalize M1 * 2 ^ i1 = A at *
    generalize M2 * 2 ^ i2 = C at *
    by_cases he : K2 + 1 = K1
    · subst he
      rw [Nat.add_sub_cancel] at a1 a2
      generalize (Flt.val B K2 : Int) + Flt.val B (K2 + 1) = S at *
      have c1 := Int.mul_le_mul_of_nonneg_right a1 (Int.le_of_lt hH2)
      have c2 := Int.mul_le_mul_of_nonneg_right b1 (Int.le_of_lt hH1)
      have e1 : S * H1 * H2 = S * H2 * H1 := by rw [Int.mul_assoc, Int.mul_comm H1, ← Int.mul_assoc]
      rw [Int.mul_assoc 2] at c1 c2
      have d1 : S * H1 * H2 = 2 * A * H2 := by rw [Int.mul_assoc 2]; omega
      have d2 : 2 * C * H1 = S * H2 * H1 := by rw [Int.mul_assoc 2]; omega
      have f1 := a2 (Int.eq_of_mul_eq_mul_right (Int.ne_of_gt hH2) d1)
      have f2 := b2 (Int.eq_of_mul_eq_mul_right (Int.ne_of_gt hH1) d2)
      omega
    · have v3 := Flt.val_lt_of_lt hB (show K2 + 1 < K1 by omega)
      have c1 := Int.mul_le_mul_of_nonneg_right a1 (Int.le_of_lt hH2)
      have c2 := Int.mul_le_mul_of_nonneg_right b1 (Int.le_of_lt hH1)
      have c3 : ((Flt.val B K2 : Int) + Flt.val B (K2 + 1)) * (H2 * H1) < ((Flt.val B (K1 - 1) : Int) + Flt.val B K1) * (H2 * H1) := Int.mul_lt_mul_of_pos_right (by omega) (Int.mul_pos hH2 hH1)
      rw [Int.mul_assoc 2] at c1 c2
      rw [Int.mul_assoc, Int.mul_comm H1] at c1
      rw [Int.mul_assoc] at c2
      omega
theorem NearK.down {B i K : Nat} {M H : Int} {up ex : Bool} (h : NearK B M i H K up ex) :
    (Flt.val B (if up = true then K - 1 else K) : Int) * H ≤ M * 2 ^ i ∧ M * 2 ^ i < (Flt.val B ((if up = true then K - 1 else K) + 1) : Int) * H := by
  cases hu : up
  · exact ⟨(h.below hu).1, (h.below hu).2.1⟩
  · obtain ⟨h0, h1, h2, _⟩ := h.above hu
    simp only [if_true]
    rw [show K - 1 + 1 = K by omega]
    exact ⟨h1, h2⟩
theorem NearK.away {B i K : Nat} {M H : Int} {up ex : Bool} (h : NearK B M i H K up ex) (hB : 0 < B) (hH : 0 < H) :
    M * 2 ^ i ≤ (Flt.val B (if up = true ∨ ex = true then K else K + 1) : Int) * H ∧ (0 < (if up = true ∨ ex = true then K else K + 1) → (Flt.val B ((if up = true ∨ ex = true then K else K + 1) - 1) : Int) * H < M * 2 ^ i) := by
  have hx := h.exact
  cases hu : up
  · obtain ⟨h1, h2, _⟩ := h.below hu
    cases he : ex
    · simp only [Bool.false_eq_true, or_self, if_false, Nat.add_sub_cancel]
      rw [he] at hx
      have hne : ¬ M * 2 ^ i = (Flt.val B K : Int) * H := fun h => by have := hx.2 h; cases this
      exact ⟨by omega, fun _ => by omega⟩
    · have hm := hx.1 he
      simp only [or_true, if_true]
      refine ⟨by omega, fun hK => ?_⟩
      have hv := Flt.val_lt_of_lt hB (show K - 1 < K by omega)
      have h3 : (Flt.val B (K - 1) : Int) * H < (Flt.val B K : Int) * H := Int.mul_lt_mul_of_pos_right (by omega) hH
      omega
  · obtain ⟨h0, h1, h2, h3, _⟩ := h.above hu
    simp only [true_or, if_true]
    refine ⟨by omega, fun _ => ?_⟩
    have hv := Flt.val_lt_of_lt hB (show K - 1 < K by omega)
    have h4 : (2 * (Flt.val B (K - 1) : Int)) * H < ((Flt.val B (K - 1) : Int) + Flt.val B K) * H := Int.mul_lt_mul_of_pos_right (by omega) hH
    rw [Int.mul_assoc 2] at h4
    omega
theorem grid_lt {B D U : Nat} {A C H1 H2 : Int} (hB : 0 < B) (hH1 : 0 < H1) (hH2 : 0 < H2) (hle : A * H2 ≤ C * H1) (h1 : (Flt.val B D : Int) * H1 ≤ A) (h2 : C < (Flt.val B U : Int) * H2) : D < U := by
  by_cases hc : D < U
  · exact hc
  · exfalso
    have v1 := (Flt.val_le_iff hB).2 (show U ≤ D by omega)
    have c1 := Int.mul_le_mul_of_nonneg_right h1 (Int.le_of_lt hH2)
    have c2 := Int.mul_lt_mul_of_pos_right h2 hH1
    have c3 : (Flt.val B U : Int) * (H2 * H1) ≤ (Flt.val B D : Int) * (H2 * H1) := Int.mul_le_mul_of_nonneg_right (by omega) (Int.le_of_lt (Int.mul_pos hH2 hH1))
    rw [Int.mul_assoc, Int.mul_comm H1] at c1
    rw [Int.mul_assoc] at c2
    omega
theorem grid_lt2 {B D U : Nat} {A C H1 H2 : Int} (hB : 0 < B) (hH1 : 0 < H1) (hH2 : 0 < H2) (hle : A * H2 ≤ C * H1) (h1 : (Flt.val B D : Int) * H1 < A) (h2 : C ≤ (Flt.val B U : Int) * H2) : D < U := by
  by_cases hc : D < U
  · exact hc
  · exfalso
    have v1 := (Flt.val_le_iff hB).2 (show U ≤ D by omega)
    have c1 := Int.mul_lt_mul_of_pos_right h1 hH2
    have c2 := Int.mul_le_mul_of_nonneg_right h2 (Int.le_of_lt hH1)
    have c3 : (Flt.val B U : Int) * (H2 * H1) ≤ (Flt.val B D : Int) * (H2 * H1) := Int.mul_le_mul_of_nonneg_right (by omega) (Int.le_of_lt (Int.mul_pos hH2 hH1))
    rw [Int.mul_assoc, Int.mul_comm H1] at c1
    rw [Int.mul_assoc] at c2
    omega
theorem down_mono {B i1 i2 K1 K2 : Nat} {M1 M2 H1 H2 : Int} {u1 u2 x1 x2 : Bool} (h1 : NearK B M1 i1 H1 K1 u1 x1) (h2 : NearK B M2 i2 H2 K2 u2 x2) (hB : 0 < B) (hH1 : 0 < H1) (hH2 : 0 < H2)
    (hle : M1 * 2 ^ i1 * H2 ≤ M2 * 2 ^ i2 * H1) : (if u1 = true then K1 - 1 else K1) ≤ (if u2 = true then K2 - 1 else K2) := by
  have := grid_lt hB hH1 hH2 hle h1.down.1 h2.down.2
  omega
theorem away_mono {B i1 i2 K1 K2 : Nat} {M1 M2 H1 H2 : Int} {u1 u2 x1 x2 : Bool} (h1 : NearK B M1 i1 H1 K1 u1 x1) (h2 : NearK B M2 i2 H2 K2 u2 x2) (hB : 0 < B) (hH1 : 0 < H1) (hH2 : 0 < H2)
    (hle : M1 * 2 ^ i1 * H2 ≤ M2 * 2 ^ i2 * H1) : (if u1 = true ∨ x1 = true then K1 else K1 + 1) ≤ (if u2 = true ∨ x2 = true then K2 else K2 + 1) := by
  have a := h1.away hB hH1
  have b := (h2.away hB hH2).1
  generalize (if u1 = true ∨ x1 = true then K1 else K1 + 1) = U1 at *
  generalize (if u2 = true ∨ x2 = true then K2 else K2 + 1) = U2 at *
  by_cases h0 : 0 < U1
  · have := grid_lt2 hB hH1 hH2 hle (a.2 h0) b
    omega
  · omega
theorem near_inf64 {E T rb sb : Int} {n : Bool} {a x e' : Int} (f : Nat → Int) (j : Nat) (h : RoundRel 53 11 T E rb sb n a x e') (hf : Wd f (j + 1)) (hT : f j = T) (hT0 : 9223372036854775808 ≤ T) (hrb : T / 2 ^ (11 - 1) % 2 = rb)
    (hst : (Stk f j (11 - 1) ∧ sb = 0) ∨ (¬ Stk f j (11 - 1) ∧ sb = 1)) (hE : -1021 ≤ E) (he : 1024 < e') :
    ∃ (K i : Nat) (up ex : Bool), 9218868437227405312 ≤ K ∧ (i : Int) = E + 1021 ∧ NearK 4503599627370496 (num f (j + 1)) i (2 ^ (64 * j + 11)) K up ex := by
  have hT1 : T < 18446744073709551616 := by rw [← hT]; exact (hf j (by omega)).2
  have hr := h.kept (by omega) (by omega)
  obtain ⟨Q, hQ⟩ := Int.eq_ofNat_of_zero_le (show 0 ≤ T / 2 ^ 11 by omega)
  obtain ⟨i, hi⟩ : ∃ i : Nat, (i : Int) = E + 1021 := ⟨(E + 1021).toNat, by omega⟩
  have h1 : 4503599627370496 ≤ Q := by omega
  have h2 : Q < 2 * 4503599627370496 := by omega
  have hN := nearK_of 4503599627370496 Q i f j 11 T rb sb (by omega) (by omega) (.inl h1) h2 hf (by omega) (by omega) hT hQ hrb hst
  rw [hQ] at hr
  refine ⟨_, i, _, _, ?_, hi, hN⟩
  obtain ⟨q, hq, hc⟩ := hr
  clear hN hst hrb h
  by_cases hI : Inc rb sb Q = true
  · rw [if_pos hI] at hq ⊢; omega
  · rw [if_neg hI] at hq ⊢; omega
theorem near_inf32 {E T rb sb : Int} {n : Bool} {a x e' : Int} (f : Nat → Int) (j : Nat) (h : RoundRel 24 40 T E rb sb n a x e') (hf : Wd f (j + 1)) (hT : f j = T) (hT0 : 9223372036854775808 ≤ T) (hrb : T / 2 ^ (40 - 1) % 2 = rb)
    (hst : (Stk f j (40 - 1) ∧ sb = 0) ∨ (¬ Stk f j (40 - 1) ∧ sb = 1)) (hE : -125 ≤ E) (he : 128 < e') :
    ∃ (K i : Nat) (up ex : Bool), 2139095040 ≤ K ∧ (i : Int) = E + 125 ∧ NearK 8388608 (num f (j + 1)) i (2 ^ (64 * j + 40)) K up ex := by
  have hT1 : T < 18446744073709551616 := by rw [← hT]; exact (hf j (by omega)).2
  have hr := h.kept (by omega) (by omega)
  obtain ⟨Q, hQ⟩ := Int.eq_ofNat_of_zero_le (show 0 ≤ T / 2 ^ 40 by omega)
  obtain ⟨i, hi⟩ : ∃ i : Nat, (i : Int) = E + 125 := ⟨(E + 125).toNat, by omega⟩
  have h1 : 8388608 ≤ Q := by omega
  have h2 : Q < 2 * 8388608 := by omega
  have hN := nearK_of 8388608 Q i f j 40 T rb sb (by omega) (by omega) (.inl h1) h2 hf (by omega) (by omega) hT hQ hrb hst
  rw [hQ] at hr
  refine ⟨_, i, _, _, ?_, hi, hN⟩
  obtain ⟨q, hq, hc⟩ := hr
  clear hN hst hrb h
  by_cases hI : Inc rb sb Q = true
  · rw [if_pos hI] at hq ⊢; omega
  · rw [if_neg hI] at hq ⊢; omega
end Go.Proofs.YtlfmgdpbjapdjaaGreatFmtBesafter
