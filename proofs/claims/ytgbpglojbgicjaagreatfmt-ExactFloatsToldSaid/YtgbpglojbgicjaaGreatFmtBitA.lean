/- bits: contracts of the first chapter that the exact numbers want. -/
import Derived.Test.YtgbpglojbgicjaaGreatFmtRows
import Derived.WalkKit
import Derived.WalkSpells
import Derived.WalkLawsBesides
import Derived.Test.YtgbpglojbgicjaaGreatFmtPlain
import Derived.Test.YtgbpglojbgicjaaGreatFmtPart15
import Derived.Lib.Hide
import Derived.Laws.FloatArith
import Derived.Below
import Derived.Test.YtgbpglojbgicjaaGreatFmtPart08
import Derived.BigQuiet
import Derived.Deep.QuietTactic
namespace Go.Proofs.YtgbpglojbgicjaaGreatFmt
open Go.RowKit
set_option maxRecDepth 100000 in
set_option maxHeartbeats 400000 in
theorem float_any (b : Int) (w : World) :
    Calls Tryz.prog 50 #[.int .i64 b] w fun e w' => e = .returned (.float .f64 (IntKind.u64.wrap b).toNat) ∧ w = w' := by
  go_enter Tryz.func50, Tryz.ntmps50
  go_wp2
  go_ret
  exact ⟨rfl, rfl⟩
set_option maxRecDepth 100000 in
set_option maxHeartbeats 400000 in
theorem of_numB (n : Nat) (w : World) (h : (FloatKind.f64.format.order n n != some .eq) = false) :
    Calls Tryz.prog 23 #[.float .f64 n] w fun e w' => e = .returned (.int .i64 (wrap64 n)) ∧ w = w' := by
  go_enter Tryz.func23, Tryz.ntmps23
  go_wp2
  go_ret
  exact ⟨rfl, rfl⟩
set_option maxRecDepth 100000 in
set_option maxHeartbeats 400000 in
theorem of_nan (n : Nat) (w : World) (h : (FloatKind.f64.format.order n n != some .eq) = true) :
    Calls Tryz.prog 23 #[.float .f64 n] w fun e w' => e = .returned (.int .i64 9221120237041090561) ∧ w = w' := by
  go_enter Tryz.func23, Tryz.ntmps23
  go_wp2
  go_ret
  exact ⟨rfl, rfl⟩
/-! Nextafter, at +inf -/
end Go.Proofs.YtgbpglojbgicjaaGreatFmt
namespace Go.Proofs.YtgbpglojbgicjaaGreatFmt
open Go.RowKit
/-! binary32, in and out -/
set_option maxRecDepth 100000 in
set_option maxHeartbeats 400000 in
theorem valid32_any (b : Int) (w : World) :
    Calls Tryz.prog 49 #[.int .i64 b, .int .i64 32] w fun e w' => e = .returned (.bool (b == b % 4294967296)) ∧ w = w' := by
  go_enter Tryz.func49, Tryz.ntmps49
  go_wp2
  go_ret
  exact ⟨rfl, rfl⟩
theorem valid32_b (b : Int) : (b == b % 4294967296) = Flt.valid32 b := by
  unfold Flt.valid32
  by_cases h : 0 ≤ b ∧ b < 4294967296
  · rw [beq_iff_eq.2 (by omega), decide_eq_true h.1, decide_eq_true h.2]; rfl
  · rw [beq_eq_false_iff_ne.2 (by omega)]
    by_cases h0 : 0 ≤ b
    · rw [decide_eq_false (show ¬ b < 4294967296 by omega), Bool.and_false]
    · rw [decide_eq_false h0, Bool.false_and]
set_option maxRecDepth 100000 in
set_option maxHeartbeats 400000 in
theorem float32_ok (b : Int) (w : World) (h : (b == b % 4294967296) = true) :
    Calls Tryz.prog 51 #[.int .i64 b] w fun e w' => e = .returned (.float .f32 (b % 4294967296).toNat) ∧ w = w' := by
  have H := Lib.hid h
  clear h
  go_enter Tryz.func51, Tryz.ntmps51
  go_wp2_with (go_at_call 49; (with_reducible refine (valid32_any _ _).mono ?_); rintro e w1 ⟨rfl, rfl⟩; rw [H.out])
  go_wp2
  go_ret
  exact ⟨rfl, rfl⟩
set_option maxRecDepth 100000 in
set_option maxHeartbeats 400000 in
theorem float32_no (b : Int) (w : World) (h : (b == b % 4294967296) = false) :
    Calls Tryz.prog 51 #[.int .i64 b] w fun e w' => e = .returned (.float .f32 2143289345) ∧ w = w' := by
  have H := Lib.hid h
  clear h
  go_enter Tryz.func51, Tryz.ntmps51
  go_wp2_with (go_at_call 49; (with_reducible refine (valid32_any _ _).mono ?_); rintro e w1 ⟨rfl, rfl⟩; rw [H.out])
  go_wp2
  go_ret
  exact ⟨rfl, rfl⟩
theorem float32_any (b : Int) (w : World) :
    Calls Tryz.prog 51 #[.int .i64 b] w fun e w' => e = .returned (.float .f32 (Flt.w32 b)) ∧ w = w' := by
  unfold Flt.w32
  by_cases h : Flt.valid32 b = true
  · rw [if_pos h]
    have h' : (b == b % 4294967296) = true := by rw [valid32_b]; exact h
    refine (float32_ok b w h').mono ?_
    rintro e w' ⟨he, hw⟩
    refine ⟨?_, hw⟩
    rw [he]
    have : b = b % 4294967296 := by simpa using h'
    rw [← this]
  · rw [if_neg h]
    exact float32_no b w (by rw [valid32_b]; simpa using h)
/-- what 'Of' tells of a word -/
def told64 (n : Nat) : Int := if Flt.isNaN Ieee.double n = true then 9221120237041090561 else if n < 9223372036854775808 then (n : Int) else (n : Int) - 18446744073709551616
theorem told64_num {n : Nat} (hn : n < 18446744073709551616) (h : Flt.isNaN Ieee.double n = false) : told64 n = wrap64 n := by
  unfold told64 wrap64
  rw [h, if_neg (by decide)]
  split <;> omega
theorem told64_nan {n : Nat} (h : Flt.isNaN Ieee.double n = true) : told64 n = 9221120237041090561 := by unfold told64; rw [if_pos h]
theorem of_any (n : Nat) (w : World) (hn : n < 18446744073709551616) :
    Calls Tryz.prog 23 #[.float .f64 n] w fun e w' => e = .returned (.int .i64 (told64 n)) ∧ w = w' := by
  have hs := Flt.order_self Ieee.double Flt.ok_double n
  cases h : Flt.isNaN Ieee.double n
  · rw [told64_num hn h]
    exact of_numB n w (by rw [← h]; exact hs)
  · rw [told64_nan h]
    exact of_nan n w (by rw [← h]; exact hs)
end Go.Proofs.YtgbpglojbgicjaaGreatFmt
namespace Go.Proofs.YtgbpglojbgicjaaGreatFmt
open Go.RowKit
theorem float_w64 (b : Int) (w : World) :
    Calls Tryz.prog 50 #[.int .i64 b] w fun e w' => e = .returned (.float .f64 (Flt.w64 b)) ∧ w = w' := by
  refine (float_any b w).mono ?_
  rintro e w' ⟨he, hw⟩
  refine ⟨?_, hw⟩
  rw [he, IntKind.wrap_u64]; rfl
end Go.Proofs.YtgbpglojbgicjaaGreatFmt
namespace Go.Proofs.YtgbpglojbgicjaaGreatFmt
open Go.RowKit
theorem f32to64 (n : Nat) (h : Flt.isNaN Ieee.single n = false) (w : World) : (convert 59 54 (.float .f32 n)).run Tryz.prog w = .ok (.float .f64 (Flt.wide n)) w := by
  refine run_convert_float_float w _ _ _ _ _ _ (by rw [Tryz.underlying59]; rfl) Tryz.underlying54 ?_
  have hw := Flt.wide_num n h
  unfold floatToFloatBits
  rw [if_neg (by decide)]
  obtain ⟨R, hR, hwd, hc⟩ := Flt.wide_rung n h
  have hrd := Flt.read_eq Ieee.single Flt.ok_single n
  show (match Ieee.single.read n with | .nan _ _ => none | .infinity s => some (Ieee.double.write (.infinity s)) | .number s m e => if (Ieee.double.read (Ieee.double.write (.number s m e))).isInfinity then none else some (Ieee.double.write (.number s m e))) = _
  rcases hc with ⟨h1, h2, _⟩ | ⟨h1, h2⟩
  · have e : Flt.wide n = Ieee.double.write (Ieee.single.read n) := rfl
    rw [hrd, if_pos h1] at e ⊢
    dsimp only
    rw [← e, hwd]
    have hlt : R < Ieee.double.signWeight := Nat.lt_trans h2 Flt.ok_double.2.2
    have hnf : (Ieee.double.read (Ieee.double.word (n / Ieee.single.signWeight % 2 == 1) R)).isInfinity = false := by
      rw [Flt.read_eq Ieee.double Flt.ok_double, (Flt.word_mod Ieee.double _ R hlt).1, if_pos h2]; rfl
    rw [hnf]; rfl
  · have e : Flt.wide n = Ieee.double.write (Ieee.single.read n) := rfl
    rw [hrd, if_neg (by omega), if_pos h1] at e ⊢
    rw [e]
theorem nan64_word (t : Nat) : (t % 2) * 2 ^ 63 + 0x7ff0000000000000 + 1 + (t / 2) % (2 ^ 52 - 1) < 18446744073709551616 ∧ Flt.isNaN Ieee.double ((t % 2) * 2 ^ 63 + 0x7ff0000000000000 + 1 + (t / 2) % (2 ^ 52 - 1)) = true := by
  unfold Flt.isNaN
  rw [Flt.dfields.1, Flt.dfields.2.1, decide_eq_true_iff]
  have h1 : t / 2 % (2 ^ 52 - 1) < 2 ^ 52 - 1 := Nat.mod_lt _ (by decide)
  generalize t / 2 % (2 ^ 52 - 1) = q at *
  rcases (show t % 2 = 0 ∨ t % 2 = 1 by omega) with h | h <;> rw [h] <;> omega
/-- of a NaN: some NaN -/
theorem f32to64_nan (n : Nat) (h : Flt.isNaN Ieee.single n = true) (w : World) : ∃ r, r < 18446744073709551616 ∧ Flt.isNaN Ieee.double r = true ∧ (convert 59 54 (.float .f32 n)).run Tryz.prog w = .ok (.float .f64 r) w.drew := by
  have hrd := Flt.read_eq Ieee.single Flt.ok_single n
  unfold Flt.isNaN at h
  have h' : Ieee.single.infRung < n % Ieee.single.signWeight := by simpa using h
  rw [if_neg (by omega), if_neg (by omega)] at hrd
  have hu1 : Tryz.prog.underlying 59 = some (.float .f32) := Tryz.underlying59
  have hu2 : Tryz.prog.underlying 54 = some (.float .f64) := Tryz.underlying54
  refine ⟨Question.cut (.nanConv .f64 n) (w.tape w.drawn (.nanConv .f64 n)), ?_, ?_, ?_⟩
  · exact (nan64_word _).1
  · exact (nan64_word _).2
  · simp only [convert, run_underlying hu1, run_underlying hu2, Sem.run_bind, Result.andThen]
    have hd : FloatKind.f32.decode n = Ieee.single.read n := rfl
    simp only [Conv.floatToFloat, hd, hrd]
    rfl
end Go.Proofs.YtgbpglojbgicjaaGreatFmt
namespace Go.Proofs.YtgbpglojbgicjaaGreatFmt
open Go.RowKit
section
variable (x r : Nat) (w : World) (hr : ∀ w, (convert 59 54 (.float .f32 x)).run Tryz.prog w = .ok (.float .f64 r) w) (h : (FloatKind.f64.format.order r r != some .eq) = false)
include hr h
end
end Go.Proofs.YtgbpglojbgicjaaGreatFmt
namespace Go.Proofs.YtgbpglojbgicjaaGreatFmt
open Go.RowKit
/-! ## what they tell -/
namespace Flt
open Ieee
end Flt
end Go.Proofs.YtgbpglojbgicjaaGreatFmt
namespace Go.Proofs.YtgbpglojbgicjaaGreatFmt
open Go.RowKit
/-- a call answers just this value; what was in memory is as it was -/
abbrev Tells (f : FuncId) (args : Array Value) (v : Value) : Prop := ∀ w : World, Calls Tryz.prog f args w fun e w' => e = .returned v ∧ Below w.heap.size w w'
theorem told64_w64 (c : Int) (h : Flt.I64 c) (hc : ¬ Flt.cls64 c = 4) : told64 (Flt.w64 c) = c := by
  have hn := Flt.w64_nan c h
  obtain ⟨h0, h1⟩ := h
  unfold told64
  rw [hn, decide_eq_false hc, if_neg (by decide)]
  unfold Flt.w64
  split <;> omega
theorem w64_lt (c : Int) : Flt.w64 c < 18446744073709551616 := by unfold Flt.w64; omega
end Go.Proofs.YtgbpglojbgicjaaGreatFmt
namespace Go.Proofs.YtgbpglojbgicjaaGreatFmt
open Go.RowKit
/-! Add -/
end Go.Proofs.YtgbpglojbgicjaaGreatFmt

namespace Go.Proofs.YtgbpglojbgicjaaGreatFmt
open Go.RowKit Go.Proofs.YtgbpglojbgicjaaGreatFmtW.PrintWords
theorem Flt.fld64_eq (b : Int) : bits .and .i64 (b / 4503599627370496) 2047 = b / 4503599627370496 % 2048 := Flt.i64_and_mask _ 11 (by omega) 2047 (by decide)
theorem Flt.frc64_eq (b : Int) : bits .and .i64 b 4503599627370495 = b % 4503599627370496 := Flt.i64_and_mask _ 52 (by omega) 4503599627370495 (by decide)
theorem Flt.fld32_eq (b : Int) : bits .and .i64 (b / 8388608) 255 = b / 8388608 % 256 := Flt.i64_and_mask _ 8 (by omega) 255 (by decide)
theorem Flt.frc32_eq (b : Int) : bits .and .i64 b 8388607 = b % 8388608 := Flt.i64_and_mask _ 23 (by omega) 8388607 (by decide)
theorem shl52 : wrap64 (shl .i64 1 52 - 1) = 4503599627370495 := by kernel_rfl
theorem shl23 : wrap64 (shl .i64 1 23 - 1) = 8388607 := by kernel_rfl
theorem cls_f64 (b : Int) : F.bits_Class.f 1 b 64 = some (Flt.cls64 b) := by
  have e1 : shr .i64 b 52 = b / 4503599627370496 := rfl
  unfold F.bits_Class.f F.bits_of.f F.bits_Valid.f
  simp only [if_true, Option.bind_some, e1, shl52, Flt.fld64_eq, Flt.frc64_eq, F.bits_Class.j0]
  unfold Flt.cls64
  by_cases c : b / 4503599627370496 % 2048 = 2047
  · by_cases c2 : b % 4503599627370496 = 0 <;> simp [c, c2]
  · by_cases c3 : b / 4503599627370496 % 2048 = 0
    · by_cases c2 : b % 4503599627370496 = 0 <;> simp [c2, c3]
    · have : b / 4503599627370496 % 2048 > 0 := by omega
      simp [c, c3]
theorem cls_f32 (b : Int) : F.bits_Class.f 1 b 32 = some (Flt.cls32 b) := by
  have e1 : shr .i64 b 23 = b / 8388608 := rfl
  have hv : (b == b % 4294967296) = Flt.valid32 b := valid32_b b
  unfold F.bits_Class.f F.bits_of.f F.bits_Valid.f
  simp only [if_true, show ¬ (32 : Int) = 64 by decide, if_false, Option.bind_some, e1, shl23, Flt.fld32_eq, Flt.frc32_eq, F.bits_Class.j0, hv]
  unfold Flt.cls32
  cases Flt.valid32 b
  · simp
  · by_cases c : b / 8388608 % 256 = 255
    · by_cases c2 : b % 8388608 = 0 <;> simp [c, c2]
    · by_cases c3 : b / 8388608 % 256 = 0
      · by_cases c2 : b % 8388608 = 0 <;> simp [c2, c3]
      · simp [c, c3]
theorem cls_fno (b v : Int) (h64 : ¬ v = 64) (h32 : ¬ v = 32) : F.bits_Class.f 1 b v = some 0 := by
  unfold F.bits_Class.f F.bits_of.f
  rw [if_neg h64, if_neg h32]
  rfl
theorem cls_f (b v : Int) : F.bits_Class.f 1 b v = some (Flt.cls b v) := by
  unfold Flt.cls
  by_cases h : v = 64
  · subst h; exact cls_f64 b
  · rw [if_neg h]
    by_cases h2 : v = 32
    · subst h2; exact cls_f32 b
    · rw [if_neg h2]; exact cls_fno b v h h2
theorem class_any (b v : Int) : Tells 20 #[.int .i64 b, .int .i64 v] (.int .i64 (Flt.cls b v)) :=
  fun w => F.bits_Class.calls 1 b v _ w (cls_f b v)
end Go.Proofs.YtgbpglojbgicjaaGreatFmt
namespace Go.Proofs.YtgbpglojbgicjaaGreatFmt
open Go.RowKit
theorem bcell {W w1 : World} (hb : Below W.heap.size W w1) : (∀ b o, b < W.heap.size → w1.cell? ⟨b, o, none⟩ = W.cell? ⟨b, o, none⟩) ∧ (∀ b o, b < W.heap.size → w1.frozen? ⟨b, o, none⟩ = W.frozen? ⟨b, o, none⟩) :=
  ⟨fun b o h => hb.cell (p := ⟨b, o, none⟩) h, fun b o h => hb.frozen (p := ⟨b, o, none⟩) h⟩
theorem below_drewN' {B : Nat} {a w : World} (h : Below B a w) (n : Nat) : Below B a (w.drewN n) := ⟨h.os, h.tape, h.output, h.size, h.block⟩
/-- two calls with a new block between them -/
theorem below_two {w w1 w2 : World} {o : Obj} (hb : Below w.heap.size w w1) (hb2 : Below (w1.alloc o).heap.size (w1.alloc o) w2) : Below w.heap.size w w2 :=
  (hb.alloc hb.size o).trans (hb2.mono (Nat.le_trans hb.size (by simp)))
theorem results_tmp4 {fn : Func} {t u v x : Tmp} (h : fn.results = #[.tmp t, .tmp u, .tmp v, .tmp x]) (tmps : Array Value) (P : Program) (w : World) :
    (results fn tmps).run P w = .ok (.tuple #[tmps.getD t undef, tmps.getD u undef, tmps.getD v undef, tmps.getD x undef]) w := by simp [results, h]
theorem ret_parts {a b : Bool} {m n x y : Int} (h1 : a = b) (h2 : m = n) (h3 : x = y) : Ending.returned (.tuple #[.bool a, .int .i64 m, .int .i64 x, .bool true]) = .returned (.tuple #[.bool b, .int .i64 n, .int .i64 y, .bool true]) := by rw [h1, h2, h3]
namespace Flt
def mag64 (b : Int) : Int := if b / 4503599627370496 % 2048 = 0 then b % 4503599627370496 else b % 4503599627370496 + 4503599627370496
def exp64 (b : Int) : Int := if b / 4503599627370496 % 2048 = 0 then -1074 else b / 4503599627370496 % 2048 - 1075
def mag32 (b : Int) : Int := if b / 8388608 % 256 = 0 then b % 8388608 else b % 8388608 + 8388608
def exp32 (b : Int) : Int := if b / 8388608 % 256 = 0 then -149 else b / 8388608 % 256 - 150
theorem mask64_b (x : Int) : 0 ≤ bits .and .i64 x 2047 ∧ bits .and .i64 x 2047 ≤ 2047 := by rw [i64_and_mask x 11 (by omega) 2047 (by decide)]; omega
theorem mask32_b (x : Int) : 0 ≤ bits .and .i64 x 255 ∧ bits .and .i64 x 255 ≤ 255 := by rw [i64_and_mask x 8 (by omega) 255 (by decide)]; omega
theorem sign64_b (b : Int) (h : I64 b) : (bits .and .i64 b (-9223372036854775808) != 0) = neg64 b := by
  unfold neg64
  rw [i64_and_sign b h.1 h.2]
  by_cases h : b < 0 <;> simp [h]
theorem sign32_b (b : Int) (h : valid32 b = true) : (bits .and .i64 b 2147483648 != 0) = neg32 b := by
  have hv : 0 ≤ b ∧ b < 4294967296 := by unfold valid32 at h; simpa using h
  unfold neg32
  rw [i64_and_sign32 b hv.1 hv.2]
  by_cases h : 2147483648 ≤ b <;> simp [h]
theorem mag64_hi (b : Int) (h : 0 < bits .and .i64 (b / 4503599627370496) 2047) : bits .or .i64 (bits .and .i64 b 4503599627370495) 4503599627370496 = mag64 b := by
  rw [fld64_eq] at h
  rw [frc64_eq, i64_or_bit _ 52 (by omega) (by omega) (by omega) _ (by decide)]
  unfold mag64; rw [if_neg (by omega)]
theorem mag64_lo (b : Int) (h : bits .and .i64 (b / 4503599627370496) 2047 ≤ 0) : bits .and .i64 b 4503599627370495 = mag64 b := by
  rw [fld64_eq] at h
  rw [frc64_eq]
  unfold mag64; rw [if_pos (by omega)]
theorem exp64_hi (b : Int) (h : 0 < bits .and .i64 (b / 4503599627370496) 2047) : -1074 + (bits .and .i64 (b / 4503599627370496) 2047 - 1) = exp64 b := by
  rw [fld64_eq] at h ⊢
  unfold exp64; rw [if_neg (by omega)]; omega
theorem exp64_lo (b : Int) (h : bits .and .i64 (b / 4503599627370496) 2047 ≤ 0) : -1074 = exp64 b := by
  rw [fld64_eq] at h
  unfold exp64; rw [if_pos (by omega)]
theorem mag32_hi (b : Int) (h : 0 < bits .and .i64 (b / 8388608) 255) : bits .or .i64 (bits .and .i64 b 8388607) 8388608 = mag32 b := by
  rw [fld32_eq] at h
  rw [frc32_eq, i64_or_bit _ 23 (by omega) (by omega) (by omega) _ (by decide)]
  unfold mag32; rw [if_neg (by omega)]
theorem mag32_lo (b : Int) (h : bits .and .i64 (b / 8388608) 255 ≤ 0) : bits .and .i64 b 8388607 = mag32 b := by
  rw [fld32_eq] at h
  rw [frc32_eq]
  unfold mag32; rw [if_pos (by omega)]
theorem exp32_hi (b : Int) (h : 0 < bits .and .i64 (b / 8388608) 255) : -149 + (bits .and .i64 (b / 8388608) 255 - 1) = exp32 b := by
  rw [fld32_eq] at h ⊢
  unfold exp32; rw [if_neg (by omega)]; omega
theorem exp32_lo (b : Int) (h : bits .and .i64 (b / 8388608) 255 ≤ 0) : -149 = exp32 b := by
  rw [fld32_eq] at h
  unfold exp32; rw [if_pos (by omega)]
end Flt
set_option maxRecDepth 100000 in
set_option maxHeartbeats 1000000 in
theorem parts64_yes (b c : Int) (w : World) (hc : Hid (F.bits_Class.f 1 b 64 = some c)) (h2 : decide (2 < c) = false) (hb0 : Hid (Flt.I64 b)) :
    Calls Tryz.prog 10 #[.int .i64 b, .int .i64 64] w fun e w' => e = .returned (.tuple #[.bool (Flt.neg64 b), .int .i64 (Flt.mag64 b), .int .i64 (Flt.exp64 b), .bool true]) ∧ Below w.heap.size w w' := by
  obtain ⟨hm0, hm1⟩ := Flt.mask64_b (b / 4503599627370496)
  go_enter Tryz.func10, Tryz.ntmps10
  go_wp2_with (first | (go_at_call 25; (with_reducible refine (F.bits_of.calls 64 52 2047 (-1074) (-9223372036854775808) true _ rfl).mono ?_); rintro e w1 ⟨rfl, hb⟩) | (go_at_call 20; (with_reducible refine (F.bits_Class.calls 1 b 64 c _ hc.out).mono ?_); rintro e w2 ⟨rfl, hb2⟩; obtain ⟨hc2, hf2⟩ := bcell hb2))
  have hz0 := hc2 w1.heap.size 0 (by simp)
  have hz1 := hc2 w1.heap.size 1 (by simp)
  have hz2 := hc2 w1.heap.size 2 (by simp)
  have hz3 := hc2 w1.heap.size 3 (by simp)
  go_quiet (fail)
  go_wp2_with fail
  all_goals
    go_quiet (fail)
    go_wp2_with fail
    refine bodyPost_ret (results_tmp4 (t := 4) (u := 5) (v := 6) (x := 7) rfl _ _ _) rfl ⟨ret_parts ?_ ?_ ?_, ?_⟩
  · exact Flt.sign64_b b hb0.out
  · exact Flt.mag64_hi b (by assumption)
  · first | exact Flt.exp64_hi b (by assumption) | (rw [Int.max_eq_left (by omega)]; exact Flt.exp64_hi b (by assumption))
  · exact below_drewN' (below_drewN' (below_two hb hb2) _) _
  · exact Flt.sign64_b b hb0.out
  · exact Flt.mag64_lo b (by assumption)
  · first | exact Flt.exp64_lo b (by assumption) | (rw [Int.max_eq_right (by omega), Int.add_zero]; exact Flt.exp64_lo b (by assumption))
  · exact below_drewN' (below_drewN' (below_two hb hb2) _) _
set_option maxRecDepth 100000 in
set_option maxHeartbeats 1000000 in
theorem parts64_not (b c : Int) (w : World) (hc : Hid (F.bits_Class.f 1 b 64 = some c)) (h2 : decide (2 < c) = true) :
    Calls Tryz.prog 10 #[.int .i64 b, .int .i64 64] w fun e w' => e = .returned (.tuple #[.bool false, .int .i64 0, .int .i64 0, .bool false]) ∧ Below w.heap.size w w' := by
  go_enter Tryz.func10, Tryz.ntmps10
  go_wp2_with (first | (go_at_call 25; (with_reducible refine (F.bits_of.calls 64 52 2047 (-1074) (-9223372036854775808) true _ rfl).mono ?_); rintro e w1 ⟨rfl, hb⟩) | (go_at_call 20; (with_reducible refine (F.bits_Class.calls 1 b 64 c _ hc.out).mono ?_); rintro e w2 ⟨rfl, hb2⟩))
  refine bodyPost_ret (results_tmp4 (t := 4) (u := 5) (v := 6) (x := 7) rfl _ _ _) rfl ⟨rfl, ?_⟩
  exact below_two hb hb2
set_option maxRecDepth 100000 in
set_option maxHeartbeats 1000000 in
theorem parts32_yes (b c : Int) (w : World) (hc : Hid (F.bits_Class.f 1 b 32 = some c)) (h2 : decide (2 < c) = false) (hb0 : Hid (Flt.valid32 b = true)) :
    Calls Tryz.prog 10 #[.int .i64 b, .int .i64 32] w fun e w' => e = .returned (.tuple #[.bool (Flt.neg32 b), .int .i64 (Flt.mag32 b), .int .i64 (Flt.exp32 b), .bool true]) ∧ Below w.heap.size w w' := by
  obtain ⟨hm0, hm1⟩ := Flt.mask32_b (b / 8388608)
  go_enter Tryz.func10, Tryz.ntmps10
  go_wp2_with (first | (go_at_call 25; (with_reducible refine (F.bits_of.calls 32 23 255 (-149) 2147483648 true _ rfl).mono ?_); rintro e w1 ⟨rfl, hb⟩) | (go_at_call 20; (with_reducible refine (F.bits_Class.calls 1 b 32 c _ hc.out).mono ?_); rintro e w2 ⟨rfl, hb2⟩; obtain ⟨hc2, hf2⟩ := bcell hb2))
  have hz0 := hc2 w1.heap.size 0 (by simp)
  have hz1 := hc2 w1.heap.size 1 (by simp)
  have hz2 := hc2 w1.heap.size 2 (by simp)
  have hz3 := hc2 w1.heap.size 3 (by simp)
  go_quiet (fail)
  go_wp2_with fail
  all_goals
    go_quiet (fail)
    go_wp2_with fail
    refine bodyPost_ret (results_tmp4 (t := 4) (u := 5) (v := 6) (x := 7) rfl _ _ _) rfl ⟨ret_parts ?_ ?_ ?_, ?_⟩
  · exact Flt.sign32_b b hb0.out
  · exact Flt.mag32_hi b (by assumption)
  · first | exact Flt.exp32_hi b (by assumption) | (rw [Int.max_eq_left (by omega)]; exact Flt.exp32_hi b (by assumption))
  · exact below_drewN' (below_drewN' (below_two hb hb2) _) _
  · exact Flt.sign32_b b hb0.out
  · exact Flt.mag32_lo b (by assumption)
  · first | exact Flt.exp32_lo b (by assumption) | (rw [Int.max_eq_right (by omega), Int.add_zero]; exact Flt.exp32_lo b (by assumption))
  · exact below_drewN' (below_drewN' (below_two hb hb2) _) _
set_option maxRecDepth 100000 in
set_option maxHeartbeats 1000000 in
theorem parts32_not (b c : Int) (w : World) (hc : Hid (F.bits_Class.f 1 b 32 = some c)) (h2 : decide (2 < c) = true) :
    Calls Tryz.prog 10 #[.int .i64 b, .int .i64 32] w fun e w' => e = .returned (.tuple #[.bool false, .int .i64 0, .int .i64 0, .bool false]) ∧ Below w.heap.size w w' := by
  go_enter Tryz.func10, Tryz.ntmps10
  go_wp2_with (first | (go_at_call 25; (with_reducible refine (F.bits_of.calls 32 23 255 (-149) 2147483648 true _ rfl).mono ?_); rintro e w1 ⟨rfl, hb⟩) | (go_at_call 20; (with_reducible refine (F.bits_Class.calls 1 b 32 c _ hc.out).mono ?_); rintro e w2 ⟨rfl, hb2⟩))
  refine bodyPost_ret (results_tmp4 (t := 4) (u := 5) (v := 6) (x := 7) rfl _ _ _) rfl ⟨rfl, ?_⟩
  exact below_two hb hb2
set_option maxRecDepth 100000 in
set_option maxHeartbeats 1000000 in
theorem parts_no (b v : Int) (w : World) (hf : Hid (F.bits_of.f v = some (0, 0, 0, 0, false))) :
    Calls Tryz.prog 10 #[.int .i64 b, .int .i64 v] w fun e w' => e = .returned (.tuple #[.bool false, .int .i64 0, .int .i64 0, .bool false]) ∧ Below w.heap.size w w' := by
  go_enter Tryz.func10, Tryz.ntmps10
  go_wp2_with (first | (go_at_call 25; (with_reducible refine (F.bits_of.calls v 0 0 0 0 false _ hf.out).mono ?_); rintro e w1 ⟨rfl, hb⟩))
  refine bodyPost_ret (results_tmp4 (t := 4) (u := 5) (v := 6) (x := 7) rfl _ _ _) rfl ⟨rfl, ?_⟩
  exact hb.alloc hb.size _
namespace Flt
/-- a finite pattern of a width -/
def fin (b w : Int) : Bool := (decide (w = 64) || decide (w = 32)) && decide (cls b w ≤ 2)
def neg (b w : Int) : Bool := if w = 64 then neg64 b else neg32 b
def mag (b w : Int) : Int := if w = 64 then mag64 b else mag32 b
def exp (b w : Int) : Int := if w = 64 then exp64 b else exp32 b
def pneg (b w : Int) : Bool := fin b w && neg b w
def pmag (b w : Int) : Int := if fin b w = true then mag b w else 0
def pexp (b w : Int) : Int := if fin b w = true then exp b w else 0
end Flt
def partsV (b v : Int) : Value := .tuple #[.bool (Flt.pneg b v), .int .i64 (Flt.pmag b v), .int .i64 (Flt.pexp b v), .bool (Flt.fin b v)]
theorem of_no (v : Int) (h : ¬ v = 64) (h2 : ¬ v = 32) : F.bits_of.f v = some (0, 0, 0, 0, false) := by
  unfold F.bits_of.f; rw [if_neg h, if_neg h2]
theorem parts_any (b v : Int) (hb : Flt.I64 b) : Tells 10 #[.int .i64 b, .int .i64 v] (partsV b v) := by
  intro w
  unfold partsV Flt.pneg Flt.pmag Flt.pexp Flt.fin Flt.neg Flt.mag Flt.exp Flt.cls
  by_cases h : v = 64
  · subst h
    simp only [decide_true, Bool.true_or, Bool.true_and, if_true]
    by_cases c : Flt.cls64 b ≤ 2
    · simp only [c, decide_true, Bool.true_and, if_true]
      exact parts64_yes b _ w (Lib.hid (cls_f64 b)) (by simpa using c) (Lib.hid hb)
    · simp only [c, decide_false, Bool.false_and, if_false, Bool.false_eq_true]
      exact parts64_not b _ w (Lib.hid (cls_f64 b)) (by simp; omega)
  · by_cases h2 : v = 32
    · subst h2
      simp only [show ¬ (32 : Int) = 64 by decide, decide_false, decide_true, Bool.false_or, Bool.true_and, if_true, if_false]
      by_cases c : Flt.cls32 b ≤ 2
      · simp only [c, decide_true, Bool.true_and, if_true]
        exact parts32_yes b _ w (Lib.hid (cls_f32 b)) (by simpa using c) (Lib.hid (Flt.valid_of_cls (by omega)))
      · simp only [c, decide_false, Bool.false_and, if_false, Bool.false_eq_true]
        exact parts32_not b _ w (Lib.hid (cls_f32 b)) (by simp; omega)
    · simp only [h, h2, decide_false, Bool.or_self, Bool.false_and, if_false, Bool.false_eq_true]
      exact parts_no b v w (Lib.hid (of_no v h h2))
end Go.Proofs.YtgbpglojbgicjaaGreatFmt
namespace Go.Proofs.YtgbpglojbgicjaaGreatFmt
open Go.RowKit
end Go.Proofs.YtgbpglojbgicjaaGreatFmt

namespace Go.Proofs.YtgbpglojbgicjaaGreatFmt.Flt
open Go.RowKit
theorem valid_bounds {b : Int} (h : valid32 b = true) : 0 ≤ b ∧ b < 4294967296 := by unfold valid32 at h; simpa using h
theorem I64_32 {b : Int} (h : 0 ≤ b ∧ b < 4294967296) : I64 b := ⟨by omega, by omega⟩
end Go.Proofs.YtgbpglojbgicjaaGreatFmt.Flt

namespace Go.Proofs.YtgbpglojbgicjaaGreatFmt
open Go.RowKit
/-- what 'wide' answers -/
def WideAnswer (b v : Int) (w : World) (e : Ending) (w' : World) : Prop := ∃ r, Flt.Stands b v r ∧ e = .returned (.tuple #[.float .f64 r, .bool true]) ∧ Below w.heap.size w w'
set_option maxRecDepth 100000 in
set_option maxHeartbeats 400000 in
theorem wide64 (b : Int) (w : World) : Calls Tryz.prog 22 #[.int .i64 b, .int .i64 64] w fun e w' => e = .returned (.tuple #[.float .f64 (Flt.w64 b), .bool true]) ∧ w = w' := by
  go_enter Tryz.func22, Tryz.ntmps22
  go_wp2_with (go_at_call 50; (with_reducible refine (float_w64 _ _).mono ?_); rintro e w1 ⟨rfl, rfl⟩)
  go_ret2
  exact ⟨rfl, rfl⟩
set_option maxRecDepth 100000 in
set_option maxHeartbeats 400000 in
theorem wide32 (b : Int) (r : Nat) (w w2 : World) (hr : (convert 59 54 (.float .f32 (Flt.w32 b))).run Tryz.prog w = .ok (.float .f64 r) w2) :
    Calls Tryz.prog 22 #[.int .i64 b, .int .i64 32] w fun e w' => e = .returned (.tuple #[.float .f64 r, .bool true]) ∧ w2 = w' := by
  go_enter Tryz.func22, Tryz.ntmps22
  go_wp2_with (go_at_call 51; (with_reducible refine (float32_any _ _).mono ?_); rintro e w1 ⟨rfl, rfl⟩)
  go_ret2
  exact ⟨rfl, rfl⟩
theorem wide_any (b v : Int) (hv : v = 64 ∨ v = 32) (w : World) : Calls Tryz.prog 22 #[.int .i64 b, .int .i64 v] w (WideAnswer b v w) := by
  rcases hv with rfl | rfl
  · refine (wide64 b w).mono ?_
    rintro e w' ⟨he, rfl⟩
    exact ⟨_, ⟨w64_lt b, fun _ => rfl, (fun h => by cases h), (fun h => by cases h)⟩, he, Below.refl _ _⟩
  · by_cases c : Flt.cls32 b = 4
    · obtain ⟨r, hr, hrn, hrun⟩ := f32to64_nan (Flt.w32 b) (by rw [Flt.w32_nan]; exact decide_eq_true c) w
      refine (wide32 b r w w.drew hrun).mono ?_
      rintro e w' ⟨he, rfl⟩
      exact ⟨r, ⟨hr, (fun h => by cases h), fun _ _ => hrn, fun _ h => absurd c h⟩, he, (Below.refl _ _).drew⟩
    · refine (wide32 b _ w w (f32to64 _ (Flt.w32_num c) w)).mono ?_
      rintro e w' ⟨he, rfl⟩
      exact ⟨_, ⟨Flt.wide_lt _, (fun h => by cases h), fun _ h => absurd h c, fun _ _ => rfl⟩, he, Below.refl _ _⟩
namespace Flt
end Flt
end Go.Proofs.YtgbpglojbgicjaaGreatFmt

namespace Go.Proofs.YtgbpglojbgicjaaGreatFmt.Flt
open Ieee
/-- a common scale for all exponents that are met -/
def K : Nat := 4200
theorem K_eq : (K : Int) = 4200 := rfl
/-- m times 2^e, scaled -/
def sc (m : Nat) (e : Int) : Nat := m * 2 ^ (e + K).toNat
theorem sc_shift (m j : Nat) (e : Int) (he : -(K : Int) ≤ e) : sc (m * 2 ^ j) e = sc m (e + j) := by
  unfold sc
  rw [Nat.mul_assoc, ← Nat.pow_add]
  congr 2; omega
theorem odd_pow {o o' : Nat} {x y : Nat} (h : o * 2 ^ x = o' * 2 ^ y) : y ≤ x → y = x ∨ o' % 2 = 0 := by
  intro hle
  rcases Nat.lt_or_ge y x with hlt | hge
  · right
    have e : x = (x - y - 1) + 1 + y := by omega
    rw [e, Nat.pow_add, ← Nat.mul_assoc] at h
    have := Nat.eq_of_mul_eq_mul_right (Nat.two_pow_pos y) h
    rw [← this, Nat.pow_succ, ← Nat.mul_assoc]
    exact Nat.mul_mod_left _ _
  · left; omega
/-- an odd number and its exponent are told by the value -/
theorem sc_odd {o o' : Nat} {x y : Int} (ho : o % 2 = 1) (ho' : o' % 2 = 1) (hx : -(K : Int) ≤ x) (hy : -(K : Int) ≤ y) (h : sc o x = sc o' y) : o = o' ∧ x = y := by
  unfold sc at h
  have key : (x + K).toNat = (y + K).toNat := by
    rcases Nat.le_total (y + K).toNat (x + K).toNat with hl | hl
    · rcases odd_pow h hl with h1 | h1 <;> omega
    · rcases odd_pow h.symm hl with h1 | h1 <;> omega
  rw [key] at h
  exact ⟨Nat.eq_of_mul_eq_mul_right (Nat.two_pow_pos _) h, by omega⟩
/-- every number above 0 is an odd one times a power of 2 -/
theorem odd_part (m : Nat) (hm : 0 < m) : ∃ o t, m = o * 2 ^ t ∧ o % 2 = 1 := by
  induction m using Nat.strongRecOn with
  | _ m ih =>
    by_cases h : m % 2 = 1
    · exact ⟨m, 0, by simp, h⟩
    · obtain ⟨o, t, h1, h2⟩ := ih (m / 2) (by omega) (by omega)
      exact ⟨o, t + 1, by rw [Nat.pow_succ, ← Nat.mul_assoc, ← h1]; omega, h2⟩
/-- rung r's value is mag times 2^e -/
def Rep (f : Format) (mag : Nat) (e : Int) (r : Nat) : Prop := 0 < r ∧ r < f.infRung ∧ sc mag e = sc (val f.binade r) f.leastPlace
theorem val_sc (f : Format) (hl : -(K : Int) ≤ f.leastPlace) (r : Nat) : sc (val f.binade r) f.leastPlace = sc (mg f r) (f.leastPlace + (ex f r : Nat)) := by
  rw [val_eq, sc_shift _ _ _ hl]
theorem mg_lt (f : Format) (r : Nat) : mg f r < 2 * f.binade := by
  unfold mg
  have := Nat.mod_lt r (binade_pos f)
  split <;> omega
theorem mg_pos (f : Format) {r : Nat} (h : 0 < r) : 0 < mg f r := by
  unfold mg
  have := binade_pos f
  split <;> omega
/-- the odd part of what a word has is short -/
theorem Rep.odd {f : Format} (hl : -(K : Int) ≤ f.leastPlace) {o t : Nat} {e : Int} (he : -(K : Int) ≤ e) {r : Nat} (ho : o % 2 = 1) (h : Rep f (o * 2 ^ t) e r) : o < 2 * f.binade := by
  obtain ⟨h0, h1, h2⟩ := h
  obtain ⟨o', t', h3, h4⟩ := odd_part (mg f r) (mg_pos f h0)
  rw [val_sc f hl, h3, sc_shift _ _ _ he, sc_shift _ _ _ (by omega)] at h2
  obtain ⟨h5, _⟩ := sc_odd ho h4 (by omega) (by omega) h2
  have := mg_lt f r
  have : o' ≤ mg f r := by rw [h3]; exact Nat.le_mul_of_pos_right _ (Nat.two_pow_pos _)
  omega
/-! ## a whole number as a binary64 -/
/-! ## times a power of 2 -/
theorem dK : -(K : Int) ≤ double.leastPlace := by rw [dplace, K_eq]; omega
end Go.Proofs.YtgbpglojbgicjaaGreatFmt.Flt

namespace Go.Proofs.YtgbpglojbgicjaaGreatFmt.Flt
open Ieee Go.RowKit
end Go.Proofs.YtgbpglojbgicjaaGreatFmt.Flt

namespace Go.Proofs.YtgbpglojbgicjaaGreatFmt
open Go.RowKit Go.Proofs.YtgbpglojbgicjaaGreatFmtW.PrintWords
/-! ## width 64 -/
/-! ## width 32 -/
end Go.Proofs.YtgbpglojbgicjaaGreatFmt

namespace Go.Proofs.YtgbpglojbgicjaaGreatFmt
open Go.RowKit
namespace Flt
open Ieee
/-- a number of binary32 is one of binary64 -/
theorem Rep.wide {mag : Nat} {E : Int} {r : Nat} (h : Rep single mag E r) : ∃ R, Rep double mag E R ∧ val double.binade R = val single.binade r * 2 ^ gapW := by
  obtain ⟨p, q, k⟩ := h
  have hs : r % single.signWeight = r := Nat.mod_eq_of_lt (Nat.lt_trans q ok_single.2.2)
  obtain ⟨R, h1, h2, h3⟩ := wide_fin r (by rw [hs]; exact q)
  rw [hs] at h2
  refine ⟨R, ⟨?_, h1, ?_⟩, h2⟩
  · rcases Nat.eq_zero_or_pos R with h0 | h0
    · exfalso
      rw [h0] at h2
      have z : val double.binade 0 = 0 := by unfold val; rw [if_pos (binade_pos double)]
      have hv : 1 ≤ val single.binade r := by
        have := val_lt_of_lt (binade_pos single) p
        omega
      have := Nat.mul_le_mul_right (2 ^ gapW) hv
      have := Nat.two_pow_pos gapW
      omega
    · exact h0
  · rw [k, h2, sc_shift _ _ _ dK, dplace, splace]
    have := gapW_eq
    congr 1
end Flt
namespace Flt
open Ieee
/-- a finite pattern's rung -/
def rung64 (b : Int) : Nat := (b % 9223372036854775808).toNat
theorem parts64_rung (b : Int) (hb : I64 b) (h : fin b 64 = true) : rung64 b < double.infRung ∧ mag64 b = (mg double (rung64 b) : Int) ∧ exp64 b = double.leastPlace + (ex double (rung64 b) : Int) := by
  have hc : cls64 b ≤ 2 := by
    unfold fin cls at h
    simpa using h
  obtain ⟨l0, l1⟩ := hb
  unfold rung64 mag64 exp64 mg ex
  rw [dfields.2.1, dfields.2.2, dplace]
  unfold cls64 at hc
  by_cases c : b / 4503599627370496 % 2048 = 2047
  · rw [if_pos c] at hc; split at hc <;> omega
  · by_cases z : b / 4503599627370496 % 2048 = 0
    · rw [if_pos z, if_pos z, if_pos (by omega)]
      refine ⟨by omega, by omega, by omega⟩
    · rw [if_neg z, if_neg z, if_neg (by omega)]
      refine ⟨by omega, by omega, by omega⟩
end Flt
namespace Flt
open Ieee
/-- a finite pattern's rung -/
def rung32 (b : Int) : Nat := (b % 2147483648).toNat
theorem parts32_rung (b : Int) (hb : valid32 b = true) (h : fin b 32 = true) : rung32 b < single.infRung ∧ mag32 b = (mg single (rung32 b) : Int) ∧ exp32 b = single.leastPlace + (ex single (rung32 b) : Int) := by
  have hc : cls32 b ≤ 2 := by
    unfold fin cls at h
    simpa using h
  obtain ⟨l0, l1⟩ := valid_bounds hb
  unfold rung32 mag32 exp32 mg ex
  rw [sfields.2.1, sfields.2.2, splace]
  unfold cls32 at hc
  rw [if_pos hb] at hc
  by_cases c : b / 8388608 % 256 = 255
  · rw [if_pos c] at hc; split at hc <;> omega
  · by_cases z : b / 8388608 % 256 = 0
    · rw [if_pos z, if_pos z, if_pos (by omega)]
      refine ⟨by omega, by omega, by omega⟩
    · rw [if_neg z, if_neg z, if_neg (by omega)]
      refine ⟨by omega, by omega, by omega⟩
end Flt
end Go.Proofs.YtgbpglojbgicjaaGreatFmt

namespace Go.Proofs.YtgbpglojbgicjaaGreatFmt
open Go.RowKit
namespace Flt
open Ieee
/-- the pattern of a sign and a rung -/
def lay64 (neg : Bool) (r : Nat) : Int := if neg = true then (r : Int) - 9223372036854775808 else r
theorem lay64_fin (neg : Bool) (r : Nat) (h : r < double.infRung) : I64 (lay64 neg r) ∧ fin (lay64 neg r) 64 = true ∧ rung64 (lay64 neg r) = r ∧ told64 (double.word neg r) = lay64 neg r := by
  rw [dfields.2.1] at h
  have hs : r < double.signWeight := by rw [dfields.1]; omega
  have hn : isNaN double (double.word neg r) = false := by
    unfold isNaN
    rw [(word_mod double neg r hs).1, dfields.2.1]
    exact decide_eq_false (by omega)
  have hc : ∀ b : Int, b % 9223372036854775808 = r → cls64 b ≤ 2 := by
    intro b hb
    unfold cls64
    split
    · exfalso; omega
    · split
      · split <;> omega
      · omega
  cases neg
  · refine ⟨⟨by unfold lay64; split <;> omega, by unfold lay64; split <;> omega⟩, ?_, ?_, ?_⟩
    · have := hc (lay64 false r) (by unfold lay64; split <;> omega)
      unfold fin cls
      simpa using this
    · unfold rung64 lay64; split <;> omega
    · unfold told64
      rw [hn, if_neg (by decide)]
      have e : double.word false r = r := rfl
      rw [e, if_pos (by omega)]; rfl
  · refine ⟨⟨by unfold lay64; split <;> omega, by unfold lay64; split <;> omega⟩, ?_, ?_, ?_⟩
    · have := hc (lay64 true r) (by unfold lay64; split <;> omega)
      unfold fin cls
      simpa using this
    · unfold rung64 lay64; split <;> omega
    · unfold told64
      rw [hn, if_neg (by decide)]
      have e : double.word true r = 9223372036854775808 + r := by
        show double.signWeight + r = _
        rw [dfields.1]
      rw [e, if_neg (by omega)]
      unfold lay64; rw [if_pos rfl]; omega
end Flt
end Go.Proofs.YtgbpglojbgicjaaGreatFmt

