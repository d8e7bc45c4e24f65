/- bits: Convert to binary64 of what is a number; Canon. -/
import Derived.Test.YtgbpglojbgicjaaGreatFmtLawT
import Derived.Test.YtgbpglojbgicjaaGreatFmtPart09
namespace Go.Proofs.YtgbpglojbgicjaaGreatFmt
open Go.RowKit Go.Proofs.YtgbpglojbgicjaaGreatFmtW.PrintWords

/-- a pattern's one form -/
def canB (b v : Int) : Int := if Flt.cls b v = 0 then 0 else b
theorem canon_f (b v : Int) (hv : v = 64 ∨ v = 32) (hc : ¬ Flt.cls b v = 4) : F.bits_Canon.f 2 b v = some (canB b v) := by
  have h := cls_f b v
  unfold F.bits_Canon.f canB
  rcases hv with rfl | rfl
  · rw [if_pos rfl]
    simp only [F.bits_Canon.j0]
    rw [h]
    simp [hc]
    split <;> rfl
  · rw [if_neg (by decide)]
    simp only [F.bits_Canon.j0]
    rw [h]
    simp [hc]
    split <;> rfl
theorem canon_calls (b v : Int) (hv : v = 64 ∨ v = 32) (hc : ¬ Flt.cls b v = 4) (w : World) : Calls Tryz.prog 8 #[.int .i64 b, .int .i64 v] w fun e w' => e = .returned (.int .i64 (canB b v)) ∧ Only w w' (fun _ => False) :=
  (F.bits_Canon.calls 2 b v _ w (canon_f b v hv hc)).mono fun _ _ ⟨h1, h2⟩ => ⟨h1, Only.of_below h2⟩
/-- as a binary64 -/
def upV (b v : Int) : Int := if v = 64 then b else up64 b
set_option maxRecDepth 100000 in
set_option maxHeartbeats 4000000 in
theorem convert_64 (b : Int) (w : World) (hb : Flt.I64 b) (hc : ¬ Flt.cls64 b = 4) : Calls Tryz.prog 9 #[.int .i64 b, .int .i64 64, .int .i64 64] w fun e w' => e = .returned (.int .i64 b) ∧ Only w w' (fun _ => False) := by
  have hof := of_any (Flt.w64 b) w (w64_lt b)
  rw [told64_w64 b hb hc] at hof
  have HF := Lib.hid hof
  have HW := Lib.hid (wide64 b w)
  clear hof hb hc
  go_enter Tryz.func9, Tryz.ntmps9
  go_wp2_with fail
  refine HW.out.mono ?_
  rintro e w' ⟨rfl, hw⟩
  rw [← hw]
  clear hw w'
  go_wp2_with fail
  refine HF.out.mono ?_
  rintro e w' ⟨rfl, hw⟩
  rw [← hw]
  clear hw w'
  go_wp2_with fail
  go_ret
  exact ⟨rfl, Only.refl _ _⟩
set_option maxRecDepth 100000 in
set_option maxHeartbeats 4000000 in
theorem convert_32 (b : Int) (w : World) (hc : ¬ Flt.cls32 b = 4) : Calls Tryz.prog 9 #[.int .i64 b, .int .i64 32, .int .i64 64] w fun e w' => e = .returned (.int .i64 (up64 b)) ∧ Only w w' (fun _ => False) := by
  have HF := Lib.hid (of_any (Flt.wide (Flt.w32 b)) w (Flt.wide_lt _))
  have HW := Lib.hid (wide32 b _ w w (f32to64 _ (Flt.w32_num hc) w))
  have HU : Hid (told64 (Flt.wide (Flt.w32 b)) = up64 b) := Lib.hid rfl
  clear hc
  go_enter Tryz.func9, Tryz.ntmps9
  go_wp2_with fail
  refine HW.out.mono ?_
  rintro e w' ⟨rfl, hw⟩
  rw [← hw]
  clear hw w'
  go_wp2_with fail
  refine HF.out.mono ?_
  rintro e w' ⟨he, hw⟩
  rw [HU.out] at he
  subst he
  rw [← hw]
  clear hw w'
  go_wp2_with fail
  go_ret
  exact ⟨rfl, Only.refl _ _⟩
end Go.Proofs.YtgbpglojbgicjaaGreatFmt
