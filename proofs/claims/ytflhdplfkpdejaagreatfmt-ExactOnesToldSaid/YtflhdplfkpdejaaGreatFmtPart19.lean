/- Part 19 of the walk of ExactOnes: ExL ExM ExN ExQ ExR LawE. -/
import Derived.Test.YtflhdplfkpdejaaGreatFmtPart18
import Derived.Laws.EntriesVeiled
import Derived.Test.YtflhdplfkpdejaaGreatFmtPart15
import Derived.Test.YtflhdplfkpdejaaGreatFmtPart10
import Derived.Test.YtflhdplfkpdejaaGreatFmtPart09
namespace Go.Proofs.YtflhdplfkpdejaaGreatFmt
open Go.RowKit Go.Proofs.YtflhdplfkpdejaaGreatFmtW.PrintWords
set_option maxRecDepth 100000 in
set_option maxHeartbeats 8000000 in
theorem add_of (neg neg' : Bool) (A A' : Option Addr) (c c' : Nat) (ds ds' : List Int) (e e' z f0 : Int) (w : World) (hr : ReadsInt w .i64 A ds.length ds) (hc : ds.length ≤ c) (hv : vB neg ds e = true) (hr' : ReadsInt w .i64 A' ds'.length ds') (hc' : ds'.length ≤ c') (hv' : vB neg' ds' e' = true) (hT : Tab w)
    (hfit : Fits ((Int.natAbs z : Nat) : Int)) (h01 : -2305843009213693952 ≤ f0) (h02 : f0 ≤ 2305843009213693952)
    (HP : ∀ (W : World) (b g g' : Nat) (o o' : Option Nat), Only w W (fun _ => False) → W.heap[b]? = some (.cells #[.pointer (some ⟨g, 0, none⟩), .int .i64 e, .pointer (some ⟨g', 0, none⟩), .int .i64 e'] 62 (0, 0)) → IsInt W g o (sval neg ds) → IsInt W g' o' (sval neg' ds') →
      Calls Tryz.prog 29 #[.slice (some ⟨b, 0, none⟩) 2 2] W fun en w' => ∃ k, en = .returned (.agg #[.pointer (some ⟨k, 0, none⟩), .int .i64 f0]) ∧ New W.heap.size w' k z ∧ Only W w' (fun _ => False)) :
    Calls Tryz.prog 8 #[.agg #[.bool neg, .slice A ds.length c, .int .i64 e], .agg #[.bool neg', .slice A' ds'.length c', .int .i64 e']] w (Ans w z f0) := by
  have HV := Lib.hid (And.intro hv hv')
  have HPP := Lib.hid HP
  have HO := Lib.hid (fun a b c d : Obj => (((((Only.refl w (fun _ => False)).alloc a).alloc b).alloc c).alloc d))
  clear hv hv' HP
  go_enter_defers Tryz.func8, Tryz.ntmps8
  go_wp2_with fail
  obtain ⟨h1, h2, h3, h4⟩ := heap_four w (.cells #[.bool neg, .slice A ds.length c, .int .i64 e] 24) (.cells #[.bool neg', .slice A' ds'.length c', .int .i64 e'] 24) (.cells #[.bool false, .slice none 0 0, .int .i64 0] 24) (.cells #[.int .i64 0] 32)
  have ho4 := HO.out (.cells #[.bool neg, .slice A ds.length c, .int .i64 e] 24) (.cells #[.bool neg', .slice A' ds'.length c', .int .i64 e'] 24) (.cells #[.bool false, .slice none 0 0, .int .i64 0] 24) (.cells #[.int .i64 0] 32)
  have hsz4 : ((((w.alloc (.cells #[.bool neg, .slice A ds.length c, .int .i64 e] 24)).alloc (.cells #[.bool neg', .slice A' ds'.length c', .int .i64 e'] 24)).alloc (.cells #[.bool false, .slice none 0 0, .int .i64 0] 24)).alloc (.cells #[.int .i64 0] 32)).heap.size = w.heap.size + 1 + 1 + 1 + 1 := by simp
  generalize hw4 : ((((w.alloc (.cells #[.bool neg, .slice A ds.length c, .int .i64 e] 24)).alloc (.cells #[.bool neg', .slice A' ds'.length c', .int .i64 e'] 24)).alloc (.cells #[.bool false, .slice none 0 0, .int .i64 0] 24)).alloc (.cells #[.int .i64 0] 32)) = w4 at *
  clear hw4
  have hY4 := h3
  have hE4 := h4
  have hb5 := heap_alloc_new w4 (.cells #[.bool neg, .slice A ds.length c, .int .i64 e, .bool neg', .slice A' ds'.length c', .int .i64 e'] 24)
  have ho5 := ho4.alloc (.cells #[.bool neg, .slice A ds.length c, .int .i64 e, .bool neg', .slice A' ds'.length c', .int .i64 e'] 24)
  have ho45 : Only w4 (w4.alloc (.cells #[.bool neg, .slice A ds.length c, .int .i64 e, .bool neg', .slice A' ds'.length c', .int .i64 e'] 24)) (fun _ => False) := (Only.refl w4 _).alloc _
  rw [← hsz4]
  generalize w4.alloc (.cells #[.bool neg, .slice A ds.length c, .int .i64 e, .bool neg', .slice A' ds'.length c', .int .i64 e'] 24) = w5 at *
  refine (open2_ok w4.heap.size neg neg' A A' c c' ds ds' e e' w5 hb5 (reads_only hr ho5 (fun _ _ h => h)) hc HV.out.1 (reads_only hr' ho5 (fun _ _ h => h)) hc' HV.out.2).mono ?_
  rintro en w6 ⟨rfl, ho56, g, g', m, hout, hm, ⟨o, hi, _⟩, ⟨o', hi', _⟩⟩
  go_wp2_with fail
  refine (HPP.out w6 _ g g' o o' (ho5.trans ho56) hout hi hi').mono ?_
  rintro en w7 ⟨k, rfl, ⟨ok, hk, _⟩, ho67⟩
  have ho47 : Only w w7 (fun _ => False) := (ho5.trans ho56).trans ho67
  have hq47 := (ho45.trans ho56).trans ho67
  have hY6 := (hq47.kept _ (blk_lt hY4) (fun h => h)).trans hY4
  have hE6 := (hq47.kept _ (blk_lt hE4) (fun h => h)).trans hE4
  have HTL := Lib.hid (told_any k ok z f0 w7 hk hfit (hT.only ho47) h01 h02)
  clear h1 h2 h3 h4 hY4 hE4 hb5 hout hi hi' hk ho45 hq47 ho67 ho56 ho5 ho4 HPP HV HO hr hr' hfit
  go_wp2_with fail
  refine HTL.out.mono ?_
  clear HTL
  rintro en w7 ⟨ho7, hcase⟩
  have hY7 := (ho7.kept _ (blk_lt hY6) (fun h => h)).trans hY6
  have hE7 := (ho7.kept _ (blk_lt hE6) (fun h => h)).trans hE6
  have y0 : w7.cell? ⟨w.heap.size + 1 + 1, 0, none⟩ = some (.bool false) := blk_cell hY7 0
  have y1 : w7.cell? ⟨w.heap.size + 1 + 1, 1, none⟩ = some (.slice none 0 0) := blk_cell hY7 1
  have y2 : w7.cell? ⟨w.heap.size + 1 + 1, 2, none⟩ = some (.int .i64 0) := blk_cell hY7 2
  have e0 : w7.cell? ⟨w.heap.size + 1 + 1 + 1, 0, none⟩ = some (.int .i64 0) := blk_cell hE7 0
  have fy0 := blk_frozen hY7 0
  have fy1 := blk_frozen hY7 1
  have fy2 := blk_frozen hY7 2
  have fe0 := blk_frozen hE7 0
  have HST := Lib.hid (stored hY7 hE7)
  have HOW := Lib.hid ((ho47).trans ho7)
  rcases hcase with ⟨hz, rfl⟩ | ⟨hz, t, k, q, a1, a2, a3, a4, ⟨hbad, rfl⟩ | ⟨b1, b2, b3, A7, ds7, c7, rfl, hown, hval, hnm⟩⟩
  · have HZ := Lib.hid hz
    clear hz
    go_wp2_with fail
    obtain ⟨s1, s2, s3⟩ := HST.out (.bool false) (.slice none 0 0) (.int .i64 0) (.int .i64 0)
    refine door_ok rfl _ _ (w.heap.size + 1 + 1) (w.heap.size + 1 + 1 + 1) _ _ _ 0 _ rfl rfl s1 s2 ?_
    rw [HZ.out]
    exact Ans.zero HOW.out (s3.mono (by rintro i hi (rfl | rfl) <;> omega))
  · refine door_panic rfl _ w7 (w.heap.size + 1 + 1) (w.heap.size + 1 + 1 + 1) 2 _ rfl rfl hY7 hE7 (fun w' hw' => ?_)
    exact Ans.long hz a1 a2 a3 a4 hbad HOW.out (hw'.mono (by rintro i hi rfl; omega))
  · have HA := Lib.hid (And.intro hz (And.intro a1 (And.intro a2 (And.intro a3 (And.intro a4 (And.intro hown (And.intro hval hnm)))))))
    clear hz a1 a2 a3 a4 hown hval hnm
    go_wp2_with fail
    obtain ⟨s1, s2, s3⟩ := HST.out (.bool (decide (z < 0))) (.slice A7 ds7.length c7) (.int .i64 (f0 + t)) (.int .i64 0)
    obtain ⟨g1, g2, g3, g4, g5, g6, g7, g8⟩ := HA.out
    refine door_ok rfl _ _ (w.heap.size + 1 + 1) (w.heap.size + 1 + 1 + 1) _ _ _ 0 _ rfl rfl s1 s2 ?_
    refine Ans.some_ g1 g2 g3 g4 g5 b1 b2 b3 HOW.out (s3.mono (by rintro i hi (rfl | rfl) <;> omega)) (own_two g6 hY7 hE7 s3) ?_ g7 g8
    have := (ho47).base.size
    exact this
end Go.Proofs.YtflhdplfkpdejaaGreatFmt
namespace Go.Proofs.YtflhdplfkpdejaaGreatFmt
open Go.RowKit Go.Proofs.YtflhdplfkpdejaaGreatFmtW.PrintWords
theorem plus_31 (b g g' : Nat) (o o' : Option Nat) (W : World) (hb : W.heap[b]? = some (.cells #[.pointer (some ⟨g, 0, none⟩), .int .i64 0, .pointer (some ⟨g', 0, none⟩), .int .i64 0] 62 (0, 0))) (hi : IsInt W g o (-3)) (hi' : IsInt W g' o' 1) :
    Calls Tryz.prog 29 #[.slice (some ⟨b, 0, none⟩) 2 2] W fun en w' => ∃ k, en = .returned (.agg #[.pointer (some ⟨k, 0, none⟩), .int .i64 0]) ∧ New W.heap.size w' k (-2) ∧ Only W w' (fun _ => False) := by
  refine plus2_up b g g' o o' (-3) 1 0 0 1 (-2) W hb hi hi' (by decide) (by decide) (by decide) (by decide) (by decide) ?_ ?_
  · intro V gz ho hz _
    exact lsh0_int gz g' o' 1 V hz (hi'.only ho (fun h => h) (fun _ _ h => h)) (Fits.of (k := 2) (by decide) (by decide)) (by decide)
  · intro V gz gy oy ho hz hy _
    exact add_opp gz g gy none o oy 0 (-3) 1 V hz (hi.only ho (fun h => h) (fun _ _ h => h)) hy (by decide) (by decide) (by decide)
theorem add_31 (A A' : Option Addr) (c c' : Nat) (w : World) (hr : ReadsInt w .i64 A 1 [3]) (hc : 1 ≤ c) (hr' : ReadsInt w .i64 A' 1 [1]) (hc' : 1 ≤ c') (hT : Tab w) :
    Calls Tryz.prog 8 #[.agg #[.bool true, .slice A 1 c, .int .i64 0], .agg #[.bool false, .slice A' 1 c', .int .i64 0]] w (Ans w (-2) 0) := by
  refine add_of true false A A' c c' [3] [1] 0 0 (-2) 0 w hr hc (by decide) hr' hc' (by decide) hT (Fits.of (k := 2) (by decide) (by decide)) (by decide) (by decide) ?_
  intro W b g g' o o' _ hb hi hi'
  exact plus_31 b g g' o o' W hb hi hi'
end Go.Proofs.YtflhdplfkpdejaaGreatFmt
namespace Go.Proofs.YtflhdplfkpdejaaGreatFmt
open Go.RowKit Go.Proofs.YtflhdplfkpdejaaGreatFmtW.PrintWords
set_option maxRecDepth 100000 in
set_option maxHeartbeats 8000000 in
theorem ways_calls (w : World) : Calls Tryz.prog 57 #[] w fun e w' => e = .returned (.agg #[.func (.func 79) #[] #[], .func (.func 80) #[] #[], .func (.func 82) #[] #[]]) ∧ Only w w' (fun _ => False) := by
  go_enter Tryz.func57, Tryz.ntmps57
  go_wp2_with fail
  refine bodyPost_ret (results_cell_row rfl _ _ w.heap.size 95 _ (0, 0) _ rfl (by simpa using heap_alloc_new w (.cells #[.func (.func 79) #[] #[], .func (.func 80) #[] #[], .func (.func 82) #[] #[]] 95)) Tryz.underlying95 rfl (by kernel_rfl)) rfl ?_
  exact ⟨rfl, (Only.refl _ _).alloc _⟩
theorem near_calls (b wd : Int) (ab : Bool) (w : World) : Calls Tryz.prog 79 #[.int .i64 b, .int .i64 wd, .bool ab] w fun e w' => e = .returned (.int .i64 b) ∧ w' = w := by
  go_enter Tryz.func79, Tryz.ntmps79
  go_wp2_with fail
  go_ret
  exact ⟨rfl, rfl⟩
end Go.Proofs.YtflhdplfkpdejaaGreatFmt
namespace Go.Proofs.YtflhdplfkpdejaaGreatFmt
open Go.RowKit Go.Proofs.YtflhdplfkpdejaaGreatFmtW.PrintWords Go.Proofs.YtflhdplfkpdejaaGreatFmtW.PrintLast
set_option linter.unusedVariables false in
set_option linter.unusedSimpArgs false in
set_option maxRecDepth 100000 in
set_option maxHeartbeats 8000000 in
theorem to_lit (gq : Nat) (oq : Option Nat) (w : World) (hq : IsInt w gq oq 12297829382473034410) :
    Calls Tryz.prog 56 #[.agg #[.pointer (some ⟨gq, 0, none⟩), .int .i64 (-65), .bool true], .int .i64 64, .agg #[.func (.func 79) #[] #[]]] w fun en w' => en = .returned (.tuple #[.int .i64 4599676419421066581, .bool true]) ∧ Only w w' (fun _ => False) := by
  obtain ⟨wA, hwA, h1, h2, hoA, hsA⟩ : ∃ wA, wA = ((w.alloc (.cells #[.pointer (some ⟨gq, 0, none⟩), .int .i64 (-65), .bool true] 70)).alloc (.cells #[.func (.func 79) #[] #[]] 94)) ∧ wA.heap[w.heap.size]? = some (.cells #[.pointer (some ⟨gq, 0, none⟩), .int .i64 (-65), .bool true] 70 (0, 0)) ∧ wA.heap[w.heap.size + 1]? = some (.cells #[.func (.func 79) #[] #[]] 94 (0, 0)) ∧ Only w wA (fun _ => False) ∧ w.heap.size + 1 < wA.heap.size :=
    ⟨_, rfl, heap_two' w _ _, heap_two w _ _, ((Only.refl w (fun _ => False)).alloc _).alloc _, by simp⟩
  have hqA := hq.only hoA (fun h => h) (fun _ _ h => h)
  obtain ⟨wB, hwB, hA, hB, hoB⟩ : ∃ wB, wB = (wA.alloc (.cells #[.bool false, .slice none 0 0] 76)).alloc (.cells #[.bool false, .slice none 0 0] 76) ∧ IsInt wB wA.heap.size none 0 ∧ IsInt wB (wA.heap.size + 1) none 0 ∧ Only wA wB (fun _ => False) :=
    ⟨_, rfl, (isInt_alloc wA).alloc_ _, by simpa using isInt_alloc (wA.alloc (.cells #[.bool false, .slice none 0 0] 76)), ((Only.refl wA (fun _ => False)).alloc _).alloc _⟩
  have hbx : ∀ W, Only wA W (fun _ => False) → W.cell? ⟨w.heap.size, 0, none⟩ = some (.pointer (some ⟨gq, 0, none⟩)) ∧ W.cell? ⟨w.heap.size, 1, none⟩ = some (.int .i64 (-65)) ∧ W.cell? ⟨w.heap.size, 2, none⟩ = some (.bool true) ∧ W.cell? ⟨w.heap.size + 1, 0, none⟩ = some (.func (.func 79) #[] #[]) := fun W hW => by
    have a := (hW.kept _ (blk_lt h1) (fun h => h)).trans h1
    have b := (hW.kept _ (blk_lt h2) (fun h => h)).trans h2
    exact ⟨blk_cell a 0, blk_cell a 1, blk_cell a 2, blk_cell b 0⟩
  have HBX := Lib.hid hbx
  have hQn : ((Int.natAbs 12297829382473034410 : Nat) : Int) = 12297829382473034410 := natAbs_nonneg (by decide)
  have hFq : Fits ((Int.natAbs 12297829382473034410 : Nat) : Int) := by rw [hQn]; exact Fits.of (k := 64) (by decide +kernel) (by decide)
  have hFq2 : Fits (12297829382473034410 * 2 ^ 1 : Int) := Fits.of (k := 66) (by decide +kernel) (by decide)
  have HQ := Lib.hid (And.intro hqA (And.intro hFq (And.intro hFq2 hQn)))
  have HO := Lib.hid hoA
  have hlq : gq < wA.heap.size := hqA.lt
  have HLQ := Lib.hid hlq
  have HSA := Lib.hid hsA
  clear hbx hqA hFq hFq2 hQn hoA hlq hsA h1 h2 hq
  go_enter Tryz.func56, Tryz.ntmps56
  go_upto_region 1 with (fail)
  rw [← hwA]
  clear hwA
  obtain ⟨c0, c1, c2, d0⟩ := HBX.out _ (((Only.refl wA (fun _ => False)).alloc (.cells #[.bool false, .slice none 0 0] 76)).alloc (.cells #[.bool false, .slice none 0 0] 76))
  go_wp2_with fail
  rw [← hwB]
  clear hwB c0 c1 c2 d0
  refine (abs_int (wA.heap.size + 1) gq none oq 0 12297829382473034410 wB hB (HQ.out.1.only hoB (fun h => h) (fun _ _ h => h)) HQ.out.2.1 (by have := HLQ.out; omega)).mono ?_
  rintro en wC ⟨rfl, hP⟩
  have hAC : IsInt wC wA.heap.size none 0 := by
    obtain ⟨_, _, ho, _⟩ := hP
    exact hA.keep hB ho (by omega) (fun b h => by cases h)
  rw [HQ.out.2.2.2] at hP
  obtain ⟨⟨oB, hBC, _, _⟩, hoC⟩ := New.put (B := wA.heap.size) rfl hoB (Nat.le_succ _) (fun b h => by cases h) hP
  clear hP hA hB hoB
  obtain ⟨c0, c1, c2, d0⟩ := HBX.out wC hoC
  go_wp2_with fail
  refine (lsh_int wA.heap.size (wA.heap.size + 1) none oB 0 12297829382473034410 1 wC hAC hBC HQ.out.2.1 (by decide) (by decide)).mono ?_
  rintro en wD ⟨rfl, hP⟩
  obtain ⟨⟨oA, hAD, _, hoAb⟩, hoD⟩ := New.put (B := wA.heap.size) rfl hoC (Nat.le_refl _) (fun b h => by cases h) hP
  clear hP hBC hAC hoC c0 c1 c2 d0
  obtain ⟨c0, c1, c2, d0⟩ := HBX.out wD hoD
  go_wp2_with fail
  refine (newInt_any 1 wD (by decide) (by decide)).mono ?_
  rintro en wE ⟨g1, rfl, ⟨o1, h1E, _, _⟩, hoE0⟩
  have hAE := hAD.only hoE0 (fun h => h) (fun _ _ h => h)
  have hoE := hoD.trans hoE0
  clear c0 c1 c2 d0 hoE0 hoD hAD
  go_wp2_with fail
  refine (or_int wA.heap.size wA.heap.size g1 oA oA o1 (12297829382473034410 * 2 ^ 1) (12297829382473034410 * 2 ^ 1) 1 1 wE hAE hAE h1E (by decide +kernel) (by decide) HQ.out.2.2.1 (by decide) (by decide +kernel) (by decide)).mono ?_
  rintro en wF ⟨rfl, hP⟩
  obtain ⟨⟨oF, hAF, _, _⟩, hoF⟩ := New.put (B := wA.heap.size) rfl hoE (Nat.le_refl _) hoAb hP
  rw [show (12297829382473034410 * 2 ^ 1 + 1 : Int) = 24595658764946068821 by decide +kernel] at hAF
  clear hP hAE h1E hoE hoAb
  obtain ⟨c0, c1, c2, d0⟩ := HBX.out wF hoF
  go_wp2_with fail
  refine (sign_pos gq oq 12297829382473034410 wF (HQ.out.1.only hoF (fun h => h) (fun _ _ h => h)) (by decide)).mono ?_
  rintro en w' ⟨rfl, hw⟩
  rw [hw]
  clear hw w'
  go_wp2_with fail
  refine (setInt_lit wF.heap.size wA.heap.size oF _ (heap_alloc_new wF _) (hAF.alloc_ _)).mono ?_
  rintro en wH ⟨rfl, b, c, ys, hfH, hbH, hl, y0, y1, hoG, hbb⟩
  have hsF := hoF.base.size
  have hbb2 : wA.heap.size ≤ b := Nat.le_trans (Nat.le_trans hsF (Nat.le_of_lt (by simp))) hbb
  have hoH : Only wA wH (fun _ => False) := (hoF.alloc _).step hoG (by rintro i hi rfl; omega)
  clear hAF hoG hbb c0 c1 c2 d0
  obtain ⟨c0, c1, c2, d0⟩ := HBX.out wH hoH
  have hm : min (max (-66 : Int) (-4194304)) 4194304 = -66 := by decide
  go_wp2_with fail
  refine (setMantExp_lit wF.heap.size b c ys wH hfH hbH hl y0).mono ?_
  rintro en wI ⟨rfl, hfI, hbI, hoI0⟩
  have hoI : Only wA wI (fun _ => False) := hoH.step hoI0 (by rintro i hi (rfl | rfl) <;> omega)
  clear hfH hbH hoI0 c0 c1 c2 d0 hm hoH hoF
  have z0 : (ys.set 0 9223372036854775808).getD 0 0 = 9223372036854775808 := by simp [List.getD, show 0 < ys.length by omega]
  have z1 : (ys.set 0 9223372036854775808).getD 1 0 = 12297829382473034410 := by simpa [List.getD, show 1 < ys.length by omega] using y1
  go_wp2_with fail
  refine (float64_lit wF.heap.size b c _ wI hfI hbI (by rw [List.length_set]; exact hl) z0 z1).mono ?_
  rintro en wJ ⟨rfl, hoJ0⟩
  have hoJ := hoI.trans hoJ0
  clear hfI hbI z0 z1 y0 y1 hoJ0 hoI hsF hbb2 hl
  obtain ⟨c0, c1, c2, d0⟩ := HBX.out wJ hoJ
  go_wp2_with fail
  refine (of_third wJ).mono ?_
  rintro en w' ⟨rfl, hw⟩
  rw [hw]
  clear hw w'
  go_wp2_with fail
  refine (near_calls _ _ _ _).mono ?_
  rintro en w' ⟨rfl, hw⟩
  rw [hw]
  clear hw w'
  have HOJ := Lib.hid hoJ
  clear c0 c1 c2 d0 hoJ
  go_wp2_with fail
  refine start_ (S := (fun W => Only wJ W (fun _ => False))) (ds := ([] : List Nat)) #[false, false, false, false, false, false, false, false, false, false, false] (by kernel_rfl) rfl rfl ?_ (fun hHeld => ?_)
  · exact (Only.refl wJ _).drew
  generalize wJ.drew = W1 at *
  refine pure_ (i := 0) (oi := ?o0) (v := ?v0) #[true, false, false, false, false, false, false, false, false, false, false] ?h0 rfl (by kernel_rfl) ?q0 (Or.inl ⟨?w0, ?y0⟩) rfl ?r0
  case h0 => (simp only [List.getElem?_toArray, List.getElem?_cons_succ, List.getElem?_cons_zero]; rfl)
  case q0 => exact fun _ _ _ h => h
  case w0 => rfl
  case y0 => (intro W; go_simp; first | done | with_reducible rfl)
  simp only [Act.put, List.setIfInBounds_toArray, List.set_cons_zero, List.set_cons_succ]
  refine pure_ (i := 1) (oi := ?o1) (v := ?v1) #[true, true, false, false, false, false, false, false, false, false, false] ?h1 rfl (by kernel_rfl) ?q1 (Or.inl ⟨?w1, ?y1⟩) rfl ?r1
  case h1 => (simp only [List.getElem?_toArray, List.getElem?_cons_succ, List.getElem?_cons_zero]; rfl)
  case q1 => exact fun _ _ _ h => h
  case w1 => rfl
  case y1 => (intro W; go_simp; first | done | with_reducible rfl)
  simp only [Act.put, List.setIfInBounds_toArray, List.set_cons_zero, List.set_cons_succ]
  refine pure_ (i := 3) (oi := ?o2) (v := ?v2) #[true, true, false, true, false, false, false, false, false, false, false] ?h2 rfl (by kernel_rfl) ?q2 (Or.inl ⟨?w2, ?y2⟩) rfl ?r2
  case h2 => (simp only [List.getElem?_toArray, List.getElem?_cons_succ, List.getElem?_cons_zero]; rfl)
  case q2 => exact fun _ _ _ h => h
  case w2 => rfl
  case y2 => (intro W; go_simp; first | done | with_reducible rfl)
  simp only [Act.put, List.setIfInBounds_toArray, List.set_cons_zero, List.set_cons_succ]
  refine pure_ (i := 4) (oi := ?o3) (v := ?v3) #[true, true, false, true, true, false, false, false, false, false, false] ?h3 rfl (by kernel_rfl) ?q3 (Or.inl ⟨?w3, ?y3⟩) rfl ?r3
  case h3 => (simp only [List.getElem?_toArray, List.getElem?_cons_succ, List.getElem?_cons_zero]; rfl)
  case q3 => exact fun _ _ _ h => h
  case w3 => rfl
  case y3 => (intro W; go_simp; first | done | with_reducible rfl)
  simp only [Act.put, List.setIfInBounds_toArray, List.set_cons_zero, List.set_cons_succ]
  refine wpAnyLast_ready (rs := [2]) (by kernel_rfl) (by simp) ?_
  refine AllReadyL.cons (o := ?o4) ?h4 (by simp) (fun K hK => ?s4) ?m4
  case h4 => (simp only [List.getElem?_toArray, List.getElem?_cons_succ, List.getElem?_cons_zero]; rfl)
  case m4 => exact AllReadyL.nil
  go_simp
  go_at_call 78
  refine (canon_third W1).mono ?_
  rintro en W2 ⟨rfl, ho⟩
  refine hK.out _ _ (hHeld.trans ho) (fun hHeldN => ?_)
  clear hK K hHeld ho
  have hHeld := hHeldN
  clear hHeldN
  simp only [Act.put, List.setIfInBounds_toArray, List.set_cons_zero, List.set_cons_succ]
  refine pure_ (i := 5) (oi := ?o5) (v := ?v5) #[true, true, true, true, true, true, false, false, false, false, false] ?h5 rfl (by kernel_rfl) ?q5 (Or.inl ⟨?w5, ?y5⟩) rfl ?r5
  case h5 => (simp only [List.getElem?_toArray, List.getElem?_cons_succ, List.getElem?_cons_zero]; rfl)
  case q5 => exact fun _ _ _ h => h
  case w5 => rfl
  case y5 => (intro W; go_simp; first | done | with_reducible rfl)
  simp only [Act.put, List.setIfInBounds_toArray, List.set_cons_zero, List.set_cons_succ]
  refine pure_ (i := 9) (oi := ?o6) (v := ?v6) #[true, true, true, true, true, true, false, false, false, true, false] ?h6 rfl (by kernel_rfl) ?q6 (Or.inl ⟨?w6, ?y6⟩) rfl ?r6
  case h6 => (simp only [List.getElem?_toArray, List.getElem?_cons_succ, List.getElem?_cons_zero]; rfl)
  case q6 => exact fun _ _ _ h => h
  case w6 => rfl
  case y6 => (intro W; go_simp; first | done | with_reducible rfl)
  simp only [Act.put, List.setIfInBounds_toArray, List.set_cons_zero, List.set_cons_succ]
  refine pure_ (i := 6) (oi := ?o7) (v := undef) #[true, true, true, true, true, true, true, false, false, true, false] ?h7 rfl (by kernel_rfl) ?q7 (Or.inr ⟨?w7, rfl⟩) rfl ?r7
  case h7 => (simp only [List.getElem?_toArray, List.getElem?_cons_succ, List.getElem?_cons_zero]; rfl)
  case q7 => exact fun _ _ _ h => h
  case w7 => rfl
  simp only [Act.put, List.setIfInBounds_toArray, List.set_cons_zero, List.set_cons_succ]
  refine pure_ (i := 7) (oi := ?o8) (v := undef) #[true, true, true, true, true, true, true, true, false, true, false] ?h8 rfl (by kernel_rfl) ?q8 (Or.inr ⟨?w8, rfl⟩) rfl ?r8
  case h8 => (simp only [List.getElem?_toArray, List.getElem?_cons_succ, List.getElem?_cons_zero]; rfl)
  case q8 => exact fun _ _ _ h => h
  case w8 => rfl
  simp only [Act.put, List.setIfInBounds_toArray, List.set_cons_zero, List.set_cons_succ]
  refine pure_ (i := 8) (oi := ?o9) (v := ?v9) #[true, true, true, true, true, true, true, true, true, true, false] ?h9 rfl (by kernel_rfl) ?q9 (Or.inl ⟨?w9, ?y9⟩) rfl ?r9
  case h9 => (simp only [List.getElem?_toArray, List.getElem?_cons_succ, List.getElem?_cons_zero]; rfl)
  case q9 => exact fun _ _ _ h => h
  case w9 => rfl
  case y9 => (intro W; go_simp; first | done | with_reducible rfl)
  simp only [Act.put, List.setIfInBounds_toArray, List.set_cons_zero, List.set_cons_succ]
  refine pure_ (i := 10) (oi := ?o10) (v := ?v10) #[true, true, true, true, true, true, true, true, true, true, true] ?h10 rfl (by kernel_rfl) ?q10 (Or.inl ⟨?w10, ?y10⟩) rfl ?r10
  case h10 => (simp only [List.getElem?_toArray, List.getElem?_cons_succ, List.getElem?_cons_zero]; rfl)
  case q10 => exact fun _ _ _ h => h
  case w10 => rfl
  case y10 => (intro W; go_simp; first | done | with_reducible rfl)
  simp only [Act.put, List.setIfInBounds_toArray, List.set_cons_zero, List.set_cons_succ]
  refine done_ (by kernel_rfl) ?_
  go_wp2_with fail
  go_ret2
  exact ⟨rfl, (HO.out.trans HOJ.out).trans hHeld⟩
end Go.Proofs.YtflhdplfkpdejaaGreatFmt
namespace Go.Proofs.YtflhdplfkpdejaaGreatFmt
open Go.RowKit Go.Proofs.YtflhdplfkpdejaaGreatFmtW.PrintWords
theorem way_first (f1 f2 f3 : Value) (w : World) : (Instr.index 95 (.agg #[f1, f2, f3]) (.int .i64 0)).run Tryz.prog w = .ok (.agg #[f1]) w := by
  have h : (Tryz.prog.info? 94).map (fun i => i.size) = some 1 := by kernel_rfl
  obtain ⟨j, hj, h2⟩ := Option.map_eq_some_iff.1 h
  simp [Instr.index, asIntOf, run_underlying Tryz.underlying95, part, sizeOf, typeInfo, hj, h2]
theorem results_round {fn : Func} {p r q : Tmp} (h : fn.results = #[.tmp p, .tmp r, .cell q 32]) (tmps : Array Value) (w : World) (E : Nat) (a b : Value) (n : Int)
    (hp : tmps.getD p undef = a) (hr : tmps.getD r undef = b) (hq : tmps.getD q undef = .pointer (some ⟨E, 0, none⟩)) (hv : w.cell? ⟨E, 0, none⟩ = some (.int .i64 n)) :
    (results fn tmps).run Tryz.prog w = .ok (.tuple #[a, b, .int .i64 n]) w := by
  have hp' : tmps[p]?.getD undef = a := by simpa using hp
  have hr' : tmps[r]?.getD undef = b := by simpa using hr
  have hq' : tmps[q]?.getD undef = .pointer (some ⟨E, 0, none⟩) := by simpa using hq
  simp [results, h, hp', hr', hq', asAddr, go_sem, hv]
theorem round_door {fn : Func} {p r q : Tmp} (h : fn.results = #[.tmp p, .tmp r, .cell q 32]) (tmps : Array Value) (w : World) (E : Nat) (a b : Value) (n : Int) (R : Ending → World → Prop)
    (hp : tmps.getD p undef = a) (hr : tmps.getD r undef = b) (hq : tmps.getD q undef = .pointer (some ⟨E, 0, none⟩)) (hE : w.cell? ⟨E, 0, none⟩ = some (.int .i64 n))
    (hR : R (.returned (.tuple #[a, b, .int .i64 n])) w) :
    Leaves Tryz.prog fn tmps R [{ target := .fn (.func 25) #[], args := #[.pointer (some ⟨E, 0, none⟩)] }] .returning w := by
  refine leaves_cons (f := 25) (args := #[.pointer (some ⟨E, 0, none⟩)]) (by simp) (by simp [go_sem]) ?_
  refine (caught_idle ⟨E, 0, none⟩ w).mono ?_
  rintro e u' w' ⟨rfl, rfl, rfl⟩
  exact ⟨_, results_round h tmps _ E _ _ n hp hr hq hE, hR⟩
set_option maxRecDepth 100000 in
set_option maxHeartbeats 8000000 in
theorem rounded_13 (b : Nat) (A A' : Option Addr) (c c' : Nat) (w : World) (hb : w.heap[b]? = some (.cells #[.bool false, .slice A 1 c, .int .i64 0, .bool false, .slice A' 1 c', .int .i64 0] 24 (0, 0))) (hr : ReadsInt w .i64 A 1 [1]) (hc : 1 ≤ c) (hr' : ReadsInt w .i64 A' 1 [3]) (hc' : 1 ≤ c') :
    Calls Tryz.prog 32 #[.int .i64 64, .int .i64 0, .slice (some ⟨b, 0, none⟩) 2 2, .func (.func 33) #[] #[]] w fun en w' => en = .returned (.tuple #[.int .i64 4599676419421066581, .bool true, .int .i64 0]) ∧ Only w w' (fun _ => False) := by
  obtain ⟨w1, hw1, hE, ho1⟩ : ∃ w1, w1 = w.alloc (.cells #[.int .i64 0] 32) ∧ w1.heap[w.heap.size]? = some (.cells #[.int .i64 0] 32 (0, 0)) ∧ Only w w1 (fun _ => False) := ⟨_, rfl, heap_alloc_new w _, (Only.refl w _).alloc _⟩
  have HOP := Lib.hid (open2_ok b false false A A' c c' [1] [3] 0 0 w1 ((ho1.kept _ (blk_lt hb) (fun h => h)).trans hb) (reads_only hr ho1 (fun _ _ h => h)) hc (by decide) (reads_only hr' ho1 (fun _ _ h => h)) hc' (by decide))
  have HE := Lib.hid (And.intro hE ho1)
  clear hb hr hr' hE ho1
  go_enter_defers Tryz.func32, Tryz.ntmps32
  go_upto_region 1 with (fail)
  rw [← hw1]
  clear hw1
  go_wp2_with fail
  refine HOP.out.mono ?_
  rintro en w2 ⟨rfl, ho2, g, g', m, hout, hm, ⟨o, hi, _⟩, ⟨o', hi', _⟩⟩
  have hi : IsInt w2 g o 1 := hi
  have hi' : IsInt w2 g' o' 3 := hi'
  go_wp2_with fail
  refine (quot1_13 w1.heap.size g g' o o' w2 hout hi hi').mono ?_
  rintro en w3 ⟨gq, oq, rfl, hq, ho3⟩
  clear hi hi' hout hm
  go_wp2_with fail
  refine (ways_calls w3).mono ?_
  rintro en w4 ⟨rfl, ho4⟩
  have hway := fun w => way_first (.func (.func 79) #[] #[]) (.func (.func 80) #[] #[]) (.func (.func 82) #[] #[]) w
  go_wp2_with fail
  refine (to_lit gq oq w4 (hq.only ho4 (fun h => h) (fun _ _ h => h))).mono ?_
  rintro en w5 ⟨rfl, ho5⟩
  obtain ⟨hE, ho1⟩ := HE.out
  have ho15 := ((ho2.trans ho3).trans ho4).trans ho5
  have hE5 := (ho15.kept _ (blk_lt hE) (fun h => h)).trans hE
  have e0 : w5.cell? ⟨w.heap.size, 0, none⟩ = some (.int .i64 0) := blk_cell hE5 0
  have fe0 := blk_frozen hE5 0
  have HF := Lib.hid (And.intro hE5 (ho1.trans ho15))
  clear hq ho2 ho3 ho4 ho5 hE ho1 ho15 hE5 HOP HE
  go_wp2_with fail
  have hE6 := blk_set HF.out.1 0 (.int .i64 0)
  refine round_door rfl _ _ w.heap.size _ _ 0 _ rfl rfl rfl (by simpa using blk_cell hE6 0) ⟨rfl, ?_⟩
  exact HF.out.2.set (.inl (Nat.le_refl _)) _
set_option maxRecDepth 100000 in
set_option maxHeartbeats 8000000 in
theorem quot_13 (A A' : Option Addr) (c c' : Nat) (w : World) (hr : ReadsInt w .i64 A 1 [1]) (hc : 1 ≤ c) (hr' : ReadsInt w .i64 A' 1 [3]) (hc' : 1 ≤ c') :
    Calls Tryz.prog 10 #[.agg #[.bool false, .slice A 1 c, .int .i64 0], .agg #[.bool false, .slice A' 1 c', .int .i64 0], .int .i64 64, .int .i64 0] w fun en w' => en = .returned (.tuple #[.int .i64 4599676419421066581, .bool true, .int .i64 0]) ∧ Only w w' (fun _ => False) := by
  have HR := Lib.hid (And.intro hr hr')
  clear hr hr'
  go_enter Tryz.func10, Tryz.ntmps10
  go_wp2_with fail
  have hb := heap_alloc_new ((w.alloc (.cells #[.bool false, .slice A 1 c, .int .i64 0] 24)).alloc (.cells #[.bool false, .slice A' 1 c', .int .i64 0] 24)) (.cells #[.bool false, .slice A 1 c, .int .i64 0, .bool false, .slice A' 1 c', .int .i64 0] 24)
  have ho := (((Only.refl w (fun _ => False)).alloc (.cells #[.bool false, .slice A 1 c, .int .i64 0] 24)).alloc (.cells #[.bool false, .slice A' 1 c', .int .i64 0] 24)).alloc (.cells #[.bool false, .slice A 1 c, .int .i64 0, .bool false, .slice A' 1 c', .int .i64 0] 24)
  refine (rounded_13 (w.heap.size + 1 + 1) A A' c c' _ (by simpa using hb) (reads_only HR.out.1 ho (fun _ _ h => h)) hc (reads_only HR.out.2 ho (fun _ _ h => h)) hc').mono ?_
  rintro en w' ⟨rfl, ho'⟩
  have HO := Lib.hid (ho.trans ho')
  clear hb ho ho'
  go_wp2_with fail
  go_ret3
  exact ⟨rfl, HO.out⟩
end Go.Proofs.YtflhdplfkpdejaaGreatFmt
namespace Go.Proofs.YtflhdplfkpdejaaGreatFmt
open Go.RowKit Go.Proofs.YtflhdplfkpdejaaGreatFmtW.PrintWords Go.Proofs.YtflhdplfkpdejaaGreatFmtW.PrintLast
theorem odd_two {x q q0 : Int} {t t0 : Nat} (h : x = q * 2 ^ t) (h0 : x = q0 * 2 ^ t0) (hq : q % 2 = 1) (hq0 : q0 % 2 = 1) : t = t0 ∧ q = q0 := by
  have key : ∀ (a b : Int) (s d : Nat), a * 2 ^ s = b * 2 ^ (s + d) → a % 2 = 1 → a = b * 2 ^ d := by
    intro a b s d h _
    rw [Int.pow_add, Int.mul_comm (2 ^ s), ← Int.mul_assoc] at h
    exact Int.eq_of_mul_eq_mul_right (Int.ne_of_gt (Int.pow_pos (by decide))) h
  rcases Nat.le_total t t0 with hle | hle
  · obtain ⟨d, rfl⟩ : ∃ d, t0 = t + d := ⟨t0 - t, by omega⟩
    obtain ⟨rfl, rfl⟩ := odd_shift (key q q0 t d (h ▸ h0) hq) hq
    exact ⟨rfl, rfl⟩
  · obtain ⟨d, rfl⟩ : ∃ d, t = t0 + d := ⟨t - t0, by omega⟩
    obtain ⟨rfl, rfl⟩ := odd_shift (key q0 q t0 d (h0 ▸ h) hq0) hq0
    exact ⟨rfl, rfl⟩
theorem own_read1 {w : World} {B : Nat} {v : Value} {ds : List Int} (h : w.ownsRow B 3 1 v ds.length (nums .i64 ds)) (h0 : 0 < ds.length) : ∃ A c, v = .slice A ds.length c ∧ ReadsInt w .i64 A ds.length ds ∧ ds.length ≤ c := by
  obtain ⟨A, c, rfl, hr⟩ := own_reads h
  obtain ⟨g, cap, e, _, hc⟩ := own_row_some h h0
  cases e
  exact ⟨_, _, rfl, hr, hc⟩
theorem ans_lit {w w' : World} {z e q0 : Int} {t0 : Nat} {en : Ending} {ds0 : List Int} {b : Bool} {f : Int} {n : Nat} (h : Ans w z e en w') (hz : ((Int.natAbs z : Nat) : Int) = q0 * 2 ^ t0) (ho : q0 % 2 = 1) (hq : 0 < q0) (hv : val ds0 = q0) (hn : Nm ds0) (hl : ds0.length ≤ 2000) (hl0 : 0 < ds0.length) (h1 : -1048576 ≤ f) (h2 : f ≤ 1048576) (hb : decide (z < 0) = b) (hf : e + t0 = f) (hln : ds0.length = n) :
    Only w w' (fun _ => False) ∧ ∃ A c, en = .returned (.tuple #[.agg #[.bool b, .slice A n c, .int .i64 f], .int .i64 0]) ∧ w'.ownsRow w.heap.size 3 1 (.slice A n c) n (nums .i64 ds0) ∧ ReadsInt w' .i64 A n ds0 ∧ n ≤ c := by
  subst hb hf hln
  obtain ⟨hw, h | ⟨hz0, t, k, q, a, b, c, d, h⟩⟩ := h
  · have : (0 : Int) < q0 * 2 ^ t0 := Int.mul_pos hq (Int.pow_pos (by decide))
    omega
  · obtain ⟨rfl, rfl⟩ := odd_two a hz b ho
    refine ⟨hw, ?_⟩
    rcases h with ⟨h3, _⟩ | ⟨_, _, _, v, es, rfl, hown, hval, hnm⟩
    · have := blen_digs hn.1 hl (hv ▸ d)
      omega
    · obtain rfl := nm_inj hnm hn (hval.trans hv.symm)
      obtain ⟨A, c, rfl, hr, hc⟩ := own_read1 hown hl0
      exact ⟨A, c, rfl, hown, hr, hc⟩
theorem int_lit {w w' : World} {n : Int} {en : Ending} (h : IntAns w n en w') (ho : n % 2 = 1) (hn : 0 < n) (hn2 : n < 1073741824) :
    Only w w' (fun _ => False) ∧ ∃ A c, en = .returned (.agg #[.bool false, .slice A 1 c, .int .i64 0]) ∧ ReadsInt w' .i64 A 1 [n] ∧ 1 ≤ c := by
  obtain ⟨hw, h | ⟨hz0, t, q, a, b, c, d, A, ds, cp, rfl, hown, hval, hnm⟩⟩ := h
  · omega
  · have hz : ((Int.natAbs n : Nat) : Int) = n * 2 ^ 0 := by rw [natAbs_nonneg (by omega)]; simp
    obtain ⟨rfl, rfl⟩ := odd_two a hz b ho
    have hN : Nm [q] := ⟨fun x hx => by simp at hx; omega, fun _ => by simp; omega⟩
    obtain rfl := nm_inj hnm hN (hval.trans (by simp [val]))
    obtain ⟨A', c', e, hr, hc⟩ := own_read1 hown (by simp)
    cases e
    refine ⟨hw, A, cp, ?_, hr, hc⟩
    rw [decide_eq_false (by omega)]
    rfl
theorem same_num (neg : Bool) (ds : List Int) (e : Int) (neg' : Bool) (ds' : List Int) (e' : Int) (A A' : Option Addr) (c c' : Nat) (b : Bool) (k : Nat) (w : World) (hr : ReadsInt w .i64 A ds.length ds) (hc : ds.length ≤ c) (hr' : ReadsInt w .i64 A' ds'.length ds') (hc' : ds'.length ≤ c') (h : F.pupillaw2_SameNum.f k neg ds e neg' ds' e' = some b) :
    Calls Tryz.prog 11 #[.agg #[.bool neg, .slice A ds.length c, .int .i64 e], .agg #[.bool neg', .slice A' ds'.length c', .int .i64 e']] w fun en w' => en = .returned (.bool b) ∧ Only w w' (fun _ => False) :=
  (F.pupillaw2_SameNum.calls k neg A c ds e neg' A' c' ds' e' b w (kd_ints hr) hc (kd_ints hr') hc' h).mono fun _ _ ⟨h1, h2⟩ => ⟨h1, Only.of_below h2⟩
theorem nm_1 (d : Int) (h0 : 0 < d) (h1 : d < 1073741824) : Nm [d] := ⟨fun x hx => by simp at hx; omega, fun _ => by simp; omega⟩
theorem own_reads1 {w : World} {B n : Nat} {A : Option Addr} {c : Nat} {ds : List Int} (h : w.ownsRow B 3 1 (.slice A n c) n (nums .i64 ds)) : ReadsInt w .i64 A n ds := by
  obtain ⟨A', c', e, hr⟩ := own_reads h
  cases e
  exact hr
set_option linter.unusedVariables false in
set_option linter.unusedSimpArgs false in
set_option maxRecDepth 100000 in
set_option maxHeartbeats 8000000 in
theorem alive_calls (w : World) (hT : Tab w) : Calls Tryz.prog 4 #[] w fun en w' => en = .returned (.bool true) ∧ Only w w' (fun _ => False) := by
  have HT : Hid (∀ W, Only w W (fun _ => False) → Tab W) := Lib.hid (fun W h => hT.only h)
  go_enter Tryz.func4, Tryz.ntmps4
  go_wp2_with fail
  have hoa := (Only.refl w (fun _ => False)).alloc (.cells (nums .i64 [6]).toArray 3)
  refine (make_ok true (some ⟨w.heap.size, 0, none⟩) 1 [6] (-1) _ (reads_lit w [6] (by decide)) (by decide) (HT.out _ hoa) (fun x hx => by simp at hx; omega) (by decide)).mono ?_
  rintro en w1 h1
  obtain ⟨ho1, A1, c1, rfl, hown1, hr1, hc1⟩ := ans_lit (q0 := 3) (t0 := 1) (ds0 := [3]) (b := true) (f := 0) (n := 1) h1 (by decide) (by decide) (by decide) (by decide) (nm_1 3 (by decide) (by decide)) (by decide) (by decide) (by decide) (by decide) (by decide) (by decide) rfl
  replace ho1 := hoa.trans ho1
  clear h1 hoa hown1
  go_wp2_with fail
  have hX := heap_alloc_new w1 (.cells #[.bool true, .slice A1 1 c1, .int .i64 0] 24)
  have hoX := ho1.alloc (.cells #[.bool true, .slice A1 1 c1, .int .i64 0] 24)
  have hr2 := reads_only hr1 ((Only.refl w1 (fun _ => False)).alloc (.cells #[.bool true, .slice A1 1 c1, .int .i64 0] 24)) (fun _ _ h => h)
  clear hr1 ho1
  generalize w1.alloc (.cells #[.bool true, .slice A1 1 c1, .int .i64 0] 24) = w2 at *
  generalize w1.heap.size = X at *
  have hk : ∀ W, Only w2 W (fun _ => False) → W.cell? ⟨X, 0, none⟩ = some (.bool true) ∧ W.cell? ⟨X, 1, none⟩ = some (.slice A1 1 c1) ∧ W.cell? ⟨X, 2, none⟩ = some (.int .i64 0) := fun W hW => by
    have a := (hW.kept _ (blk_lt hX) (fun h => h)).trans hX
    exact ⟨blk_cell a 0, blk_cell a 1, blk_cell a 2⟩
  have HK := Lib.hid hk
  have H2 := Lib.hid (And.intro hoX hr2)
  clear hk hX hoX hr2
  go_cut [3, 4] (fun v3 v4 wc => ∃ Y A3 c3, v3 = .pointer (some ⟨Y, 0, none⟩) ∧ v4 = .int .i64 0 ∧ wc.heap[Y]? = some (.cells #[.bool true, .slice A3 1 c3, .int .i64 1] 24 (0, 0)) ∧ wc.ownsRow 0 3 1 (.slice A3 1 c3) 1 (nums .i64 [1]) ∧ 1 ≤ c3 ∧ Only w2 wc (fun _ => False))
  case rest =>
    obtain ⟨Y, A3, c3, rfl, rfl, hY, hown, hc3, ho⟩ := hcut
    obtain ⟨hoX, hr2⟩ := H2.out
    go_wp2_with fail
    refine (int_calls 1 wc (by decide) (by decide) (HT.out _ (hoX.trans ho))).mono ?_
    rintro en w4 hI
    obtain ⟨ho4, A4, c4, rfl, hr4, hc4⟩ := int_lit hI (by decide) (by decide) (by decide)
    clear hI
    go_wp2_with fail
    refine (int_calls 3 w4 (by decide) (by decide) (HT.out _ ((hoX.trans ho).trans ho4))).mono ?_
    rintro en w5 hI
    obtain ⟨ho5, A5, c5, rfl, hr5, hc5⟩ := int_lit hI (by decide) (by decide) (by decide)
    clear hI
    go_wp2_with fail
    refine (quot_13 A4 A5 c4 c5 w5 (reads_only hr4 ho5 (fun _ _ h => h)) hc4 hr5 hc5).mono ?_
    rintro en w6 ⟨rfl, ho6⟩
    have ho46 := (ho4.trans ho5).trans ho6
    have ho26 := ho.trans ho46
    have hb6 : ∀ W, Only w6 W (fun _ => False) → (W.cell? ⟨X, 0, none⟩ = some (.bool true) ∧ W.cell? ⟨X, 1, none⟩ = some (.slice A1 1 c1) ∧ W.cell? ⟨X, 2, none⟩ = some (.int .i64 0)) ∧ (W.cell? ⟨Y, 0, none⟩ = some (.bool true) ∧ W.cell? ⟨Y, 1, none⟩ = some (.slice A3 1 c3) ∧ W.cell? ⟨Y, 2, none⟩ = some (.int .i64 1)) ∧ ReadsInt W .i64 A1 1 [3] ∧ ReadsInt W .i64 A3 1 [1] ∧ Only w W (fun _ => False) := fun W hW => by
      have a := ((ho46.trans hW).kept _ (blk_lt hY) (fun h => h)).trans hY
      exact ⟨HK.out W (ho26.trans hW), ⟨blk_cell a 0, blk_cell a 1, blk_cell a 2⟩, reads_only hr2 (ho26.trans hW) (fun _ _ h => h), reads_only (own_reads1 hown) (ho46.trans hW) (fun _ _ h => h), (hoX.trans ho26).trans hW⟩
    have H6 := Lib.hid hb6
    clear hb6 hY hown ho ho4 ho5 ho6 ho46 ho26 hr4 hr5 hoX hr2 HK H2 HT
    obtain ⟨⟨q0, q1, q2⟩, _⟩ := H6.out w6 (Only.refl _ _)
    go_wp2_with fail
    have ho7 := (Only.refl w6 (fun _ => False)).alloc (.cells (nums .i64 [3]).toArray 3)
    refine (same_num true [3] 0 true [3] 0 A1 (some ⟨w6.heap.size, 0, none⟩) c1 1 true 5 _ (H6.out _ ho7).2.2.1 hc1 (reads_lit w6 [3] (by decide)) (by decide) (by decide +kernel)).mono ?_
    rintro en w7 ⟨rfl, ho7'⟩
    replace ho7 := ho7.trans ho7'
    obtain ⟨_, ⟨q0, q1, q2⟩, _⟩ := H6.out w7 ho7
    go_wp2_with fail
    have ho8 := ho7.alloc (.cells (nums .i64 [1]).toArray 3)
    refine (same_num true [1] 1 true [1] 1 A3 (some ⟨w7.heap.size, 0, none⟩) c3 1 true 5 _ (H6.out _ ho8).2.2.2.1 hc3 (reads_lit w7 [1] (by decide)) (by decide) (by decide +kernel)).mono ?_
    rintro en w9 ⟨rfl, ho9⟩
    have HF := Lib.hid (H6.out _ (ho8.trans ho9)).2.2.2.2
    clear q0 q1 q2 ho7 ho7' ho8 ho9
    go_wp2_with fail
    go_ret
    exact ⟨rfl, HF.out⟩
  case first =>
    refine start_ (S := (fun W => Only w2 W (fun _ => False))) (ds := ([] : List Nat)) #[false, false, false, false, false, false, false, false, false] (by kernel_rfl) rfl rfl ?_ (fun hHeld => ?_)
    · exact (Only.refl w2 _).drew
    generalize w2.drew = W1 at *
    refine wpAnyLast_take (i := 0) (oi := ?o0) (v := ?v0) ?h0 (by kernel_rfl) (by kernel_rfl) (by kernel_rfl) (by kernel_rfl) (by kernel_rfl) ?q0 (Or.inl ⟨?w0, ?y0⟩) hHeld ?r0
    case h0 => (simp only [List.getElem?_toArray, List.getElem?_cons_succ, List.getElem?_cons_zero]; rfl)
    case q0 => exact fun _ _ _ h => h
    case w0 => rfl
    case y0 => (intro W hSw; obtain ⟨q0, q1, q2⟩ := HK.out _ hSw; go_simp; first | done | with_reducible rfl)
    simp only [Act.put, List.setIfInBounds_toArray, List.set_cons_zero, List.set_cons_succ]
    refine wpAnyLast_ready (rs := [1, 6]) (by kernel_rfl) (by simp) ?_
    refine AllReadyL.cons (o := ?o1) ?h1 (by simp) (fun K hK => ?s1) ?m1
    case h1 => (simp only [List.getElem?_toArray, List.getElem?_cons_succ, List.getElem?_cons_zero]; rfl)
    case s1 =>
      go_simp
      go_at_call 9
      refine (int_calls 1 W1 (by decide) (by decide) (HT.out _ (H2.out.1.trans hHeld))).mono ?_
      rintro en W2 hI
      obtain ⟨hoI, AI, cI, rfl, hrI, hcI⟩ := int_lit hI (by decide) (by decide) (by decide)
      refine hK.out _ _ (hHeld.trans hoI) (fun hHeldN => ?_)
      clear hK K hHeld
      have hHeld := hHeldN
      clear hHeldN
      clear hI hoI
      simp only [Act.put, List.setIfInBounds_toArray, List.set_cons_zero, List.set_cons_succ]
      refine wpAnyLast_ready (rs := [2, 6]) (by kernel_rfl) (by simp) ?_
      refine AllReadyL.cons (o := ?o2) ?h2 (by simp) (fun K hK => ?s2) ?m2
      case h2 => (simp only [List.getElem?_toArray, List.getElem?_cons_succ, List.getElem?_cons_zero]; rfl)
      case s2 =>
        go_simp
        go_at_call 8
        refine (add_31 A1 AI c1 cI W2 (reads_only H2.out.2 hHeld (fun _ _ h => h)) hc1 hrI hcI (HT.out _ (H2.out.1.trans hHeld))).mono ?_
        rintro en W3 hI
        obtain ⟨hoI, A3, c3, rfl, hownA, _, hc3⟩ := ans_lit (q0 := 1) (t0 := 1) (ds0 := [1]) (b := true) (f := 1) (n := 1) hI (by decide) (by decide) (by decide) (by decide) (nm_1 1 (by decide) (by decide)) (by decide) (by decide) (by decide) (by decide) (by decide) (by decide) rfl
        refine hK.out _ _ (hHeld.trans hoI) (fun hHeldN => ?_)
        clear hK K hHeld
        have hHeld := hHeldN
        clear hHeldN
        clear hI hoI hrI
        simp only [Act.put, List.setIfInBounds_toArray, List.set_cons_zero, List.set_cons_succ]
        refine pure_ (i := 3) (oi := ?o3) (v := ?v3) #[true, true, true, true, false, false, false, false, false] ?h3 rfl (by kernel_rfl) ?q3 (Or.inl ⟨?w3, ?y3⟩) rfl ?r3
        case h3 => (simp only [List.getElem?_toArray, List.getElem?_cons_succ, List.getElem?_cons_zero]; rfl)
        case q3 => exact fun _ _ _ h => h
        case w3 => rfl
        case y3 => (intro W; go_simp; first | done | with_reducible rfl)
        simp only [Act.put, List.setIfInBounds_toArray, List.set_cons_zero, List.set_cons_succ]
        refine pure_ (i := 4) (oi := ?o4) (v := ?v4) #[true, true, true, true, true, false, false, false, false] ?h4 rfl (by kernel_rfl) ?q4 (Or.inl ⟨?w4, ?y4⟩) rfl ?r4
        case h4 => (simp only [List.getElem?_toArray, List.getElem?_cons_succ, List.getElem?_cons_zero]; rfl)
        case q4 => exact fun _ _ _ h => h
        case w4 => rfl
        case y4 => (intro W; go_simp; first | done | with_reducible rfl)
        simp only [Act.put, List.setIfInBounds_toArray, List.set_cons_zero, List.set_cons_succ]
        refine pure_ (i := 5) (oi := ?o5) (v := ?v5) #[true, true, true, true, true, true, false, false, false] ?h5 rfl (by kernel_rfl) ?q5 (Or.inl ⟨?w5, ?y5⟩) rfl ?r5
        case h5 => (simp only [List.getElem?_toArray, List.getElem?_cons_succ, List.getElem?_cons_zero]; rfl)
        case q5 => exact fun _ _ _ h => h
        case w5 => rfl
        case y5 => (intro W; go_simp; first | done | with_reducible rfl)
        simp only [Act.put, List.setIfInBounds_toArray, List.set_cons_zero, List.set_cons_succ]
        refine wpAnyLast_ready (rs := [6]) (by kernel_rfl) (by simp) ?_
        refine AllReadyL.cons (o := ?o6) ?h6 (by simp) (fun K hK => ?s6) ?m6
        case h6 => (simp only [List.getElem?_toArray, List.getElem?_cons_succ, List.getElem?_cons_zero]; rfl)
        case m6 => exact AllReadyL.nil
        go_simp
        have hY := heap_alloc_new W3 (.cells #[.bool false, .slice none 0 0, .int .i64 0] 24)
        have hoY := (Only.refl W3 (fun _ => False)).alloc (.cells #[.bool false, .slice none 0 0, .int .i64 0] 24)
        have hYs := hHeld.base.size
        replace hownA := pw_own_below hownA (hoY.below (Nat.le_refl _) (fun _ h => h.elim))
        refine hK.out _ _ (hHeld.alloc _) (fun hHeldN => ?_)
        clear hK K hHeld
        have hHeld := hHeldN
        clear hHeldN
        clear hoY
        simp only [Act.put, List.setIfInBounds_toArray, List.set_cons_zero, List.set_cons_succ]
        generalize W3.heap.size = Y at *
        generalize W3.alloc (.cells #[.bool false, .slice none 0 0, .int .i64 0] 24) = W4 at *
        refine wpAnyLast_ready (rs := [7]) (by kernel_rfl) (by simp) ?_
        refine AllReadyL.cons (o := ?o7) ?h7 (by simp) (fun K hK => ?s7) ?m7
        case h7 => (simp only [List.getElem?_toArray, List.getElem?_cons_succ, List.getElem?_cons_zero]; rfl)
        case m7 => exact AllReadyL.nil
        have y0 : W4.cell? ⟨Y, 0, none⟩ = some (.bool false) := blk_cell hY 0
        have y1 : W4.cell? ⟨Y, 1, none⟩ = some (.slice none 0 0) := blk_cell hY 1
        have y2 : W4.cell? ⟨Y, 2, none⟩ = some (.int .i64 0) := blk_cell hY 2
        have f0 := blk_frozen hY 0
        have f1 := blk_frozen hY 1
        have f2 := blk_frozen hY 2
        go_simp
        refine hK.out _ _ (((hHeld.set (p := ⟨Y, 0, none⟩) (.inl hYs) _).set (p := ⟨Y, 1, none⟩) (.inl hYs) _).set (p := ⟨Y, 2, none⟩) (.inl hYs) _) (fun hHeldN => ?_)
        clear hK K y0 y1 y2 f0 f1 f2
        simp only [Act.put, List.setIfInBounds_toArray, List.set_cons_zero, List.set_cons_succ]
        refine pure_ (i := 8) (oi := ?o8) (v := ?v8) #[true, true, true, true, true, true, true, true, true] ?h8 rfl (by kernel_rfl) ?q8 (Or.inl ⟨?w8, ?y8⟩) rfl ?r8
        case h8 => (simp only [List.getElem?_toArray, List.getElem?_cons_succ, List.getElem?_cons_zero]; rfl)
        case q8 => exact fun _ _ _ h => h
        case w8 => rfl
        case y8 => (intro W; go_simp; first | done | with_reducible rfl)
        simp only [Act.put, List.setIfInBounds_toArray, List.set_cons_zero, List.set_cons_succ]
        refine done_ (by kernel_rfl) ?_
        obtain ⟨s1, s2⟩ := stored1 hY (.bool true) (.slice A3 1 c3) (.int .i64 1)
        have hown9 := own_weaken (own_other_num hownA hY s2) (Nat.zero_le _)
        go_wp2_with fail
        go_meet
        case rel => exact ⟨Y, A3, c3, rfl, rfl, s1, hown9, hc3, hHeldN⟩
      refine AllReadyL.cons (o := ?o9) ?h9 (by simp) (fun K hK => ?s9) ?m9
      case h9 => (simp only [List.getElem?_toArray, List.getElem?_cons_succ, List.getElem?_cons_zero]; rfl)
      case m9 => exact AllReadyL.nil
      case s9 =>
        go_simp
        have hY := heap_alloc_new W2 (.cells #[.bool false, .slice none 0 0, .int .i64 0] 24)
        have hoY := (Only.refl W2 (fun _ => False)).alloc (.cells #[.bool false, .slice none 0 0, .int .i64 0] 24)
        have hYs := hHeld.base.size
        replace hrI := reads_only hrI hoY (fun _ _ h => h)
        refine hK.out _ _ (hHeld.alloc _) (fun hHeldN => ?_)
        clear hK K hHeld
        have hHeld := hHeldN
        clear hHeldN
        clear hoY
        simp only [Act.put, List.setIfInBounds_toArray, List.set_cons_zero, List.set_cons_succ]
        generalize W2.heap.size = Y at *
        generalize W2.alloc (.cells #[.bool false, .slice none 0 0, .int .i64 0] 24) = W5 at *
        refine wpAnyLast_ready (rs := [2]) (by kernel_rfl) (by simp) ?_
        refine AllReadyL.cons (o := ?o10) ?h10 (by simp) (fun K hK => ?s10) ?m10
        case h10 => (simp only [List.getElem?_toArray, List.getElem?_cons_succ, List.getElem?_cons_zero]; rfl)
        case m10 => exact AllReadyL.nil
        go_simp
        go_at_call 8
        refine (add_31 A1 AI c1 cI W5 (reads_only H2.out.2 hHeld (fun _ _ h => h)) hc1 hrI hcI (HT.out _ (H2.out.1.trans hHeld))).mono ?_
        rintro en W6 hI
        obtain ⟨hoI, A3, c3, rfl, hownA, _, hc3⟩ := ans_lit (q0 := 1) (t0 := 1) (ds0 := [1]) (b := true) (f := 1) (n := 1) hI (by decide) (by decide) (by decide) (by decide) (nm_1 1 (by decide) (by decide)) (by decide) (by decide) (by decide) (by decide) (by decide) (by decide) rfl
        replace hY := (hoI.kept _ (blk_lt hY) (fun h => h)).trans hY
        refine hK.out _ _ (hHeld.trans hoI) (fun hHeldN => ?_)
        clear hK K hHeld
        have hHeld := hHeldN
        clear hHeldN
        clear hI hoI hrI
        simp only [Act.put, List.setIfInBounds_toArray, List.set_cons_zero, List.set_cons_succ]
        refine pure_ (i := 3) (oi := ?o11) (v := ?v11) #[true, true, true, true, false, false, true, false, false] ?h11 rfl (by kernel_rfl) ?q11 (Or.inl ⟨?w11, ?y11⟩) rfl ?r11
        case h11 => (simp only [List.getElem?_toArray, List.getElem?_cons_succ, List.getElem?_cons_zero]; rfl)
        case q11 => exact fun _ _ _ h => h
        case w11 => rfl
        case y11 => (intro W; go_simp; first | done | with_reducible rfl)
        simp only [Act.put, List.setIfInBounds_toArray, List.set_cons_zero, List.set_cons_succ]
        refine pure_ (i := 4) (oi := ?o12) (v := ?v12) #[true, true, true, true, true, false, true, false, false] ?h12 rfl (by kernel_rfl) ?q12 (Or.inl ⟨?w12, ?y12⟩) rfl ?r12
        case h12 => (simp only [List.getElem?_toArray, List.getElem?_cons_succ, List.getElem?_cons_zero]; rfl)
        case q12 => exact fun _ _ _ h => h
        case w12 => rfl
        case y12 => (intro W; go_simp; first | done | with_reducible rfl)
        simp only [Act.put, List.setIfInBounds_toArray, List.set_cons_zero, List.set_cons_succ]
        refine pure_ (i := 5) (oi := ?o13) (v := ?v13) #[true, true, true, true, true, true, true, false, false] ?h13 rfl (by kernel_rfl) ?q13 (Or.inl ⟨?w13, ?y13⟩) rfl ?r13
        case h13 => (simp only [List.getElem?_toArray, List.getElem?_cons_succ, List.getElem?_cons_zero]; rfl)
        case q13 => exact fun _ _ _ h => h
        case w13 => rfl
        case y13 => (intro W; go_simp; first | done | with_reducible rfl)
        simp only [Act.put, List.setIfInBounds_toArray, List.set_cons_zero, List.set_cons_succ]
        refine wpAnyLast_ready (rs := [7]) (by kernel_rfl) (by simp) ?_
        refine AllReadyL.cons (o := ?o14) ?h14 (by simp) (fun K hK => ?s14) ?m14
        case h14 => (simp only [List.getElem?_toArray, List.getElem?_cons_succ, List.getElem?_cons_zero]; rfl)
        case m14 => exact AllReadyL.nil
        have y0 : W6.cell? ⟨Y, 0, none⟩ = some (.bool false) := blk_cell hY 0
        have y1 : W6.cell? ⟨Y, 1, none⟩ = some (.slice none 0 0) := blk_cell hY 1
        have y2 : W6.cell? ⟨Y, 2, none⟩ = some (.int .i64 0) := blk_cell hY 2
        have f0 := blk_frozen hY 0
        have f1 := blk_frozen hY 1
        have f2 := blk_frozen hY 2
        go_simp
        refine hK.out _ _ (((hHeld.set (p := ⟨Y, 0, none⟩) (.inl hYs) _).set (p := ⟨Y, 1, none⟩) (.inl hYs) _).set (p := ⟨Y, 2, none⟩) (.inl hYs) _) (fun hHeldN => ?_)
        clear hK K y0 y1 y2 f0 f1 f2
        simp only [Act.put, List.setIfInBounds_toArray, List.set_cons_zero, List.set_cons_succ]
        refine pure_ (i := 8) (oi := ?o15) (v := ?v15) #[true, true, true, true, true, true, true, true, true] ?h15 rfl (by kernel_rfl) ?q15 (Or.inl ⟨?w15, ?y15⟩) rfl ?r15
        case h15 => (simp only [List.getElem?_toArray, List.getElem?_cons_succ, List.getElem?_cons_zero]; rfl)
        case q15 => exact fun _ _ _ h => h
        case w15 => rfl
        case y15 => (intro W; go_simp; first | done | with_reducible rfl)
        simp only [Act.put, List.setIfInBounds_toArray, List.set_cons_zero, List.set_cons_succ]
        refine done_ (by kernel_rfl) ?_
        obtain ⟨s1, s2⟩ := stored1 hY (.bool true) (.slice A3 1 c3) (.int .i64 1)
        have hown9 := own_weaken (own_other_num hownA hY s2) (Nat.zero_le _)
        go_wp2_with fail
        go_meet
        case rel => exact ⟨Y, A3, c3, rfl, rfl, s1, hown9, hc3, hHeldN⟩
    refine AllReadyL.cons (o := ?o16) ?h16 (by simp) (fun K hK => ?s16) ?m16
    case h16 => (simp only [List.getElem?_toArray, List.getElem?_cons_succ, List.getElem?_cons_zero]; rfl)
    case m16 => exact AllReadyL.nil
    case s16 =>
      go_simp
      have hY := heap_alloc_new W1 (.cells #[.bool false, .slice none 0 0, .int .i64 0] 24)
      have hoY := (Only.refl W1 (fun _ => False)).alloc (.cells #[.bool false, .slice none 0 0, .int .i64 0] 24)
      have hYs := hHeld.base.size
      refine hK.out _ _ (hHeld.alloc _) (fun hHeldN => ?_)
      clear hK K hHeld
      have hHeld := hHeldN
      clear hHeldN
      clear hoY
      simp only [Act.put, List.setIfInBounds_toArray, List.set_cons_zero, List.set_cons_succ]
      generalize W1.heap.size = Y at *
      generalize W1.alloc (.cells #[.bool false, .slice none 0 0, .int .i64 0] 24) = W7 at *
      refine wpAnyLast_ready (rs := [1]) (by kernel_rfl) (by simp) ?_
      refine AllReadyL.cons (o := ?o17) ?h17 (by simp) (fun K hK => ?s17) ?m17
      case h17 => (simp only [List.getElem?_toArray, List.getElem?_cons_succ, List.getElem?_cons_zero]; rfl)
      case m17 => exact AllReadyL.nil
      go_simp
      go_at_call 9
      refine (int_calls 1 W7 (by decide) (by decide) (HT.out _ (H2.out.1.trans hHeld))).mono ?_
      rintro en W8 hI
      obtain ⟨hoI, AI, cI, rfl, hrI, hcI⟩ := int_lit hI (by decide) (by decide) (by decide)
      replace hY := (hoI.kept _ (blk_lt hY) (fun h => h)).trans hY
      refine hK.out _ _ (hHeld.trans hoI) (fun hHeldN => ?_)
      clear hK K hHeld
      have hHeld := hHeldN
      clear hHeldN
      clear hI hoI
      simp only [Act.put, List.setIfInBounds_toArray, List.set_cons_zero, List.set_cons_succ]
      refine wpAnyLast_ready (rs := [2]) (by kernel_rfl) (by simp) ?_
      refine AllReadyL.cons (o := ?o18) ?h18 (by simp) (fun K hK => ?s18) ?m18
      case h18 => (simp only [List.getElem?_toArray, List.getElem?_cons_succ, List.getElem?_cons_zero]; rfl)
      case m18 => exact AllReadyL.nil
      go_simp
      go_at_call 8
      refine (add_31 A1 AI c1 cI W8 (reads_only H2.out.2 hHeld (fun _ _ h => h)) hc1 hrI hcI (HT.out _ (H2.out.1.trans hHeld))).mono ?_
      rintro en W9 hI
      obtain ⟨hoI, A3, c3, rfl, hownA, _, hc3⟩ := ans_lit (q0 := 1) (t0 := 1) (ds0 := [1]) (b := true) (f := 1) (n := 1) hI (by decide) (by decide) (by decide) (by decide) (nm_1 1 (by decide) (by decide)) (by decide) (by decide) (by decide) (by decide) (by decide) (by decide) rfl
      replace hY := (hoI.kept _ (blk_lt hY) (fun h => h)).trans hY
      refine hK.out _ _ (hHeld.trans hoI) (fun hHeldN => ?_)
      clear hK K hHeld
      have hHeld := hHeldN
      clear hHeldN
      clear hI hoI hrI
      simp only [Act.put, List.setIfInBounds_toArray, List.set_cons_zero, List.set_cons_succ]
      refine pure_ (i := 3) (oi := ?o19) (v := ?v19) #[true, true, true, true, false, false, true, false, false] ?h19 rfl (by kernel_rfl) ?q19 (Or.inl ⟨?w19, ?y19⟩) rfl ?r19
      case h19 => (simp only [List.getElem?_toArray, List.getElem?_cons_succ, List.getElem?_cons_zero]; rfl)
      case q19 => exact fun _ _ _ h => h
      case w19 => rfl
      case y19 => (intro W; go_simp; first | done | with_reducible rfl)
      simp only [Act.put, List.setIfInBounds_toArray, List.set_cons_zero, List.set_cons_succ]
      refine pure_ (i := 4) (oi := ?o20) (v := ?v20) #[true, true, true, true, true, false, true, false, false] ?h20 rfl (by kernel_rfl) ?q20 (Or.inl ⟨?w20, ?y20⟩) rfl ?r20
      case h20 => (simp only [List.getElem?_toArray, List.getElem?_cons_succ, List.getElem?_cons_zero]; rfl)
      case q20 => exact fun _ _ _ h => h
      case w20 => rfl
      case y20 => (intro W; go_simp; first | done | with_reducible rfl)
      simp only [Act.put, List.setIfInBounds_toArray, List.set_cons_zero, List.set_cons_succ]
      refine pure_ (i := 5) (oi := ?o21) (v := ?v21) #[true, true, true, true, true, true, true, false, false] ?h21 rfl (by kernel_rfl) ?q21 (Or.inl ⟨?w21, ?y21⟩) rfl ?r21
      case h21 => (simp only [List.getElem?_toArray, List.getElem?_cons_succ, List.getElem?_cons_zero]; rfl)
      case q21 => exact fun _ _ _ h => h
      case w21 => rfl
      case y21 => (intro W; go_simp; first | done | with_reducible rfl)
      simp only [Act.put, List.setIfInBounds_toArray, List.set_cons_zero, List.set_cons_succ]
      refine wpAnyLast_ready (rs := [7]) (by kernel_rfl) (by simp) ?_
      refine AllReadyL.cons (o := ?o22) ?h22 (by simp) (fun K hK => ?s22) ?m22
      case h22 => (simp only [List.getElem?_toArray, List.getElem?_cons_succ, List.getElem?_cons_zero]; rfl)
      case m22 => exact AllReadyL.nil
      have y0 : W9.cell? ⟨Y, 0, none⟩ = some (.bool false) := blk_cell hY 0
      have y1 : W9.cell? ⟨Y, 1, none⟩ = some (.slice none 0 0) := blk_cell hY 1
      have y2 : W9.cell? ⟨Y, 2, none⟩ = some (.int .i64 0) := blk_cell hY 2
      have f0 := blk_frozen hY 0
      have f1 := blk_frozen hY 1
      have f2 := blk_frozen hY 2
      go_simp
      refine hK.out _ _ (((hHeld.set (p := ⟨Y, 0, none⟩) (.inl hYs) _).set (p := ⟨Y, 1, none⟩) (.inl hYs) _).set (p := ⟨Y, 2, none⟩) (.inl hYs) _) (fun hHeldN => ?_)
      clear hK K y0 y1 y2 f0 f1 f2
      simp only [Act.put, List.setIfInBounds_toArray, List.set_cons_zero, List.set_cons_succ]
      refine pure_ (i := 8) (oi := ?o23) (v := ?v23) #[true, true, true, true, true, true, true, true, true] ?h23 rfl (by kernel_rfl) ?q23 (Or.inl ⟨?w23, ?y23⟩) rfl ?r23
      case h23 => (simp only [List.getElem?_toArray, List.getElem?_cons_succ, List.getElem?_cons_zero]; rfl)
      case q23 => exact fun _ _ _ h => h
      case w23 => rfl
      case y23 => (intro W; go_simp; first | done | with_reducible rfl)
      simp only [Act.put, List.setIfInBounds_toArray, List.set_cons_zero, List.set_cons_succ]
      refine done_ (by kernel_rfl) ?_
      obtain ⟨s1, s2⟩ := stored1 hY (.bool true) (.slice A3 1 c3) (.int .i64 1)
      have hown9 := own_weaken (own_other_num hownA hY s2) (Nat.zero_le _)
      go_wp2_with fail
      go_meet
      case rel => exact ⟨Y, A3, c3, rfl, rfl, s1, hown9, hc3, hHeldN⟩
end Go.Proofs.YtflhdplfkpdejaaGreatFmt
