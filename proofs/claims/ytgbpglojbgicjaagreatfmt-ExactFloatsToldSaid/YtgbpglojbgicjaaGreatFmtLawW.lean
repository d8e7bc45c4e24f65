/- pupillaw2: ExactFloats. -/
import Derived.Test.YtgbpglojbgicjaaGreatFmtLawU
import Derived.Test.YtgbpglojbgicjaaGreatFmtRndN
namespace Go.Proofs.YtgbpglojbgicjaaGreatFmt
open Go.RowKit Go.Proofs.YtgbpglojbgicjaaGreatFmtW.PrintWords

/-- the call's end -/
def Good (w : World) (en : Ending) (w' : World) : Prop := en = .returned (.bool true) ∧ Only w w' (fun _ => False)
theorem reads_none (w : World) : ReadsInt w .i64 none ([] : List Int).length [] := ⟨rfl, by simp, fun h => absurd h (Nat.lt_irrefl 0)⟩
theorem same_zero (w : World) : Calls Tryz.prog 6 #[.agg #[.bool false, .slice none 0 0, .int .i64 0], .agg #[.bool false, .slice none 0 0, .int .i64 0]] w fun en w' => en = .returned (.bool true) ∧ Only w w' (fun _ => False) :=
  same_num false [] 0 false [] 0 none none 0 0 true 5 w (reads_none w) (Nat.le_refl _) (reads_none w) (Nat.le_refl _) (by decide +kernel)
set_option maxRecDepth 100000 in
set_option maxHeartbeats 8000000 in
/-- of no width, of what is not finite -/
theorem floats_bad (b v : Int) (n : Int) (w : World) (hn : n = 3 ∨ n = 6) (hof : Calls Tryz.prog 4 #[.int .i64 b, .int .i64 v] w (OfBad w n)) (hT : Tab w) :
    Calls Tryz.prog 3 #[.int .i64 b, .int .i64 v] w (Good w) := by
  have HN := Lib.hid hn
  have hn0 : (n != 0) = true := by rcases hn with rfl | rfl <;> rfl
  have hn1 : (n == 3 || n == 6) = true := by rcases hn with rfl | rfl <;> rfl
  have HF := Lib.hid hof
  have HT := Lib.hid hT
  clear hn hof hT
  go_enter Tryz.func3, Tryz.ntmps3
  go_wp2_with fail
  refine HF.out.mono ?_
  rintro en w1 ⟨rfl, ho1⟩
  have hX := heap_alloc_new w1 (.cells #[.bool false, .slice none 0 0, .int .i64 n] 24)
  clear hX
  have ho2 := ho1.alloc (.cells #[.bool false, .slice none 0 0, .int .i64 0] 24)
  have hX := heap_alloc_new w1 (.cells #[.bool false, .slice none 0 0, .int .i64 0] 24)
  have HX := Lib.hid (And.intro hX ho2)
  clear hX ho2 ho1
  go_wp2_with fail
  refine (alive_calls _ (HT.out.only HX.out.2)).mono ?_
  rintro en w3 ⟨rfl, ho3⟩
  have hX3 := (ho3.kept _ (blk_lt HX.out.1) (fun h => h)).trans HX.out.1
  have x0 : w3.cell? ⟨w1.heap.size, 0, none⟩ = some (.bool false) := blk_cell hX3 0
  have x1 : w3.cell? ⟨w1.heap.size, 1, none⟩ = some (.slice none 0 0) := blk_cell hX3 1
  have x2 : w3.cell? ⟨w1.heap.size, 2, none⟩ = some (.int .i64 0) := blk_cell hX3 2
  have HO := Lib.hid (HX.out.2.trans ho3)
  clear hX3 ho3 HX HF HT
  go_upto_region 5 with (fail)
  rcases HN.out with rfl | rfl
  · clear hn1
    go_wp2_with fail
    refine (same_zero w3).mono ?_
    rintro en w4 ⟨rfl, ho4⟩
    have HO4 := Lib.hid (HO.out.trans ho4)
    clear ho4
    go_wp2_with fail
    go_ret
    exact ⟨rfl, HO4.out⟩
  · clear hn1
    go_wp2_with fail
    refine (same_zero w3).mono ?_
    rintro en w4 ⟨rfl, ho4⟩
    have HO4 := Lib.hid (HO.out.trans ho4)
    clear ho4
    go_wp2_with fail
    go_ret
    exact ⟨rfl, HO4.out⟩
/-- what Of answers of a finite float, and how it is rounded -/
def OfGood (w : World) (b v : Int) (en : Ending) (w' : World) : Prop := ∃ (neg : Bool) (A : Option Addr) (ds : List Int) (c : Nat) (e : Int), en = .returned (.tuple #[.agg #[.bool neg, .slice A ds.length c, .int .i64 e], .int .i64 0]) ∧ Only w w' (fun _ => False) ∧ ReadsInt w' .i64 A ds.length ds ∧ ds.length ≤ c ∧ vB neg ds e = true ∧ ToAns (sval neg ds) e v (canB b v) ∧ ToAns (sval neg ds) e 64 (canB (upV b v) 64)
theorem convert_any (b v : Int) (w : World) (hb : Flt.I64 b) (hv : v = 64 ∨ v = 32) (hc : ¬ Flt.cls b v = 4) : Calls Tryz.prog 9 #[.int .i64 b, .int .i64 v, .int .i64 64] w fun e w' => e = .returned (.int .i64 (upV b v)) ∧ Only w w' (fun _ => False) := by
  rcases hv with rfl | rfl
  · exact convert_64 b w hb hc
  · exact convert_32 b w hc
set_option maxRecDepth 100000 in
set_option maxHeartbeats 8000000 in
theorem floats_good (b v : Int) (w : World) (hb : Flt.I64 b) (hv : v = 64 ∨ v = 32) (hc : ¬ Flt.cls b v = 4) (hc2 : ¬ Flt.cls (upV b v) 64 = 4) (hof : Calls Tryz.prog 4 #[.int .i64 b, .int .i64 v] w (OfGood w b v)) (hT : Tab w) :
    Calls Tryz.prog 3 #[.int .i64 b, .int .i64 v] w (Good w) := by
  have HCV := Lib.hid (fun w => convert_any b v w hb hv hc)
  have HCN := Lib.hid (fun w => canon_calls b v hv hc w)
  have HCN2 := Lib.hid (fun w => canon_calls (upV b v) 64 (.inl rfl) hc2 w)
  have HF := Lib.hid hof
  have HT := Lib.hid hT
  have HV := Lib.hid hv
  clear hof hT hb hv hc hc2
  go_enter Tryz.func3, Tryz.ntmps3
  go_wp2_with fail
  refine HF.out.mono ?_
  rintro en w1 ⟨neg, A, ds, c, e, rfl, ho1, hr, hcap, hvb, hto, hto2⟩
  have hX := heap_alloc_new w1 (.cells #[.bool neg, .slice A ds.length c, .int .i64 e] 24)
  have hA1 := (Only.refl w1 (fun _ => False)).alloc (.cells #[.bool neg, .slice A ds.length c, .int .i64 e] 24)
  have HX := Lib.hid (And.intro hX (And.intro (ho1.trans hA1) (reads_only hr hA1 (fun _ _ h => h))))
  have HTO := Lib.hid (And.intro hvb (And.intro hto hto2))
  clear hX hA1 ho1 hr hvb hto hto2
  go_wp2_with fail
  refine (alive_calls _ (HT.out.only HX.out.2.1)).mono ?_
  rintro en w3 ⟨rfl, ho3⟩
  have hX3 := (ho3.kept _ (blk_lt HX.out.1) (fun h => h)).trans HX.out.1
  have hK : ∀ W, Only w3 W (fun _ => False) → (W.cell? ⟨w1.heap.size, 0, none⟩ = some (.bool neg) ∧ W.cell? ⟨w1.heap.size, 1, none⟩ = some (.slice A ds.length c) ∧ W.cell? ⟨w1.heap.size, 2, none⟩ = some (.int .i64 e)) ∧ ReadsInt W .i64 A ds.length ds ∧ Only w W (fun _ => False) := fun W hW => by
    have a := (hW.kept _ (blk_lt hX3) (fun h => h)).trans hX3
    exact ⟨⟨blk_cell a 0, blk_cell a 1, blk_cell a 2⟩, reads_only HX.out.2.2 (ho3.trans hW) (fun _ _ h => h), (HX.out.2.1.trans ho3).trans hW⟩
  have HK := Lib.hid hK
  clear hK hX3 ho3 HX HF HT
  obtain ⟨⟨x0, x1, x2⟩, _⟩ := HK.out w3 (Only.refl _ _)
  have hoA := Only.refl w3 (fun _ => False)
  go_wp2_with fail
  refine wp_loop_rounds 4 ?_
  rw [rounds_succ]
  go_wp2_with fail
  refine (round_calls neg A c ds e v 0 (canB b v) _ HV.out (.inl rfl) (HK.out _ hoA).2.1 hcap HTO.out.1 HTO.out.2.1).mono ?_
  rintro en wr0 ⟨rfl, hor⟩
  have hor0 := hoA.trans hor
  clear hor x0 x1 x2
  go_wp2_with fail
  refine (HCN.out _).mono ?_
  rintro en wc0 ⟨rfl, hoc⟩
  have hoc0 := hor0.trans hoc
  clear hoc hor0 hoA
  obtain ⟨⟨x0, x1, x2⟩, _⟩ := HK.out wc0 hoc0
  go_wp2_with fail
  rw [rounds_succ]
  go_wp2_with fail
  refine (round_calls neg A c ds e v 1 (canB b v) _ HV.out (.inr (.inl rfl)) (HK.out _ hoc0).2.1 hcap HTO.out.1 HTO.out.2.1).mono ?_
  rintro en wr1 ⟨rfl, hor⟩
  have hor1 := hoc0.trans hor
  clear hor x0 x1 x2
  go_wp2_with fail
  refine (HCN.out _).mono ?_
  rintro en wc1 ⟨rfl, hoc⟩
  have hoc1 := hor1.trans hoc
  clear hoc hor1 hoc0
  obtain ⟨⟨x0, x1, x2⟩, _⟩ := HK.out wc1 hoc1
  go_wp2_with fail
  rw [rounds_succ]
  go_wp2_with fail
  refine (round_calls neg A c ds e v 2 (canB b v) _ HV.out (.inr (.inr rfl)) (HK.out _ hoc1).2.1 hcap HTO.out.1 HTO.out.2.1).mono ?_
  rintro en wr2 ⟨rfl, hor⟩
  have hor2 := hoc1.trans hor
  clear hor x0 x1 x2
  go_wp2_with fail
  refine (HCN.out _).mono ?_
  rintro en wc2 ⟨rfl, hoc⟩
  have hoc2 := hor2.trans hoc
  clear hoc hor2 hoc1
  obtain ⟨⟨x0, x1, x2⟩, _⟩ := HK.out wc2 hoc2
  go_wp2_with fail
  rw [rounds_succ]
  go_wp2_with fail
  refine (round_calls neg A c ds e 64 0 (canB (upV b v) 64) _ (.inl rfl) (.inl rfl) (HK.out _ hoc2).2.1 hcap HTO.out.1 HTO.out.2.2).mono ?_
  rintro en wz ⟨rfl, hor⟩
  have horz := hoc2.trans hor
  clear hor x0 x1 x2 hoc2
  go_wp2_with fail
  refine (HCV.out _).mono ?_
  rintro en wy ⟨rfl, hoy⟩
  have hoy2 := horz.trans hoy
  clear hoy horz
  go_wp2_with fail
  refine (HCN2.out _).mono ?_
  rintro en wx ⟨rfl, hox⟩
  have HE := Lib.hid (HK.out _ (hoy2.trans hox)).2.2
  clear hox hoy2
  go_wp2_with fail
  go_ret
  exact ⟨rfl, HE.out⟩
end Go.Proofs.YtgbpglojbgicjaaGreatFmt
