/- exact: Round of what is a float. -/
import Derived.Test.YtgbpglojbgicjaaGreatFmtPart15
import Derived.Deep.DeepCutAuto
namespace Go.Proofs.YtgbpglojbgicjaaGreatFmt
open Go.RowKit Go.Proofs.YtgbpglojbgicjaaGreatFmtW.PrintWords

theorem way_at (f1 f2 f3 : Value) (w : World) : (Instr.index 92 (.agg #[f1, f2, f3]) (.int .i64 0)).run Tryz.prog w = .ok (.agg #[f1]) w ∧ (Instr.index 92 (.agg #[f1, f2, f3]) (.int .i64 1)).run Tryz.prog w = .ok (.agg #[f2]) w ∧ (Instr.index 92 (.agg #[f1, f2, f3]) (.int .i64 2)).run Tryz.prog w = .ok (.agg #[f3]) w := by
  have h : (Tryz.prog.info? 91).map (fun i => i.size) = some 1 := by kernel_rfl
  obtain ⟨j, hj, h2⟩ := Option.map_eq_some_iff.1 h
  refine ⟨?_, ?_, ?_⟩ <;> simp [Instr.index, asIntOf, run_underlying Tryz.underlying92, part, sizeOf, typeInfo, hj, h2]
/-- rest.to answers at a width -/
def ToAns (z e wd cn : Int) : Prop := ∀ (gq : Nat) (oq : Option Nat) (fid : Nat) (w : World), IsInt w gq oq z → Calls Tryz.prog 47 #[.agg #[.pointer (some ⟨gq, 0, none⟩), .int .i64 e, .bool false], .int .i64 wd, .agg #[.func (.func fid) #[] #[]]] w fun en w' => en = .returned (.tuple #[.int .i64 cn, .bool false]) ∧ Only w w' (fun _ => False)
set_option maxRecDepth 100000 in
set_option maxHeartbeats 8000000 in
theorem fix_calls (b g : Nat) (e : Int) (w : World) (hb : w.heap[b]? = some (.cells #[.pointer (some ⟨g, 0, none⟩), .int .i64 e] 41 (0, 0))) :
    Calls Tryz.prog 19 #[.slice (some ⟨b, 0, none⟩) 1 1] w fun en w' => en = .returned (.agg #[.pointer (some ⟨g, 0, none⟩), .int .i64 e, .bool false]) ∧ Only w w' (fun _ => False) := by
  obtain ⟨w1, hw1, h1, ho1⟩ : ∃ w1, w1 = w.alloc (.cells #[.pointer none, .int .i64 0, .bool false] 51) ∧ w1.heap[w.heap.size]? = some (.cells #[.pointer none, .int .i64 0, .bool false] 51 (0, 0)) ∧ Only w w1 (fun _ => False) := ⟨_, rfl, heap_alloc_new w _, (Only.refl w (fun _ => False)).alloc _⟩
  have hb1 := (ho1.kept _ (blk_lt hb) (fun h => h)).trans hb
  have c0 : w1.cell? ⟨b, 0, none⟩ = some (.pointer (some ⟨g, 0, none⟩)) := blk_cell hb1 0
  have c1 : w1.cell? ⟨b, 1, none⟩ = some (.int .i64 e) := blk_cell hb1 1
  have y0 : w1.cell? ⟨w.heap.size, 0, none⟩ = some (.pointer none) := blk_cell h1 0
  have y1 : w1.cell? ⟨w.heap.size, 1, none⟩ = some (.int .i64 0) := blk_cell h1 1
  have y2 : w1.cell? ⟨w.heap.size, 2, none⟩ = some (.bool false) := blk_cell h1 2
  have f0 := blk_frozen h1 0
  have f1 := blk_frozen h1 1
  have f2 := blk_frozen h1 2
  have hs : (((w1.setCell ⟨w.heap.size, 0, none⟩ (.pointer (some ⟨g, 0, none⟩))).setCell ⟨w.heap.size, 1, none⟩ (.int .i64 e)).setCell ⟨w.heap.size, 2, none⟩ (.bool false)).heap[w.heap.size]? = some (.cells #[.pointer (some ⟨g, 0, none⟩), .int .i64 e, .bool false] 51 (0, 0)) ∧ Only w (((w1.setCell ⟨w.heap.size, 0, none⟩ (.pointer (some ⟨g, 0, none⟩))).setCell ⟨w.heap.size, 1, none⟩ (.int .i64 e)).setCell ⟨w.heap.size, 2, none⟩ (.bool false)) (fun _ => False) :=
    ⟨by simpa using blk_set (blk_set (blk_set h1 0 (.pointer (some ⟨g, 0, none⟩))) 1 (.int .i64 e)) 2 (.bool false), ((ho1.set (.inl (Nat.le_refl _)) _).set (.inl (Nat.le_refl _)) _).set (.inl (Nat.le_refl _)) _⟩
  have HS := Lib.hid hs
  clear hb hb1 h1 ho1 hs
  go_enter Tryz.func19, Tryz.ntmps19
  go_upto_region 1 with (fail)
  rw [← hw1]
  clear hw1
  go_wp2_with fail
  exact bodyPost_ret (results_cell_row rfl _ _ w.heap.size 51 #[.pointer (some ⟨g, 0, none⟩), .int .i64 e, .bool false] (0, 0) _ rfl HS.out.1 Tryz.underlying51 rfl (by kernel_rfl)) rfl ⟨rfl, HS.out.2⟩
set_option maxRecDepth 100000 in
set_option maxHeartbeats 8000000 in
theorem rounded_ok (b : Nat) (neg : Bool) (A : Option Addr) (c : Nat) (ds : List Int) (e wd n cn : Int) (w : World) (hwd : wd = 64 ∨ wd = 32) (hn : n = 0 ∨ n = 1 ∨ n = 2) (hb : w.heap[b]? = some (.cells (numCells neg A ds.length c e) 24 (0, 0))) (hr : ReadsInt w .i64 A ds.length ds) (hc : ds.length ≤ c) (hv : vB neg ds e = true) (hto : ToAns (sval neg ds) e wd cn) :
    Calls Tryz.prog 18 #[.int .i64 wd, .int .i64 n, .slice (some ⟨b, 0, none⟩) 1 1, .func (.func 19) #[] #[]] w fun en w' => en = .returned (.tuple #[.int .i64 cn, .bool false, .int .i64 0]) ∧ Only w w' (fun _ => False) := by
  obtain ⟨w1, hw1, hE, ho1⟩ : ∃ w1, w1 = w.alloc (.cells #[.int .i64 0] 25) ∧ w1.heap[w.heap.size]? = some (.cells #[.int .i64 0] 25 (0, 0)) ∧ Only w w1 (fun _ => False) := ⟨_, rfl, heap_alloc_new w _, (Only.refl w _).alloc _⟩
  have HOP := Lib.hid (open1_ok b neg A c ds e w1 ((ho1.kept _ (blk_lt hb) (fun h => h)).trans hb) (reads_only hr ho1 (fun _ _ h => h)) hc hv)
  have HE := Lib.hid (And.intro hE ho1)
  have HTO := Lib.hid hto
  have hwb : (wd != 64 && wd != 32) = false := by rcases hwd with rfl | rfl <;> rfl
  have hnr : 0 ≤ n ∧ n ≤ 2 := by omega
  have HN := Lib.hid (And.intro hwd hn)
  obtain ⟨n0, n2⟩ := hnr
  clear hb hr hE ho1 hv hto hwd hn
  obtain ⟨fid, hfid⟩ : ∃ fid : Nat, ∀ w, (Instr.index 92 (.agg #[.func (.func 74) #[] #[], .func (.func 75) #[] #[], .func (.func 77) #[] #[]]) (.int .i64 n)).run Tryz.prog w = .ok (.agg #[.func (.func fid) #[] #[]]) w := by
    rcases HN.out.2 with rfl | rfl | rfl
    · exact ⟨_, fun w => (way_at _ _ _ w).1⟩
    · exact ⟨_, fun w => (way_at _ _ _ w).2.1⟩
    · exact ⟨_, fun w => (way_at _ _ _ w).2.2⟩
  have HFI := Lib.hid hfid
  clear hfid
  go_enter_defers Tryz.func18, Tryz.ntmps18
  go_upto_region 1 with (fail)
  rw [← hw1]
  clear hw1
  go_upto_region 2 with (fail)
  go_cut [11] from 12 (fun s wx => s = .bool false ∧ w1 = wx)
  case first =>
    rcases HN.out.1 with rfl | rfl
    · go_wp2_with fail
      go_meet
      exact ⟨rfl, rfl⟩
    · go_wp2_with fail
      go_meet
      exact ⟨rfl, rfl⟩
  case rest =>
  obtain ⟨rfl, rfl⟩ := hcut
  clear hwb
  go_wp2_with fail
  refine HOP.out.mono ?_
  rintro en w2 ⟨rfl, ho2, g, hout, ⟨o, hi, _⟩⟩
  go_wp2_with fail
  refine (fix_calls w1.heap.size g e w2 hout).mono ?_
  rintro en w3 ⟨rfl, ho3⟩
  have hi3 := hi.only ho3 (fun h => h) (fun _ _ h => h)
  clear hi hout
  go_wp2_with fail
  refine (ways_calls w3).mono ?_
  rintro en w4 ⟨rfl, ho4⟩
  have hway := HFI.out
  go_wp2_with fail
  refine (HTO.out g o fid w4 (hi3.only ho4 (fun h => h) (fun _ _ h => h))).mono ?_
  rintro en w5 ⟨rfl, ho5⟩
  obtain ⟨hE, ho1⟩ := HE.out
  have ho15 := ((ho2.trans ho3).trans ho4).trans ho5
  have hE5 := (ho15.kept _ (blk_lt hE) (fun h => h)).trans hE
  have e0 : w5.cell? ⟨w.heap.size, 0, none⟩ = some (.int .i64 0) := blk_cell hE5 0
  have fe0 := blk_frozen hE5 0
  have HF := Lib.hid (And.intro hE5 (ho1.trans ho15))
  clear hi3 ho2 ho3 ho4 ho5 hE ho1 ho15 hE5 HOP HE hway HFI HTO
  go_wp2_with fail
  have hE6 := blk_set HF.out.1 0 (.int .i64 0)
  refine round_door rfl _ _ w.heap.size _ _ 0 _ rfl rfl rfl (by simpa using blk_cell hE6 0) ⟨rfl, ?_⟩
  exact HF.out.2.set (.inl (Nat.le_refl _)) _
set_option maxRecDepth 100000 in
set_option maxHeartbeats 8000000 in
theorem round_calls (neg : Bool) (A : Option Addr) (c : Nat) (ds : List Int) (e wd n cn : Int) (w : World) (hwd : wd = 64 ∨ wd = 32) (hn : n = 0 ∨ n = 1 ∨ n = 2) (hr : ReadsInt w .i64 A ds.length ds) (hc : ds.length ≤ c) (hv : vB neg ds e = true) (hto : ToAns (sval neg ds) e wd cn) :
    Calls Tryz.prog 7 #[.agg #[.bool neg, .slice A ds.length c, .int .i64 e], .int .i64 wd, .int .i64 n] w fun en w' => en = .returned (.tuple #[.int .i64 cn, .bool false, .int .i64 0]) ∧ Only w w' (fun _ => False) := by
  have HR := Lib.hid (And.intro hr (And.intro hwd (And.intro hn (And.intro hv hto))))
  clear hr hwd hn hv hto
  go_enter Tryz.func7, Tryz.ntmps7
  go_wp2_with fail
  have hb := heap_alloc_new (w.alloc (.cells #[.bool neg, .slice A ds.length c, .int .i64 e] 24)) (.cells #[.bool neg, .slice A ds.length c, .int .i64 e] 24)
  have ho := ((Only.refl w (fun _ => False)).alloc (.cells #[.bool neg, .slice A ds.length c, .int .i64 e] 24)).alloc (.cells #[.bool neg, .slice A ds.length c, .int .i64 e] 24)
  obtain ⟨hr, hwd, hn, hv, hto⟩ := HR.out
  refine (rounded_ok (w.heap.size + 1) neg A c ds e wd n cn _ hwd hn (by simpa [numCells] using hb) (reads_only hr ho (fun _ _ h => h)) hc hv hto).mono ?_
  rintro en w' ⟨rfl, ho'⟩
  have HO := Lib.hid (ho.trans ho')
  clear hb ho ho' hr hwd hn hv hto HR
  go_wp2_with fail
  go_ret3
  exact ⟨rfl, HO.out⟩
end Go.Proofs.YtgbpglojbgicjaaGreatFmt
