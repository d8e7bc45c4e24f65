/- Part 12 of the walk: ExJ. -/
import Derived.Test.YtgbpglojbgicjaaGreatFmtPart11
namespace Go.Proofs.YtgbpglojbgicjaaGreatFmt
open Go.RowKit Go.Proofs.YtgbpglojbgicjaaGreatFmtW.PrintWords
set_option maxRecDepth 100000 in
set_option maxHeartbeats 8000000 in
theorem open2_ok (b : Nat) (neg neg' : Bool) (A A' : Option Addr) (c c' : Nat) (ds ds' : List Int) (e e' : Int) (w : World) (hb : w.heap[b]? = some (.cells #[.bool neg, .slice A ds.length c, .int .i64 e, .bool neg', .slice A' ds'.length c', .int .i64 e'] 24 (0, 0))) (hr : ReadsInt w .i64 A ds.length ds) (hc : ds.length ≤ c) (hv : vB neg ds e = true) (hr' : ReadsInt w .i64 A' ds'.length ds') (hc' : ds'.length ≤ c') (hv' : vB neg' ds' e' = true) :
    Calls Tryz.prog 43 #[.slice (some ⟨b, 0, none⟩) 2 2] w fun en w' => en = .returned (.slice (some ⟨w.heap.size, 0, none⟩) 2 2) ∧ Only w w' (fun _ => False) ∧ ∃ g g' m, w'.heap[w.heap.size]? = some (.cells #[.pointer (some ⟨g, 0, none⟩), .int .i64 e, .pointer (some ⟨g', 0, none⟩), .int .i64 e'] 41 (0, 0)) ∧ w.heap.size ≤ m ∧ (∃ o, IsInt w' g o (sval neg ds) ∧ w.heap.size ≤ g ∧ g < m ∧ ∀ b, o = some b → w.heap.size ≤ b ∧ b < m) ∧ New m w' g' (sval neg' ds') := by
  obtain ⟨hdg, hlen, _, _⟩ := vB_digs hv
  obtain ⟨hdg', hlen', _, _⟩ := vB_digs hv'
  have hmk : ∀ w, (Instr.makeSlice 49 (.int .i64 2) (.int .i64 2)).run Tryz.prog w = .ok (.slice (some ⟨w.heap.size, 0, none⟩) 2 2) (w.alloc (.cells #[.pointer none, .int .i64 0, .pointer none, .int .i64 0] 41)) := fun w => by
    have h := make_nums 2 w (by omega)
    have e : (Value.agg #[.pointer none, .int .i64 0]).cells = #[.pointer none, .int .i64 0] := rfl
    rw [e, made4] at h
    exact h
  have c0 : w.cell? ⟨b, 0, none⟩ = some (.bool neg) := blk_cell hb 0
  have c1 : w.cell? ⟨b, 1, none⟩ = some (.slice A ds.length c) := blk_cell hb 1
  have c2 : w.cell? ⟨b, 2, none⟩ = some (.int .i64 e) := blk_cell hb 2
  have hlt : b < w.heap.size := blk_lt hb
  have HV := Lib.hid hv
  have HV' := Lib.hid hv'
  clear hv hv'
  go_enter Tryz.func43, Tryz.ntmps43
  go_wp2_with fail
  refine wp_loop_rounds 3 ?_
  rw [rounds_succ]
  go_wp2_with fail
  obtain ⟨w1, hw1⟩ : ∃ w1 : World, w1 = (w.alloc (.cells #[.pointer none, .int .i64 0, .pointer none, .int .i64 0] 41)).alloc (.cells #[.bool neg, .slice A ds.length c, .int .i64 e] 24) := ⟨_, rfl⟩
  have ho1 : Only w w1 (fun _ => False) := by rw [hw1]; exact ((Only.refl w _).alloc _).alloc _
  have hO : w1.heap[w.heap.size]? = some (.cells #[.pointer none, .int .i64 0, .pointer none, .int .i64 0] 41 (0, 0)) := by rw [hw1]; exact heap_two' w _ _
  have hX : w1.heap[w.heap.size + 1]? = some (.cells #[.bool neg, .slice A ds.length c, .int .i64 e] 24 (0, 0)) := by rw [hw1]; exact heap_two w _ _
  rw [← hw1]
  clear hw1 c0 c1 c2 hmk
  refine (valid_calls neg A c ds e w1 (reads_only hr ho1 (fun _ _ h => h)) hc (by omega)).mono ?_
  rw [HV.out]
  rintro en w2 ⟨rfl, ho2⟩
  have hO2 := (ho2.kept _ (blk_lt hO) (fun h => h)).trans hO
  have hX2 := (ho2.kept _ (blk_lt hX) (fun h => h)).trans hX
  have ho12 := ho1.trans ho2
  have hr2 := reads_only hr ho12 (fun _ _ h => h)
  have hsz2 : w.heap.size + 1 < w2.heap.size := blk_lt hX2
  have x0 : w2.cell? ⟨w.heap.size + 1, 0, none⟩ = some (.bool neg) := blk_cell hX2 0
  have x1 : w2.cell? ⟨w.heap.size + 1, 1, none⟩ = some (.slice A ds.length c) := blk_cell hX2 1
  have x2 : w2.cell? ⟨w.heap.size + 1, 2, none⟩ = some (.int .i64 e) := blk_cell hX2 2
  have K : ∀ w3, Only w2.drew w3 (fun _ => False) → w3.cell? ⟨w.heap.size + 1, 0, none⟩ = some (.bool neg) ∧ w3.cell? ⟨w.heap.size + 1, 1, none⟩ = some (.slice A ds.length c) ∧ w3.cell? ⟨w.heap.size + 1, 2, none⟩ = some (.int .i64 e) ∧ w3.cell? ⟨w.heap.size, 0, none⟩ = some (.pointer none) ∧ w3.cell? ⟨w.heap.size, 1, none⟩ = some (.int .i64 0) ∧ w3.frozen? ⟨w.heap.size, 0, none⟩ = false ∧ w3.frozen? ⟨w.heap.size, 1, none⟩ = false ∧ w3.heap[w.heap.size]? = some (.cells #[.pointer none, .int .i64 0, .pointer none, .int .i64 0] 41 (0, 0)) := fun w3 h => by
    have h1 := (h.kept _ (blk_lt hO2) (fun h => h)).trans hO2
    have h2 := (h.kept _ (blk_lt hX2) (fun h => h)).trans hX2
    exact ⟨blk_cell h2 0, blk_cell h2 1, blk_cell h2 2, blk_cell h1 0, blk_cell h1 1, blk_frozen h1 0, blk_frozen h1 1, h1⟩
  have HK := Lib.hid K
  have HW := Lib.hid (whole_calls neg A c ds w2.drew (reads_only hr2 (Only.refl _ (fun _ => False)).drew (fun _ _ h => h)) hdg (by omega))
  clear K
  go_wp2_with fail
  go_region_held3 (fun w' => w'.cell? ⟨w.heap.size + 1, 0, none⟩ = some (.bool neg) ∧ w'.cell? ⟨w.heap.size + 1, 1, none⟩ = some (.slice A ds.length c) ∧ w'.cell? ⟨w.heap.size + 1, 2, none⟩ = some (.int .i64 e)) (first | go_keep | (refine ⟨?_, ?_, ?_⟩ <;> assumption))
    (first | (go_at_call 41; refine HW.out.mono ?_; rintro en w3 ⟨g, rfl, hng, how3⟩; obtain ⟨y0, y1, y2, o0, o1, f0, f1, hOw3⟩ := HK.out _ how3))
  go_wp2_with fail
  have hO4 := blk_set (blk_set hOw3 0 (.pointer (some ⟨g, 0, none⟩))) 1 (.int .i64 e)
  have hOnly4 := (((Only.refl w3 (fun k => k = w.heap.size)).set (p := ⟨w.heap.size, 0, none⟩) (.inr rfl) (.pointer (some ⟨g, 0, none⟩))).set (p := ⟨w.heap.size, 1, none⟩) (.inr rfl) (.int .i64 e))
  have ho4 := (((ho12.drew).trans how3).set (p := ⟨w.heap.size, 0, none⟩) (.inl (Nat.le_refl _)) (.pointer (some ⟨g, 0, none⟩))).set (p := ⟨w.heap.size, 1, none⟩) (.inl (Nat.le_refl _)) (.int .i64 e)
  have hb4 := (ho4.kept b hlt (fun h => h)).trans hb
  clear x0 x1 x2 y0 y1 y2 o0 o1 f0 f1
  generalize (w3.setCell ⟨w.heap.size, 0, none⟩ (.pointer (some ⟨g, 0, none⟩))).setCell ⟨w.heap.size, 1, none⟩ (.int .i64 e) = w4 at *
  have hO5 : w4.heap[w.heap.size]? = some (.cells #[.pointer (some ⟨g, 0, none⟩), .int .i64 e, .pointer none, .int .i64 0] 41 (0, 0)) := by simpa using hO4
  obtain ⟨og, hig, hgB, hogB⟩ := hng
  have hd2 : w2.drew.heap.size = w2.heap.size := rfl
  rw [hd2] at hgB hogB
  have hig4 : IsInt w4 g og (sval neg ds) := hig.only hOnly4 (fun h => by omega) (fun b hb h => by have := hogB b hb; omega)
  have c3 : w4.cell? ⟨b, 3, none⟩ = some (.bool neg') := blk_cell hb4 3
  have c4 : w4.cell? ⟨b, 4, none⟩ = some (.slice A' ds'.length c') := blk_cell hb4 4
  have c5 : w4.cell? ⟨b, 5, none⟩ = some (.int .i64 e') := blk_cell hb4 5
  have hlt4 : b < w4.heap.size := blk_lt hb4
  have hgl := hig4.lt
  have hol := hig4.lt'
  have hslt := blk_lt hO5
  rw [rounds_succ]
  go_wp2_with fail
  obtain ⟨w5, hw5⟩ : ∃ w5 : World, w5 = w4.alloc (.cells #[.bool neg', .slice A' ds'.length c', .int .i64 e'] 24) := ⟨_, rfl⟩
  have ho45 : Only w4 w5 (fun _ => False) := by rw [hw5]; exact (Only.refl w4 _).alloc _
  have hX5 : w5.heap[w4.heap.size]? = some (.cells #[.bool neg', .slice A' ds'.length c', .int .i64 e'] 24 (0, 0)) := by rw [hw5]; simpa using heap_alloc_new w4 (.cells #[.bool neg', .slice A' ds'.length c', .int .i64 e'] 24)
  rw [← hw5]
  clear hw5 c3 c4 c5
  refine (valid_calls neg' A' c' ds' e' w5 (reads_only hr' (ho4.trans ho45) (fun _ _ h => h)) hc' (by omega)).mono ?_
  rw [HV'.out]
  rintro en w6 ⟨rfl, ho6⟩
  have ho46 := ho45.trans ho6
  have hO6 := (ho46.kept _ hslt (fun h => h)).trans hO5
  have hX6 := (ho6.kept _ (blk_lt hX5) (fun h => h)).trans hX5
  have hr6 := reads_only hr' (ho4.trans ho46) (fun _ _ h => h)
  have hsz6 : w4.heap.size < w6.heap.size := blk_lt hX6
  have hne6 : ¬ w4.heap.size = w.heap.size := by omega
  have hne7 : ¬ w.heap.size = w4.heap.size := by omega
  have x0 : w6.cell? ⟨w4.heap.size, 0, none⟩ = some (.bool neg') := blk_cell hX6 0
  have x1 : w6.cell? ⟨w4.heap.size, 1, none⟩ = some (.slice A' ds'.length c') := blk_cell hX6 1
  have x2 : w6.cell? ⟨w4.heap.size, 2, none⟩ = some (.int .i64 e') := blk_cell hX6 2
  have K : ∀ w3, Only w6.drew w3 (fun _ => False) → w3.cell? ⟨w4.heap.size, 0, none⟩ = some (.bool neg') ∧ w3.cell? ⟨w4.heap.size, 1, none⟩ = some (.slice A' ds'.length c') ∧ w3.cell? ⟨w4.heap.size, 2, none⟩ = some (.int .i64 e') ∧ w3.cell? ⟨w.heap.size, 2, none⟩ = some (.pointer none) ∧ w3.cell? ⟨w.heap.size, 3, none⟩ = some (.int .i64 0) ∧ w3.frozen? ⟨w.heap.size, 2, none⟩ = false ∧ w3.frozen? ⟨w.heap.size, 3, none⟩ = false ∧ w3.heap[w.heap.size]? = some (.cells #[.pointer (some ⟨g, 0, none⟩), .int .i64 e, .pointer none, .int .i64 0] 41 (0, 0)) := fun w3 h => by
    have h1 := (h.kept _ (blk_lt hO6) (fun h => h)).trans hO6
    have h2 := (h.kept _ (blk_lt hX6) (fun h => h)).trans hX6
    exact ⟨blk_cell h2 0, blk_cell h2 1, blk_cell h2 2, blk_cell h1 2, blk_cell h1 3, blk_frozen h1 2, blk_frozen h1 3, h1⟩
  have HK := Lib.hid K
  have HW := Lib.hid (whole_calls neg' A' c' ds' w6.drew (reads_only hr6 (Only.refl _ (fun _ => False)).drew (fun _ _ h => h)) hdg' (by omega))
  clear K
  go_wp2_with fail
  go_region_held3 (fun w' => w'.cell? ⟨w4.heap.size, 0, none⟩ = some (.bool neg') ∧ w'.cell? ⟨w4.heap.size, 1, none⟩ = some (.slice A' ds'.length c') ∧ w'.cell? ⟨w4.heap.size, 2, none⟩ = some (.int .i64 e')) (first | go_keep | (refine ⟨?_, ?_, ?_⟩ <;> assumption))
    (first | (go_at_call 41; refine HW.out.mono ?_; rintro en w7 ⟨g', rfl, hng', how7⟩; obtain ⟨y0, y1, y2, o0, o1, f0, f1, hOw7⟩ := HK.out _ how7))
  go_wp2_with fail
  rw [rounds_succ]
  go_wp2_with fail
  go_ret
  have hO8 := blk_set (blk_set hOw7 2 (.pointer (some ⟨g', 0, none⟩))) 3 (.int .i64 e')
  have hs8 := (((Only.refl w7 (fun k => k = w.heap.size)).set (p := ⟨w.heap.size, 2, none⟩) (.inr rfl) (.pointer (some ⟨g', 0, none⟩))).set (p := ⟨w.heap.size, 3, none⟩) (.inr rfl) (.int .i64 e'))
  have hg7 := (hig4.only ((ho46.drew).trans how7) (fun h => h) (fun _ _ h => h)).only hs8 (fun h => by omega) (fun b hb h => by have := hogB b hb; omega)
  refine ⟨rfl, (((ho4.trans ho46).drew.trans how7).set (.inl (Nat.le_refl _)) _).set (.inl (Nat.le_refl _)) _, g, g', w4.heap.size, ?_, by omega, ⟨og, hg7, by omega, hgl, fun b hb => ⟨by have := hogB b hb; omega, hol b hb⟩⟩, ?_⟩
  · simpa using hO8
  · refine hng'.far (Nat.le_of_lt hsz6) (S := fun k => k = w.heap.size) hs8 ?_
    rintro k rfl
    show w.heap.size < w6.heap.size
    omega
end Go.Proofs.YtgbpglojbgicjaaGreatFmt
