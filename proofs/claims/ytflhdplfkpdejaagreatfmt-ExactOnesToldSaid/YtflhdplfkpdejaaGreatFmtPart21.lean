/- Part 21 of the walk of ExactOnes: LawL FPupilref1Sig FPupilref2Sig LawM. -/
import Derived.Test.YtflhdplfkpdejaaGreatFmtPart20
import Derived.Test.YtflhdplfkpdejaaGreatFmtPart07
namespace Go.Proofs.YtflhdplfkpdejaaGreatFmt
open Go.RowKit Go.Proofs.YtflhdplfkpdejaaGreatFmtW.PrintWords
theorem lent_reads {w : World} {B g cap : Nat} {ds : List Int} (ho : w.ownsRow B 3 1 (.slice (some ⟨g, 0, none⟩) (ds.length + 3) cap) (ds.length + 3) (nums .i64 (ds ++ [-71, -72, -73]))) : ReadsInt w .i64 (some ⟨g, 0, none⟩) ds.length ds := by
  have h := own_reads1 ho
  have h3 := h.2.1
  refine ⟨rfl, by omega, fun _ => ⟨_, rfl, fun j hj => ?_⟩⟩
  obtain ⟨ad, e, hcell⟩ := h.2.2 (by omega)
  cases e
  rw [hcell j (by omega)]
  simp [List.getD, List.getElem?_append_left hj]
set_option linter.unusedVariables false in
set_option linter.unusedSimpArgs false in
set_option maxRecDepth 100000 in
set_option maxHeartbeats 8000000 in
theorem ones_bad (k : Nat) (neg : Bool) (A : Option Addr) (c : Nat) (ds : List Int) (e n : Int) (w : World) (hr : ReadsInt w .i64 A ds.length ds) (hc : ds.length ≤ c) (hl : ds.length ≤ 2100) (hv : vB neg ds e = false) :
    Calls Tryz.prog 5 #[.pointer (some ⟨k, 0, none⟩), .agg #[.bool neg, .slice A ds.length c, .int .i64 e], .int .i64 n] w fun en w' => en = .returned (.bool true) ∧ Only w w' (fun _ => False) := by
  have HR : Hid (∀ W, Only w W (fun _ => False) → ReadsInt W .i64 A ds.length ds) := Lib.hid (fun W h => reads_only hr h (fun _ _ h => h))
  have HL := Lib.hid (And.intro hc (And.intro hl hv))
  have ha := heap_alloc_new w (.cells #[.bool neg, .slice A ds.length c, .int .i64 e] 24)
  have hO := (Only.refl w (fun _ => False)).alloc (.cells #[.bool neg, .slice A ds.length c, .int .i64 e] 24)
  clear hr hc hl hv
  have hac0 : (w.alloc (.cells #[.bool neg, .slice A ds.length c, .int .i64 e] 24)).cell? ⟨w.heap.size, 0, none⟩ = some (.bool neg) := blk_cell ha 0
  have hac1 : (w.alloc (.cells #[.bool neg, .slice A ds.length c, .int .i64 e] 24)).cell? ⟨w.heap.size, 1, none⟩ = some (.slice A ds.length c) := blk_cell ha 1
  have hac2 : (w.alloc (.cells #[.bool neg, .slice A ds.length c, .int .i64 e] 24)).cell? ⟨w.heap.size, 2, none⟩ = some (.int .i64 e) := blk_cell ha 2
  go_enter Tryz.func5, Tryz.ntmps5
  go_wp2_with fail
  clear hac0 hac1 hac2
  generalize w.alloc (.cells #[.bool neg, .slice A ds.length c, .int .i64 e] 24) = V0 at *
  have hw0 := hO.base.size
  refine (lentNum_calls neg A c ds e V0 (HR.out _ hO) (by have := HL.out.2.1; omega)).mono ?_
  rintro en V1 ⟨g, cap, rfl, hown, ho⟩
  replace ha := (ho.kept _ (blk_lt ha) (fun h => h)).trans ha
  replace hO := hO.trans ho
  obtain ⟨_, _, hcape, hgB, hcap⟩ := own_row_some hown (by omega)
  cases hcape
  have hwg : w.heap.size ≤ g := Nat.le_trans hw0 hgB
  clear ho
  have ho := (Only.refl V1 (fun _ => False)).alloc (.cells #[.bool neg, .slice (some ⟨g, 0, none⟩) ds.length cap, .int .i64 e] 24)
  replace ha := (ho.kept _ (blk_lt ha) (fun h => h)).trans ha
  replace hO := hO.trans ho
  replace hown := own_only hown ho
  have hx := heap_alloc_new V1 (.cells #[.bool neg, .slice (some ⟨g, 0, none⟩) ds.length cap, .int .i64 e] 24)
  clear ho
  have hac0 : (V1.alloc (.cells #[.bool neg, .slice (some ⟨g, 0, none⟩) ds.length cap, .int .i64 e] 24)).cell? ⟨w.heap.size, 0, none⟩ = some (.bool neg) := blk_cell ha 0
  have hac1 : (V1.alloc (.cells #[.bool neg, .slice (some ⟨g, 0, none⟩) ds.length cap, .int .i64 e] 24)).cell? ⟨w.heap.size, 1, none⟩ = some (.slice A ds.length c) := blk_cell ha 1
  have hac2 : (V1.alloc (.cells #[.bool neg, .slice (some ⟨g, 0, none⟩) ds.length cap, .int .i64 e] 24)).cell? ⟨w.heap.size, 2, none⟩ = some (.int .i64 e) := blk_cell ha 2
  have hxc0 : (V1.alloc (.cells #[.bool neg, .slice (some ⟨g, 0, none⟩) ds.length cap, .int .i64 e] 24)).cell? ⟨V1.heap.size, 0, none⟩ = some (.bool neg) := blk_cell hx 0
  have hxc1 : (V1.alloc (.cells #[.bool neg, .slice (some ⟨g, 0, none⟩) ds.length cap, .int .i64 e] 24)).cell? ⟨V1.heap.size, 1, none⟩ = some (.slice (some ⟨g, 0, none⟩) ds.length cap) := blk_cell hx 1
  have hxc2 : (V1.alloc (.cells #[.bool neg, .slice (some ⟨g, 0, none⟩) ds.length cap, .int .i64 e] 24)).cell? ⟨V1.heap.size, 2, none⟩ = some (.int .i64 e) := blk_cell hx 2
  go_wp2_with fail
  clear hac0 hac1 hac2 hxc0 hxc1 hxc2
  generalize V1.alloc (.cells #[.bool neg, .slice (some ⟨g, 0, none⟩) ds.length cap, .int .i64 e] 24) = V1a at *
  generalize V1.heap.size = bhx at *
  refine (refValid_calls neg A c ds e V1a (HR.out _ hO) HL.out.1 (by have := HL.out.2.1; omega)).mono ?_
  rintro en V2 ⟨rfl, ho⟩
  replace ha := (ho.kept _ (blk_lt ha) (fun h => h)).trans ha
  replace hx := (ho.kept _ (blk_lt hx) (fun h => h)).trans hx
  replace hO := hO.trans ho
  replace hown := own_only hown ho
  rw [HL.out.2.2]
  clear ho
  have hac0 : (V2).cell? ⟨w.heap.size, 0, none⟩ = some (.bool neg) := blk_cell ha 0
  have hac1 : (V2).cell? ⟨w.heap.size, 1, none⟩ = some (.slice A ds.length c) := blk_cell ha 1
  have hac2 : (V2).cell? ⟨w.heap.size, 2, none⟩ = some (.int .i64 e) := blk_cell ha 2
  have hxc0 : (V2).cell? ⟨bhx, 0, none⟩ = some (.bool neg) := blk_cell hx 0
  have hxc1 : (V2).cell? ⟨bhx, 1, none⟩ = some (.slice (some ⟨g, 0, none⟩) ds.length cap) := blk_cell hx 1
  have hxc2 : (V2).cell? ⟨bhx, 2, none⟩ = some (.int .i64 e) := blk_cell hx 2
  go_wp2_with fail
  clear hac0 hac1 hac2 hxc0 hxc1 hxc2
  refine (neg_bad neg (some ⟨g, 0, none⟩) cap ds e V2 (lent_reads hown) (by omega) (by have := HL.out.2.1; omega) HL.out.2.2).mono ?_
  rintro en V3 ⟨rfl, ho⟩
  replace ha := (ho.kept _ (blk_lt ha) (fun h => h)).trans ha
  replace hx := (ho.kept _ (blk_lt hx) (fun h => h)).trans hx
  replace hO := hO.trans ho
  replace hown := own_only hown ho
  unfold errNum
  clear ho
  have ho := (Only.refl V3 (fun _ => False)).alloc (.cells #[.bool false, .slice none 0 0, .int .i64 0] 24)
  replace ha := (ho.kept _ (blk_lt ha) (fun h => h)).trans ha
  replace hx := (ho.kept _ (blk_lt hx) (fun h => h)).trans hx
  replace hO := hO.trans ho
  replace hown := own_only hown ho
  have hp := heap_alloc_new V3 (.cells #[.bool false, .slice none 0 0, .int .i64 0] 24)
  clear ho
  have hac0 : (V3.alloc (.cells #[.bool false, .slice none 0 0, .int .i64 0] 24)).cell? ⟨w.heap.size, 0, none⟩ = some (.bool neg) := blk_cell ha 0
  have hac1 : (V3.alloc (.cells #[.bool false, .slice none 0 0, .int .i64 0] 24)).cell? ⟨w.heap.size, 1, none⟩ = some (.slice A ds.length c) := blk_cell ha 1
  have hac2 : (V3.alloc (.cells #[.bool false, .slice none 0 0, .int .i64 0] 24)).cell? ⟨w.heap.size, 2, none⟩ = some (.int .i64 e) := blk_cell ha 2
  have hxc0 : (V3.alloc (.cells #[.bool false, .slice none 0 0, .int .i64 0] 24)).cell? ⟨bhx, 0, none⟩ = some (.bool neg) := blk_cell hx 0
  have hxc1 : (V3.alloc (.cells #[.bool false, .slice none 0 0, .int .i64 0] 24)).cell? ⟨bhx, 1, none⟩ = some (.slice (some ⟨g, 0, none⟩) ds.length cap) := blk_cell hx 1
  have hxc2 : (V3.alloc (.cells #[.bool false, .slice none 0 0, .int .i64 0] 24)).cell? ⟨bhx, 2, none⟩ = some (.int .i64 e) := blk_cell hx 2
  have hpc0 : (V3.alloc (.cells #[.bool false, .slice none 0 0, .int .i64 0] 24)).cell? ⟨V3.heap.size, 0, none⟩ = some (.bool false) := blk_cell hp 0
  have hpc1 : (V3.alloc (.cells #[.bool false, .slice none 0 0, .int .i64 0] 24)).cell? ⟨V3.heap.size, 1, none⟩ = some (.slice none 0 0) := blk_cell hp 1
  have hpc2 : (V3.alloc (.cells #[.bool false, .slice none 0 0, .int .i64 0] 24)).cell? ⟨V3.heap.size, 2, none⟩ = some (.int .i64 0) := blk_cell hp 2
  go_wp2_with fail
  clear hac0 hac1 hac2 hxc0 hxc1 hxc2 hpc0 hpc1 hpc2
  generalize V3.alloc (.cells #[.bool false, .slice none 0 0, .int .i64 0] 24) = V3a at *
  generalize V3.heap.size = bhp at *
  refine (sign_bad neg (some ⟨g, 0, none⟩) cap ds e V3a (lent_reads hown) (by omega) (by have := HL.out.2.1; omega) HL.out.2.2).mono ?_
  rintro en V4 ⟨rfl, ho⟩
  replace ha := (ho.kept _ (blk_lt ha) (fun h => h)).trans ha
  replace hx := (ho.kept _ (blk_lt hx) (fun h => h)).trans hx
  replace hp := (ho.kept _ (blk_lt hp) (fun h => h)).trans hp
  replace hO := hO.trans ho
  replace hown := own_only hown ho
  clear ho
  have hac0 : (V4).cell? ⟨w.heap.size, 0, none⟩ = some (.bool neg) := blk_cell ha 0
  have hac1 : (V4).cell? ⟨w.heap.size, 1, none⟩ = some (.slice A ds.length c) := blk_cell ha 1
  have hac2 : (V4).cell? ⟨w.heap.size, 2, none⟩ = some (.int .i64 e) := blk_cell ha 2
  have hxc0 : (V4).cell? ⟨bhx, 0, none⟩ = some (.bool neg) := blk_cell hx 0
  have hxc1 : (V4).cell? ⟨bhx, 1, none⟩ = some (.slice (some ⟨g, 0, none⟩) ds.length cap) := blk_cell hx 1
  have hxc2 : (V4).cell? ⟨bhx, 2, none⟩ = some (.int .i64 e) := blk_cell hx 2
  have hpc0 : (V4).cell? ⟨bhp, 0, none⟩ = some (.bool false) := blk_cell hp 0
  have hpc1 : (V4).cell? ⟨bhp, 1, none⟩ = some (.slice none 0 0) := blk_cell hp 1
  have hpc2 : (V4).cell? ⟨bhp, 2, none⟩ = some (.int .i64 0) := blk_cell hp 2
  go_wp2_with fail
  clear hac0 hac1 hac2 hxc0 hxc1 hxc2 hpc0 hpc1 hpc2
  refine (scale_bad neg (some ⟨g, 0, none⟩) cap ds e n V4 (lent_reads hown) (by omega) (by have := HL.out.2.1; omega) HL.out.2.2).mono ?_
  rintro en V5 ⟨rfl, ho⟩
  replace ha := (ho.kept _ (blk_lt ha) (fun h => h)).trans ha
  replace hx := (ho.kept _ (blk_lt hx) (fun h => h)).trans hx
  replace hp := (ho.kept _ (blk_lt hp) (fun h => h)).trans hp
  replace hO := hO.trans ho
  replace hown := own_only hown ho
  unfold errNum
  clear ho
  have ho := (Only.refl V5 (fun _ => False)).alloc (.cells #[.bool false, .slice none 0 0, .int .i64 0] 24)
  replace ha := (ho.kept _ (blk_lt ha) (fun h => h)).trans ha
  replace hx := (ho.kept _ (blk_lt hx) (fun h => h)).trans hx
  replace hp := (ho.kept _ (blk_lt hp) (fun h => h)).trans hp
  replace hO := hO.trans ho
  replace hown := own_only hown ho
  have hq := heap_alloc_new V5 (.cells #[.bool false, .slice none 0 0, .int .i64 0] 24)
  clear ho
  have hac0 : (V5.alloc (.cells #[.bool false, .slice none 0 0, .int .i64 0] 24)).cell? ⟨w.heap.size, 0, none⟩ = some (.bool neg) := blk_cell ha 0
  have hac1 : (V5.alloc (.cells #[.bool false, .slice none 0 0, .int .i64 0] 24)).cell? ⟨w.heap.size, 1, none⟩ = some (.slice A ds.length c) := blk_cell ha 1
  have hac2 : (V5.alloc (.cells #[.bool false, .slice none 0 0, .int .i64 0] 24)).cell? ⟨w.heap.size, 2, none⟩ = some (.int .i64 e) := blk_cell ha 2
  have hxc0 : (V5.alloc (.cells #[.bool false, .slice none 0 0, .int .i64 0] 24)).cell? ⟨bhx, 0, none⟩ = some (.bool neg) := blk_cell hx 0
  have hxc1 : (V5.alloc (.cells #[.bool false, .slice none 0 0, .int .i64 0] 24)).cell? ⟨bhx, 1, none⟩ = some (.slice (some ⟨g, 0, none⟩) ds.length cap) := blk_cell hx 1
  have hxc2 : (V5.alloc (.cells #[.bool false, .slice none 0 0, .int .i64 0] 24)).cell? ⟨bhx, 2, none⟩ = some (.int .i64 e) := blk_cell hx 2
  have hpc0 : (V5.alloc (.cells #[.bool false, .slice none 0 0, .int .i64 0] 24)).cell? ⟨bhp, 0, none⟩ = some (.bool false) := blk_cell hp 0
  have hpc1 : (V5.alloc (.cells #[.bool false, .slice none 0 0, .int .i64 0] 24)).cell? ⟨bhp, 1, none⟩ = some (.slice none 0 0) := blk_cell hp 1
  have hpc2 : (V5.alloc (.cells #[.bool false, .slice none 0 0, .int .i64 0] 24)).cell? ⟨bhp, 2, none⟩ = some (.int .i64 0) := blk_cell hp 2
  have hqc0 : (V5.alloc (.cells #[.bool false, .slice none 0 0, .int .i64 0] 24)).cell? ⟨V5.heap.size, 0, none⟩ = some (.bool false) := blk_cell hq 0
  have hqc1 : (V5.alloc (.cells #[.bool false, .slice none 0 0, .int .i64 0] 24)).cell? ⟨V5.heap.size, 1, none⟩ = some (.slice none 0 0) := blk_cell hq 1
  have hqc2 : (V5.alloc (.cells #[.bool false, .slice none 0 0, .int .i64 0] 24)).cell? ⟨V5.heap.size, 2, none⟩ = some (.int .i64 0) := blk_cell hq 2
  go_wp2_with fail
  clear hac0 hac1 hac2 hxc0 hxc1 hxc2 hpc0 hpc1 hpc2 hqc0 hqc1 hqc2
  generalize V5.alloc (.cells #[.bool false, .slice none 0 0, .int .i64 0] 24) = V5a at *
  generalize V5.heap.size = bhq at *
  refine (valid_calls neg (some ⟨g, 0, none⟩) cap ds e V5a (lent_reads hown) (by omega) (by have := HL.out.2.1; omega)).mono ?_
  rintro en V6 ⟨rfl, ho⟩
  replace ha := (ho.kept _ (blk_lt ha) (fun h => h)).trans ha
  replace hx := (ho.kept _ (blk_lt hx) (fun h => h)).trans hx
  replace hp := (ho.kept _ (blk_lt hp) (fun h => h)).trans hp
  replace hq := (ho.kept _ (blk_lt hq) (fun h => h)).trans hq
  replace hO := hO.trans ho
  replace hown := own_only hown ho
  rw [HL.out.2.2]
  clear ho
  have hac0 : (V6).cell? ⟨w.heap.size, 0, none⟩ = some (.bool neg) := blk_cell ha 0
  have hac1 : (V6).cell? ⟨w.heap.size, 1, none⟩ = some (.slice A ds.length c) := blk_cell ha 1
  have hac2 : (V6).cell? ⟨w.heap.size, 2, none⟩ = some (.int .i64 e) := blk_cell ha 2
  have hxc0 : (V6).cell? ⟨bhx, 0, none⟩ = some (.bool neg) := blk_cell hx 0
  have hxc1 : (V6).cell? ⟨bhx, 1, none⟩ = some (.slice (some ⟨g, 0, none⟩) ds.length cap) := blk_cell hx 1
  have hxc2 : (V6).cell? ⟨bhx, 2, none⟩ = some (.int .i64 e) := blk_cell hx 2
  have hpc0 : (V6).cell? ⟨bhp, 0, none⟩ = some (.bool false) := blk_cell hp 0
  have hpc1 : (V6).cell? ⟨bhp, 1, none⟩ = some (.slice none 0 0) := blk_cell hp 1
  have hpc2 : (V6).cell? ⟨bhp, 2, none⟩ = some (.int .i64 0) := blk_cell hp 2
  have hqc0 : (V6).cell? ⟨bhq, 0, none⟩ = some (.bool false) := blk_cell hq 0
  have hqc1 : (V6).cell? ⟨bhq, 1, none⟩ = some (.slice none 0 0) := blk_cell hq 1
  have hqc2 : (V6).cell? ⟨bhq, 2, none⟩ = some (.int .i64 0) := blk_cell hq 2
  go_wp2_with fail
  clear hac0 hac1 hac2 hxc0 hxc1 hxc2 hpc0 hpc1 hpc2 hqc0 hqc1 hqc2
  refine (back_calls _ g cap A c ds V6 hown (HR.out _ hO) HL.out.1 (by have := HL.out.2.1; omega) hcap).mono ?_
  rintro en V7 ⟨rfl, ho⟩
  obtain ⟨cg, hcg⟩ := own_typed hown g rfl
  replace ha := (ho.kept _ (blk_lt ha) (blk_ne ha hcg (by decide))).trans ha
  replace hx := (ho.kept _ (blk_lt hx) (blk_ne hx hcg (by decide))).trans hx
  replace hp := (ho.kept _ (blk_lt hp) (blk_ne hp hcg (by decide))).trans hp
  replace hq := (ho.kept _ (blk_lt hq) (blk_ne hq hcg (by decide))).trans hq
  replace hO := hO.step ho (by rintro i hi rfl; omega)
  clear ho hcg hown
  have hac0 : (V7).cell? ⟨w.heap.size, 0, none⟩ = some (.bool neg) := blk_cell ha 0
  have hac1 : (V7).cell? ⟨w.heap.size, 1, none⟩ = some (.slice A ds.length c) := blk_cell ha 1
  have hac2 : (V7).cell? ⟨w.heap.size, 2, none⟩ = some (.int .i64 e) := blk_cell ha 2
  have hxc0 : (V7).cell? ⟨bhx, 0, none⟩ = some (.bool neg) := blk_cell hx 0
  have hxc1 : (V7).cell? ⟨bhx, 1, none⟩ = some (.slice (some ⟨g, 0, none⟩) ds.length cap) := blk_cell hx 1
  have hxc2 : (V7).cell? ⟨bhx, 2, none⟩ = some (.int .i64 e) := blk_cell hx 2
  have hpc0 : (V7).cell? ⟨bhp, 0, none⟩ = some (.bool false) := blk_cell hp 0
  have hpc1 : (V7).cell? ⟨bhp, 1, none⟩ = some (.slice none 0 0) := blk_cell hp 1
  have hpc2 : (V7).cell? ⟨bhp, 2, none⟩ = some (.int .i64 0) := blk_cell hp 2
  have hqc0 : (V7).cell? ⟨bhq, 0, none⟩ = some (.bool false) := blk_cell hq 0
  have hqc1 : (V7).cell? ⟨bhq, 1, none⟩ = some (.slice none 0 0) := blk_cell hq 1
  have hqc2 : (V7).cell? ⟨bhq, 2, none⟩ = some (.int .i64 0) := blk_cell hq 2
  go_wp2_with fail
  clear hac0 hac1 hac2 hxc0 hxc1 hxc2 hpc0 hpc1 hpc2 hqc0 hqc1 hqc2
  refine (is_bad k (.pointer (some ⟨k, 0, none⟩)) A ds.length c neg e V7).mono ?_
  rintro en V8 ⟨rfl, ho⟩
  replace ha := (ho.kept _ (blk_lt ha) (fun h => h)).trans ha
  replace hx := (ho.kept _ (blk_lt hx) (fun h => h)).trans hx
  replace hp := (ho.kept _ (blk_lt hp) (fun h => h)).trans hp
  replace hq := (ho.kept _ (blk_lt hq) (fun h => h)).trans hq
  replace hO := hO.trans ho
  clear ho
  have hac0 : (V8).cell? ⟨w.heap.size, 0, none⟩ = some (.bool neg) := blk_cell ha 0
  have hac1 : (V8).cell? ⟨w.heap.size, 1, none⟩ = some (.slice A ds.length c) := blk_cell ha 1
  have hac2 : (V8).cell? ⟨w.heap.size, 2, none⟩ = some (.int .i64 e) := blk_cell ha 2
  have hxc0 : (V8).cell? ⟨bhx, 0, none⟩ = some (.bool neg) := blk_cell hx 0
  have hxc1 : (V8).cell? ⟨bhx, 1, none⟩ = some (.slice (some ⟨g, 0, none⟩) ds.length cap) := blk_cell hx 1
  have hxc2 : (V8).cell? ⟨bhx, 2, none⟩ = some (.int .i64 e) := blk_cell hx 2
  have hpc0 : (V8).cell? ⟨bhp, 0, none⟩ = some (.bool false) := blk_cell hp 0
  have hpc1 : (V8).cell? ⟨bhp, 1, none⟩ = some (.slice none 0 0) := blk_cell hp 1
  have hpc2 : (V8).cell? ⟨bhp, 2, none⟩ = some (.int .i64 0) := blk_cell hp 2
  have hqc0 : (V8).cell? ⟨bhq, 0, none⟩ = some (.bool false) := blk_cell hq 0
  have hqc1 : (V8).cell? ⟨bhq, 1, none⟩ = some (.slice none 0 0) := blk_cell hq 1
  have hqc2 : (V8).cell? ⟨bhq, 2, none⟩ = some (.int .i64 0) := blk_cell hq 2
  go_wp2_with fail
  clear hac0 hac1 hac2 hxc0 hxc1 hxc2 hpc0 hpc1 hpc2 hqc0 hqc1 hqc2
  refine (is_bad k (.pointer (some ⟨k, 0, none⟩)) A ds.length c neg e V8).mono ?_
  rintro en V9 ⟨rfl, ho⟩
  replace ha := (ho.kept _ (blk_lt ha) (fun h => h)).trans ha
  replace hx := (ho.kept _ (blk_lt hx) (fun h => h)).trans hx
  replace hp := (ho.kept _ (blk_lt hp) (fun h => h)).trans hp
  replace hq := (ho.kept _ (blk_lt hq) (fun h => h)).trans hq
  replace hO := hO.trans ho
  clear ho
  have hac0 : (V9).cell? ⟨w.heap.size, 0, none⟩ = some (.bool neg) := blk_cell ha 0
  have hac1 : (V9).cell? ⟨w.heap.size, 1, none⟩ = some (.slice A ds.length c) := blk_cell ha 1
  have hac2 : (V9).cell? ⟨w.heap.size, 2, none⟩ = some (.int .i64 e) := blk_cell ha 2
  have hxc0 : (V9).cell? ⟨bhx, 0, none⟩ = some (.bool neg) := blk_cell hx 0
  have hxc1 : (V9).cell? ⟨bhx, 1, none⟩ = some (.slice (some ⟨g, 0, none⟩) ds.length cap) := blk_cell hx 1
  have hxc2 : (V9).cell? ⟨bhx, 2, none⟩ = some (.int .i64 e) := blk_cell hx 2
  have hpc0 : (V9).cell? ⟨bhp, 0, none⟩ = some (.bool false) := blk_cell hp 0
  have hpc1 : (V9).cell? ⟨bhp, 1, none⟩ = some (.slice none 0 0) := blk_cell hp 1
  have hpc2 : (V9).cell? ⟨bhp, 2, none⟩ = some (.int .i64 0) := blk_cell hp 2
  have hqc0 : (V9).cell? ⟨bhq, 0, none⟩ = some (.bool false) := blk_cell hq 0
  have hqc1 : (V9).cell? ⟨bhq, 1, none⟩ = some (.slice none 0 0) := blk_cell hq 1
  have hqc2 : (V9).cell? ⟨bhq, 2, none⟩ = some (.int .i64 0) := blk_cell hq 2
  go_wp2_with fail
  clear hac0 hac1 hac2 hxc0 hxc1 hxc2 hpc0 hpc1 hpc2 hqc0 hqc1 hqc2
  go_ret
  exact ⟨rfl, hO⟩
end Go.Proofs.YtflhdplfkpdejaaGreatFmt
namespace Go.Proofs.YtflhdplfkpdejaaGreatFmt.F
open Go.RowKit Go.Proofs.YtflhdplfkpdejaaGreatFmtW.PrintWords Go.Proofs.YtflhdplfkpdejaaGreatFmtW.PrintLast Go.Proofs.YtflhdplfkpdejaaGreatFmtW.PrintMore
attribute [local go_sem] max2_int min2_int max_two min_two max_three min_three max_four min_four   -- for this text's walks alone
set_option linter.unusedVariables false
set_option linter.unusedSimpArgs false
def pupilref1_Sig.f (a0_0 : Bool) (l0_1 : List Int) (a0_2 : Int) : Option (Int) := if (l0_1.length : Int) = 0 then (some 0) else (if a0_0 = true then (some (-1)) else (some 1))
set_option maxHeartbeats 8000000 in
set_option maxRecDepth 100000 in
theorem pupilref1_Sig.calls (a0_0 : Bool) (A0_1 : Option Addr) (c0_1 : Nat) (l0_1 : List Int) (a0_2 : Int) (r : Int) (w : World) (hr0_1 : Kd.C (Kd.int .i64) w A0_1 l0_1.length l0_1) (hc0_1 : l0_1.length ≤ c0_1) (h : pupilref1_Sig.f a0_0 l0_1 a0_2 = some r) :
    Calls Tryz.prog 42 #[.agg #[.bool a0_0, .slice A0_1 l0_1.length c0_1, .int .i64 a0_2]] w fun e w' => e = .returned (.int .i64 r) ∧ Below w.heap.size w w' := by
  have hu24 := Tryz.underlying24
  have HR0_1 := Aside0.mk hr0_1
  have HC0_1 := Aside0.mk hc0_1
  clear hr0_1 hc0_1
  have HB := Aside0.mk (Below.refl w.heap.size w)
  have H : (if (l0_1.length : Int) = 0 then (some 0) else (if a0_0 = true then (some (-1)) else (some 1))) = some r := h
  clear h
  by_cases c2 : (l0_1.length : Int) = 0
  · rw [if_pos c2] at H
    have c2b0 : ((l0_1.length : Int) == 0) = true := beq_iff_eq.mpr c2
    have c2b1 : ((l0_1.length : Int) != 0) = false := bne_eq_false_iff_eq.mpr c2
    clear c2
    obtain rfl := Option.some.inj H
    go_enter Tryz.func42, Tryz.ntmps42
    go_wp2_with (first | ((with_reducible refine gate_dst (N := 1) rfl ?_); refine box_event ?hg (N := 1) ?hd (cs := #[.bool a0_0, .slice A0_1 l0_1.length c0_1, .int .i64 a0_2]) (t := 24) ?hr ?_; (case hd => rfl); (case hg => rfl); (case hr => first | (go_simp; done) | (go_simp; rfl)); intro gb389 hg w3 hbox hb; have n0_ := Aside0.mk (below_step (by repeat (first | (with_reducible first | exact HB.out | apply below_alloc | apply pw_below_drewN | apply below_drew1) | exact HB.out)) hb); have n1_ := Aside0.mk (hbox); have n2_ := Aside0.mk ((by rw [hg]; exact (below_size (by repeat (first | (with_reducible first | exact HB.out | apply below_alloc | apply pw_below_drewN | apply below_drew1) | exact HB.out))) : w.heap.size ≤ gb389)); have n3_ := Aside0.mk ((by rw [hg]; exact (below_size (by repeat (first | (with_reducible first | exact HB.out | apply below_alloc | apply pw_below_drewN | apply below_drew1) | exact HB.out))) : w.heap.size ≤ gb389)); clear HB; have HB := n0_; have BK389 := n1_; have GW389 := n2_; have GE389 := n3_; clear n0_ n1_ n2_ n3_; clear hb hbox hg; have hcz4_0 : w3.cell? ⟨gb389, 0, none⟩ = some (.bool a0_0) := (blk_cell BK389.out 0).trans rfl; have hcz4_1 : w3.cell? ⟨gb389, 1, none⟩ = some (.slice A0_1 l0_1.length c0_1) := (blk_cell BK389.out 1).trans rfl; have hcz4_2 : w3.cell? ⟨gb389, 2, none⟩ = some (.int .i64 a0_2) := (blk_cell BK389.out 2).trans rfl; have hfz4_0 := blk_frozen BK389.out 0; have hfz4_1 := blk_frozen BK389.out 1; have hfz4_2 := blk_frozen BK389.out 2))
    go_ret
    exact ⟨by first | rfl | (simp [errW_none, errW_some] <;> rfl) | (simp [*, errW_none, errW_some] <;> rfl), by repeat (first | (with_reducible first | exact HB.out | apply below_alloc | apply pw_below_drewN | apply below_drew1 | refine below_set ?_ GE389.out) | exact HB.out)⟩
  · rw [if_neg c2] at H
    have c2b0 : ((l0_1.length : Int) == 0) = false := beq_eq_false_iff_ne.mpr c2
    have c2b1 : ((l0_1.length : Int) != 0) = true := bne_iff_ne.mpr c2
    have c2b2 : ¬ (l0_1 = []) := fun h_ => c2 (by rw [h_]; rfl)
    by_cases c5 : a0_0 = true
    · subst c5
      have H1 : (some (-1)) = some r := by rw [if_pos rfl] at H; exact H
      clear H
      have H := H1
      clear H1
      obtain rfl := Option.some.inj H
      go_enter Tryz.func42, Tryz.ntmps42
      go_wp2_with (first | ((with_reducible refine gate_dst (N := 1) rfl ?_); refine box_event ?hg (N := 1) ?hd (cs := #[.bool true, .slice A0_1 l0_1.length c0_1, .int .i64 a0_2]) (t := 24) ?hr ?_; (case hd => rfl); (case hg => rfl); (case hr => first | (go_simp; done) | (go_simp; rfl)); intro gb389 hg w6 hbox hb; have n0_ := Aside0.mk (below_step (by repeat (first | (with_reducible first | exact HB.out | apply below_alloc | apply pw_below_drewN | apply below_drew1) | exact HB.out)) hb); have n1_ := Aside0.mk (hbox); have n2_ := Aside0.mk ((by rw [hg]; exact (below_size (by repeat (first | (with_reducible first | exact HB.out | apply below_alloc | apply pw_below_drewN | apply below_drew1) | exact HB.out))) : w.heap.size ≤ gb389)); have n3_ := Aside0.mk ((by rw [hg]; exact (below_size (by repeat (first | (with_reducible first | exact HB.out | apply below_alloc | apply pw_below_drewN | apply below_drew1) | exact HB.out))) : w.heap.size ≤ gb389)); clear HB; have HB := n0_; have BK389 := n1_; have GW389 := n2_; have GE389 := n3_; clear n0_ n1_ n2_ n3_; clear hb hbox hg; have hcz7_0 : w6.cell? ⟨gb389, 0, none⟩ = some (.bool true) := (blk_cell BK389.out 0).trans rfl; have hcz7_1 : w6.cell? ⟨gb389, 1, none⟩ = some (.slice A0_1 l0_1.length c0_1) := (blk_cell BK389.out 1).trans rfl; have hcz7_2 : w6.cell? ⟨gb389, 2, none⟩ = some (.int .i64 a0_2) := (blk_cell BK389.out 2).trans rfl; have hfz7_0 := blk_frozen BK389.out 0; have hfz7_1 := blk_frozen BK389.out 1; have hfz7_2 := blk_frozen BK389.out 2))
      go_ret
      exact ⟨by first | rfl | (simp [errW_none, errW_some] <;> rfl) | (simp [*, errW_none, errW_some] <;> rfl), by repeat (first | (with_reducible first | exact HB.out | apply below_alloc | apply pw_below_drewN | apply below_drew1 | refine below_set ?_ GE389.out) | exact HB.out)⟩
    · replace c5 := Bool.eq_false_iff.mpr c5
      subst c5
      have H1 : (some 1) = some r := by rw [if_neg (show ¬ (false = true) by decide)] at H; exact H
      clear H
      have H := H1
      clear H1
      obtain rfl := Option.some.inj H
      go_enter Tryz.func42, Tryz.ntmps42
      go_wp2_with (first | ((with_reducible refine gate_dst (N := 1) rfl ?_); refine box_event ?hg (N := 1) ?hd (cs := #[.bool false, .slice A0_1 l0_1.length c0_1, .int .i64 a0_2]) (t := 24) ?hr ?_; (case hd => rfl); (case hg => rfl); (case hr => first | (go_simp; done) | (go_simp; rfl)); intro gb389 hg w8 hbox hb; have n0_ := Aside0.mk (below_step (by repeat (first | (with_reducible first | exact HB.out | apply below_alloc | apply pw_below_drewN | apply below_drew1) | exact HB.out)) hb); have n1_ := Aside0.mk (hbox); have n2_ := Aside0.mk ((by rw [hg]; exact (below_size (by repeat (first | (with_reducible first | exact HB.out | apply below_alloc | apply pw_below_drewN | apply below_drew1) | exact HB.out))) : w.heap.size ≤ gb389)); have n3_ := Aside0.mk ((by rw [hg]; exact (below_size (by repeat (first | (with_reducible first | exact HB.out | apply below_alloc | apply pw_below_drewN | apply below_drew1) | exact HB.out))) : w.heap.size ≤ gb389)); clear HB; have HB := n0_; have BK389 := n1_; have GW389 := n2_; have GE389 := n3_; clear n0_ n1_ n2_ n3_; clear hb hbox hg; have hcz9_0 : w8.cell? ⟨gb389, 0, none⟩ = some (.bool false) := (blk_cell BK389.out 0).trans rfl; have hcz9_1 : w8.cell? ⟨gb389, 1, none⟩ = some (.slice A0_1 l0_1.length c0_1) := (blk_cell BK389.out 1).trans rfl; have hcz9_2 : w8.cell? ⟨gb389, 2, none⟩ = some (.int .i64 a0_2) := (blk_cell BK389.out 2).trans rfl; have hfz9_0 := blk_frozen BK389.out 0; have hfz9_1 := blk_frozen BK389.out 1; have hfz9_2 := blk_frozen BK389.out 2))
      go_ret
      exact ⟨by first | rfl | (simp [errW_none, errW_some] <;> rfl) | (simp [*, errW_none, errW_some] <;> rfl), by repeat (first | (with_reducible first | exact HB.out | apply below_alloc | apply pw_below_drewN | apply below_drew1 | refine below_set ?_ GE389.out) | exact HB.out)⟩
end Go.Proofs.YtflhdplfkpdejaaGreatFmt.F
namespace Go.Proofs.YtflhdplfkpdejaaGreatFmt.F
open Go.RowKit Go.Proofs.YtflhdplfkpdejaaGreatFmtW.PrintWords Go.Proofs.YtflhdplfkpdejaaGreatFmtW.PrintLast Go.Proofs.YtflhdplfkpdejaaGreatFmtW.PrintMore
attribute [local go_sem] max2_int min2_int max_two min_two max_three min_three max_four min_four   -- for this text's walks alone
set_option linter.unusedVariables false
set_option linter.unusedSimpArgs false
def pupilref2_Sig.f (a0_0 : Bool) (l0_1 : List Int) (a0_2 : Int) : Option (Int) := (pupilref1_Sig.f a0_0 l0_1 a0_2).bind fun t391 => (some t391)
set_option maxHeartbeats 8000000 in
set_option maxRecDepth 100000 in
theorem pupilref2_Sig.calls (a0_0 : Bool) (A0_1 : Option Addr) (c0_1 : Nat) (l0_1 : List Int) (a0_2 : Int) (r : Int) (w : World) (hr0_1 : Kd.C (Kd.int .i64) w A0_1 l0_1.length l0_1) (hc0_1 : l0_1.length ≤ c0_1) (h : pupilref2_Sig.f a0_0 l0_1 a0_2 = some r) :
    Calls Tryz.prog 22 #[.agg #[.bool a0_0, .slice A0_1 l0_1.length c0_1, .int .i64 a0_2]] w fun e w' => e = .returned (.int .i64 r) ∧ Below w.heap.size w w' := by
  have hu24 := Tryz.underlying24
  have HR0_1 := Aside0.mk hr0_1
  have HC0_1 := Aside0.mk hc0_1
  clear hr0_1 hc0_1
  have HB := Aside0.mk (Below.refl w.heap.size w)
  have H : ((pupilref1_Sig.f a0_0 l0_1 a0_2).bind fun t391 => (some t391)) = some r := h
  clear h
  replace H := Option.bind_eq_some_iff.mp H
  obtain ⟨t391, A20, H⟩ := H
  replace H : (some t391) = some r := H
  have A2 := Aside0.mk A20
  clear A20
  obtain rfl := Option.some.inj H
  go_enter Tryz.func22, Tryz.ntmps22
  go_wp2_with (first | ((with_reducible refine gate_dst (N := 1) rfl ?_); refine box_event ?hg (N := 1) ?hd (cs := #[.bool a0_0, .slice A0_1 l0_1.length c0_1, .int .i64 a0_2]) (t := 24) ?hr ?_; (case hd => rfl); (case hg => rfl); (case hr => first | (go_simp; done) | (go_simp; rfl)); intro gb390 hg w3 hbox hb; have n0_ := Aside0.mk (below_step (by repeat (first | (with_reducible first | exact HB.out | apply below_alloc | apply pw_below_drewN | apply below_drew1) | exact HB.out)) hb); have n1_ := Aside0.mk (hbox); have n2_ := Aside0.mk ((by rw [hg]; exact (below_size (by repeat (first | (with_reducible first | exact HB.out | apply below_alloc | apply pw_below_drewN | apply below_drew1) | exact HB.out))) : w.heap.size ≤ gb390)); have n3_ := Aside0.mk ((by rw [hg]; exact (below_size (by repeat (first | (with_reducible first | exact HB.out | apply below_alloc | apply pw_below_drewN | apply below_drew1) | exact HB.out))) : w.heap.size ≤ gb390)); clear HB; have HB := n0_; have BK390 := n1_; have GW390 := n2_; have GE390 := n3_; clear n0_ n1_ n2_ n3_; clear hb hbox hg; have hcz4_0 : w3.cell? ⟨gb390, 0, none⟩ = some (.bool a0_0) := (blk_cell BK390.out 0).trans rfl; have hcz4_1 : w3.cell? ⟨gb390, 1, none⟩ = some (.slice A0_1 l0_1.length c0_1) := (blk_cell BK390.out 1).trans rfl; have hcz4_2 : w3.cell? ⟨gb390, 2, none⟩ = some (.int .i64 a0_2) := (blk_cell BK390.out 2).trans rfl; have hfz4_0 := blk_frozen BK390.out 0; have hfz4_1 := blk_frozen BK390.out 1; have hfz4_2 := blk_frozen BK390.out 2) | ((with_reducible refine gate_callee (f := 42) rfl ?_); refine goesL_ (some 4) rfl rfl Tryz.func42 (by kernel_rfl) rfl #[.agg #[.bool a0_0, .slice A0_1 l0_1.length c0_1, .int .i64 a0_2]] rfl (by (try simp only [List.map_toArray, List.map_cons, List.map_nil]); first | done | rfl | (simp only [List.length_drop, List.length_take]; rfl)) ?_; (with_reducible refine (pupilref1_Sig.calls a0_0 _ _ l0_1 a0_2 t391 _ ?side1 ?side2 A2.out).mono ?_); (case side1 => repeat (first | exact (Kd.C_below HR0_1.out HB.out) | (with_reducible refine Kd.C_alloc ?_ _) | (with_reducible refine Kd.C_drewN ?_ _) | (with_reducible refine Kd.C_drew ?_))); (case side2 => exact HC0_1.out); rintro e w5 ⟨rfl, hb⟩; refine ⟨_, rfl, ?_⟩; have n0_ := Aside0.mk (blk_below (g := gb390) (o := .cells #[.bool a0_0, .slice A0_1 l0_1.length c0_1, .int .i64 a0_2] 24 (0, 0)) (by (with_reducible repeat (first | refine blk_drewN ?_ _ | refine blk_drew ?_ | refine blk_alloc ?_ _)); exact BK390.out) hb); have n1_ := Aside0.mk (below_step (by repeat (first | (with_reducible first | exact HB.out | apply below_alloc | apply pw_below_drewN | apply below_drew1 | refine below_set ?_ GE390.out) | exact HB.out)) hb); clear BK390; clear HB; have BK390 := n0_; have HB := n1_; clear n0_ n1_; (try clear hb); (try clear hb2); (try clear hk); (try clear hi)))
  go_ret
  exact ⟨by first | rfl | (simp [errW_none, errW_some] <;> rfl) | (simp [*, errW_none, errW_some] <;> rfl), by repeat (first | (with_reducible first | exact HB.out | apply below_alloc | apply pw_below_drewN | apply below_drew1 | refine below_set ?_ GE390.out) | exact HB.out)⟩
end Go.Proofs.YtflhdplfkpdejaaGreatFmt.F
namespace Go.Proofs.YtflhdplfkpdejaaGreatFmt
open Go.RowKit Go.Proofs.YtflhdplfkpdejaaGreatFmtW.PrintWords
theorem vB_turn {neg : Bool} {ds : List Int} {e : Int} (h : vB neg ds e = true) : vB (if 0 < ds.length then !neg else neg) ds e = true := by
  by_cases h0 : 0 < ds.length
  · rw [if_pos h0]
    rw [vB, if_neg (by omega)] at h ⊢
    exact h
  · rw [if_neg h0]; exact h
theorem neg_same (neg : Bool) (A : Option Addr) (c : Nat) (ds : List Int) (e : Int) (w : World) (hr : ReadsInt w .i64 A ds.length ds) (hc : ds.length ≤ c) (hT : Tab w) (hv : vB neg ds e = true) :
    Calls Tryz.prog 14 #[.agg #[.bool neg, .slice A ds.length c, .int .i64 e]] w fun en w' => ∃ Ap cp, en = .returned (.tuple #[.agg #[.bool (if 0 < ds.length then !neg else neg), .slice Ap ds.length cp, .int .i64 e], .int .i64 0]) ∧ w'.ownsRow w.heap.size 3 1 (.slice Ap ds.length cp) ds.length (nums .i64 ds) ∧ ds.length ≤ cp ∧ Only w w' (fun _ => False) := by
  refine (neg_ok neg A c ds e w hr hc hT hv).mono ?_
  intro en w' h
  by_cases h0 : 0 < ds.length
  · obtain ⟨hn, hl, ho, he1, he2⟩ := vB_some hv (by omega)
    have hp := val_low ds hn h0
    have hp0 : 0 < val ds := Int.lt_of_lt_of_le (Int.pow_pos (by decide)) hp
    obtain ⟨hw, h⟩ := ans_same h (by rw [Int.natAbs_neg]; exact sval_abs neg hn.1) hn hl h0 ho
    rw [if_pos ⟨he1, he2⟩] at h
    obtain ⟨v, rfl, hown⟩ := h
    obtain ⟨g, cap, rfl, _, hcap⟩ := own_row_some hown h0
    rw [sval_neg' neg hn.1 hp0, if_pos h0]
    exact ⟨_, cap, rfl, hown, hcap, hw⟩
  · have hd : ds = [] := List.eq_nil_of_length_eq_zero (by omega)
    subst hd
    obtain ⟨rfl, rfl⟩ := vB_none hv rfl
    obtain ⟨hw, ⟨_, rfl⟩ | ⟨hz, _⟩⟩ := h
    · exact ⟨none, 0, rfl, own_nil _ _ _ _, Nat.le_refl _, hw⟩
    · exact absurd (by simp [sval, val]) hz
theorem sig_calls (neg : Bool) (A : Option Addr) (c : Nat) (ds : List Int) (e : Int) (w : World) (hr : ReadsInt w .i64 A ds.length ds) (hc : ds.length ≤ c) (hv : vB neg ds e = true) :
    Calls Tryz.prog 22 #[.agg #[.bool neg, .slice A ds.length c, .int .i64 e]] w fun en w' => en = .returned (.int .i64 (sval neg ds).sign) ∧ Only w w' (fun _ => False) := by
  refine (F.pupilref2_Sig.calls neg A c ds e (sval neg ds).sign w (kd_ints hr) hc ?_).mono fun _ _ ⟨h1, h2⟩ => ⟨h1, Only.of_below h2⟩
  unfold F.pupilref2_Sig.f F.pupilref1_Sig.f
  by_cases h0 : 0 < ds.length
  · obtain ⟨hn, hl, ho, he1, he2⟩ := vB_some hv (by omega)
    have hp0 : 0 < val ds := Int.lt_of_lt_of_le (Int.pow_pos (by decide)) (val_low ds hn h0)
    cases neg
    · have : (sval false ds).sign = 1 := Int.sign_eq_one_of_pos (by simpa [sval] using hp0)
      rw [this, if_neg (by omega)]
      rfl
    · have : (sval true ds).sign = -1 := Int.sign_eq_neg_one_of_neg (by simp [sval]; exact hp0)
      rw [this, if_neg (by omega)]
      rfl
  · have hd : ds = [] := List.eq_nil_of_length_eq_zero (by omega)
    subst hd
    obtain ⟨rfl, rfl⟩ := vB_none hv rfl
    rfl
theorem scale_both (neg : Bool) (ds : List Int) (e k : Int) (hv : vB neg ds e = true) : ∃ nr dr er ir, dr.length ≤ 2000 ∧ dr.length ≤ ds.length ∧
    (∀ (A : Option Addr) (c : Nat) (w : World), ReadsInt w .i64 A ds.length ds → ds.length ≤ c → Tab w → Calls Tryz.prog 16 #[.agg #[.bool neg, .slice A ds.length c, .int .i64 e], .int .i64 k] w fun en w' => ∃ Ar cr, en = .returned (.tuple #[.agg #[.bool nr, .slice Ar dr.length cr, .int .i64 er], .int .i64 ir]) ∧ w'.ownsRow w.heap.size 3 1 (.slice Ar dr.length cr) dr.length (nums .i64 dr) ∧ dr.length ≤ cr ∧ Only w w' (fun _ => False)) ∧
    (∀ (A : Option Addr) (c : Nat) (w : World), ReadsInt w .i64 A ds.length ds → ds.length ≤ c → Calls Tryz.prog 20 #[.agg #[.bool neg, .slice A ds.length c, .int .i64 e], .int .i64 k] w fun en w' => ∃ Aw cw, en = .returned (.tuple #[.agg #[.bool nr, .slice Aw dr.length cw, .int .i64 er], .int .i64 ir]) ∧ ReadsInt w' .i64 Aw dr.length dr ∧ dr.length ≤ cw ∧ (Aw = A ∨ Aw = none) ∧ Only w w' (fun _ => False)) := by
  obtain ⟨hdg, hlen, he1, he2⟩ := vB_digs hv
  by_cases h0 : 0 < ds.length
  · obtain ⟨hn, hl, ho, _, _⟩ := vB_some hv (by omega)
    have hp0 : 0 < val ds := Int.lt_of_lt_of_le (Int.pow_pos (by decide)) (val_low ds hn h0)
    by_cases hin : -1048576 ≤ e + k ∧ e + k ≤ 1048576
    · refine ⟨neg, ds, e + k, 0, hl, Nat.le_refl _, fun A c w hr hc hT => ?_, fun A c w hr hc => ?_⟩
      · refine (scale_ok neg A c ds e k w hr hc hT hv).mono ?_
        intro en w' h
        obtain ⟨hw, h⟩ := ans_same h (sval_abs neg hn.1) hn hl h0 ho
        rw [show min (max k (-4194304)) 4194304 = k by omega, if_pos hin] at h
        obtain ⟨v, rfl, hown⟩ := h
        obtain ⟨g, cap, rfl, _, hcap⟩ := own_row_some hown h0
        rw [sval_neg neg hn.1 hp0]
        exact ⟨_, cap, rfl, hown, hcap, hw⟩
      · refine (scaleRef_near neg A c ds e k w h0 (by omega) (by omega) he1 he2 hr hc (by omega)).mono ?_
        have hv2 : vB neg ds (e + k) = true := by
          rw [vB, if_neg (by omega)] at hv ⊢
          simp only [Bool.and_eq_true, decide_eq_true_eq] at hv ⊢
          exact ⟨⟨hv.1.1, hin.1⟩, hin.2⟩
        rw [hv2, if_pos rfl]
        rintro en w' ⟨rfl, hw⟩
        exact ⟨A, c, rfl, reads_only hr hw (fun _ _ h => h), hc, .inl rfl, hw⟩
    · refine ⟨false, [], 0, 2, by decide, Nat.zero_le _, fun A c w hr hc hT => ?_, fun A c w hr hc => ?_⟩
      · refine (scale_ok neg A c ds e k w hr hc hT hv).mono ?_
        intro en w' h
        obtain ⟨hw, h⟩ := ans_same h (sval_abs neg hn.1) hn hl h0 ho
        rw [if_neg (by omega)] at h
        exact ⟨none, 0, h, own_nil _ _ _ _, Nat.le_refl _, hw⟩
      · by_cases hk : 3145728 < k ∨ k < -3145728
        · refine (scaleRef_far neg A c ds e k w h0 hk).mono ?_
          rintro en w' ⟨rfl, hw⟩
          exact ⟨none, 0, rfl, ⟨rfl, by simp, fun h => absurd h (by simp)⟩, Nat.le_refl _, .inr rfl, hw⟩
        · refine (scaleRef_near neg A c ds e k w h0 (by omega) (by omega) he1 he2 hr hc (by omega)).mono ?_
          have hv2 : vB neg ds (e + k) = false := by
            rw [Bool.eq_false_iff]
            intro hv2
            obtain ⟨_, _, a, b⟩ := vB_digs hv2
            exact hin ⟨a, b⟩
          rw [hv2, if_neg (by decide)]
          rintro en w' ⟨rfl, hw⟩
          exact ⟨none, 0, rfl, ⟨rfl, by simp, fun h => absurd h (by simp)⟩, Nat.le_refl _, .inr rfl, hw⟩
  · have hd : ds = [] := List.eq_nil_of_length_eq_zero (by omega)
    subst hd
    obtain ⟨rfl, rfl⟩ := vB_none hv rfl
    refine ⟨false, [], 0, 0, by decide, Nat.zero_le _, fun A c w hr hc hT => ?_, fun A c w hr hc => ?_⟩
    · refine (scale_ok false A c [] 0 k w hr hc hT hv).mono ?_
      rintro en w' ⟨hw, ⟨_, rfl⟩ | ⟨hz, _⟩⟩
      · exact ⟨none, 0, rfl, own_nil _ _ _ _, Nat.le_refl _, hw⟩
      · exact absurd (by simp [sval, val]) hz
    · refine (scaleRef_zero false A c [] 0 k w rfl).mono ?_
      rintro en w' ⟨rfl, hw⟩
      exact ⟨A, c, rfl, ⟨rfl, by simp, fun h => absurd h (by simp)⟩, Nat.zero_le _, .inl rfl, hw⟩
end Go.Proofs.YtflhdplfkpdejaaGreatFmt
