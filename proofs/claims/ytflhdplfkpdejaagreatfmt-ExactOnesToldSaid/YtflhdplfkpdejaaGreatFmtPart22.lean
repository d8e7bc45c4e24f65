/- Part 22 of the walk of ExactOnes: LawN. -/
import Derived.Test.YtflhdplfkpdejaaGreatFmtPart21
import Derived.Test.YtflhdplfkpdejaaGreatFmtPart06
namespace Go.Proofs.YtflhdplfkpdejaaGreatFmt
open Go.RowKit Go.Proofs.YtflhdplfkpdejaaGreatFmtW.PrintWords Go.Proofs.YtflhdplfkpdejaaGreatFmtW.PrintLast
theorem Kp.turn {B k g : Nat} {w w' : World} (h : Kp B k [] w) (ho : Only w w' (fun x => x = g)) {cs : Array Value} (hg : w.heap[g]? = some (.cells cs 3 (0, 0))) : Kp B k [] w' := by
  obtain ⟨vL, vW, ws, h1, h2, h3, h4, _⟩ := h.ex
  have mv : ∀ {v : Value} {n : Nat} {xs : List Value}, w.ownsRow B 22 1 v n xs → w'.ownsRow B 22 1 v n xs := fun h => own_move h (fun b hb => ho.kept b (own_lt h b hb) (by
    obtain ⟨cb, hcb⟩ := own_typed h b hb
    exact blk_ne hcb hg (by decide)))
  exact ⟨⟨vL, vW, ws, (ho.kept _ (blk_lt h1) (blk_ne h1 hg (by decide))).trans h1, mv h2, mv h3, h4, fun i hi => absurd hi (Nat.not_lt_zero _)⟩, h.hB, fun i hi => absurd hi (Nat.not_lt_zero _), fun i j hi => absurd hi (Nat.not_lt_zero _)⟩
theorem own_after {w w' : World} {B g : Nat} {n : Nat} {v : Value} {xs : List Value} {e : TypeId} (h : w.ownsRow B e 1 v n xs) (ho : Only w w' (fun x => x = g)) (hb : ∀ b, v.ownBlock = some b → g < b) : w'.ownsRow B e 1 v n xs :=
  own_move h (fun b hb' => ho.kept b (own_lt h b hb') (by have := hb b hb'; omega))
set_option linter.unusedVariables false in
set_option linter.unusedSimpArgs false in
set_option maxRecDepth 100000 in
set_option maxHeartbeats 16000000 in
theorem ones_ok (B k : Nat) (neg : Bool) (A : Option Addr) (c : Nat) (ds : List Int) (e n : Int) (w : World) (hB : B ≤ w.heap.size) (hk : Kp B k [] w) (hT : Tab w) (hA : 0 < ds.length → ∀ ad, A = some ad → ad.block < B) (hr : ReadsInt w .i64 A ds.length ds) (hc : ds.length ≤ c) (hv : vB neg ds e = true) :
    Calls Tryz.prog 5 #[.pointer (some ⟨k, 0, none⟩), .agg #[.bool neg, .slice A ds.length c, .int .i64 e], .int .i64 n] w fun en w' => en = .returned (.bool true) ∧ Below B w w' ∧ ∃ es : List Ent, es.length = 2 ∧ (∀ i, i < es.length → (es.getD i noEnt).2.length ≤ 2000) ∧ Kp B k es w' := by
  obtain ⟨hdg, hl, he1, he2⟩ := vB_digs hv
  obtain ⟨ng, hng⟩ : ∃ ng, ng = (if 0 < ds.length then !neg else neg) := ⟨_, rfl⟩
  have hnv : vB ng ds e = true := by rw [hng]; exact vB_turn hv
  obtain ⟨nr, dr, er, ir, hdr, hdl, HS1, HS2⟩ := scale_both neg ds e n hv
  have HDL := Lib.hid hdl
  clear hdl
  have HR : Hid (∀ W, Only w W (fun _ => False) → ReadsInt W .i64 A ds.length ds) := Lib.hid (fun W h => reads_only hr h (fun _ _ h => h))
  have HT : Hid (∀ W, Only w W (fun _ => False) → Tab W) := Lib.hid (fun W h => hT.only h)
  have HL := Lib.hid (And.intro hc (And.intro hl (And.intro hv (And.intro hng (And.intro hnv hdr)))))
  have HS := Lib.hid (And.intro HS1 HS2)
  have HB := Lib.hid (And.intro hB hA)
  have ha := heap_alloc_new w (.cells #[.bool neg, .slice A ds.length c, .int .i64 e] 24)
  have hO := (Only.refl w (fun _ => False)).alloc (.cells #[.bool neg, .slice A ds.length c, .int .i64 e] 24)
  have hK := hk.only hO
  clear hr hc hl hv HS1 HS2 hk hT hA hB hdr hdg he1 he2 hng hnv
  have hac0 : (w.alloc (.cells #[.bool neg, .slice A ds.length c, .int .i64 e] 24)).cell? ⟨w.heap.size, 0, none⟩ = some (.bool neg) := blk_cell ha 0
  have hac1 : (w.alloc (.cells #[.bool neg, .slice A ds.length c, .int .i64 e] 24)).cell? ⟨w.heap.size, 1, none⟩ = some (.slice A ds.length c) := blk_cell ha 1
  have hac2 : (w.alloc (.cells #[.bool neg, .slice A ds.length c, .int .i64 e] 24)).cell? ⟨w.heap.size, 2, none⟩ = some (.int .i64 e) := blk_cell ha 2
  go_enter Tryz.func5, Tryz.ntmps5
  go_wp2_with fail
  clear hac0 hac1 hac2
  generalize w.alloc (.cells #[.bool neg, .slice A ds.length c, .int .i64 e] 24) = V0 at *
  have hw0 := hO.base.size
  refine (lentNum_calls neg A c ds e V0 (HR.out _ hO) (by have := HL.out.2.1; omega)).mono ?_
  rintro en V1 ⟨g, cap, rfl, hown, ho⟩
  replace ha := (ho.kept _ (blk_lt ha) (fun h => h)).trans ha
  replace hO := hO.trans ho
  obtain ⟨_, _, hcape, hgB, hcap⟩ := own_row_some hown (by omega)
  cases hcape
  have hwg : w.heap.size ≤ g := Nat.le_trans hw0 hgB
  replace hK := hK.only ho
  clear ho
  have ho := (Only.refl V1 (fun _ => False)).alloc (.cells #[.bool neg, .slice (some ⟨g, 0, none⟩) ds.length cap, .int .i64 e] 24)
  replace ha := (ho.kept _ (blk_lt ha) (fun h => h)).trans ha
  replace hO := hO.trans ho
  replace hown := own_only hown ho
  replace hK := hK.only ho
  have hx := heap_alloc_new V1 (.cells #[.bool neg, .slice (some ⟨g, 0, none⟩) ds.length cap, .int .i64 e] 24)
  clear ho
  have hac0 : (V1.alloc (.cells #[.bool neg, .slice (some ⟨g, 0, none⟩) ds.length cap, .int .i64 e] 24)).cell? ⟨w.heap.size, 0, none⟩ = some (.bool neg) := blk_cell ha 0
  have hac1 : (V1.alloc (.cells #[.bool neg, .slice (some ⟨g, 0, none⟩) ds.length cap, .int .i64 e] 24)).cell? ⟨w.heap.size, 1, none⟩ = some (.slice A ds.length c) := blk_cell ha 1
  have hac2 : (V1.alloc (.cells #[.bool neg, .slice (some ⟨g, 0, none⟩) ds.length cap, .int .i64 e] 24)).cell? ⟨w.heap.size, 2, none⟩ = some (.int .i64 e) := blk_cell ha 2
  have hxc0 : (V1.alloc (.cells #[.bool neg, .slice (some ⟨g, 0, none⟩) ds.length cap, .int .i64 e] 24)).cell? ⟨V1.heap.size, 0, none⟩ = some (.bool neg) := blk_cell hx 0
  have hxc1 : (V1.alloc (.cells #[.bool neg, .slice (some ⟨g, 0, none⟩) ds.length cap, .int .i64 e] 24)).cell? ⟨V1.heap.size, 1, none⟩ = some (.slice (some ⟨g, 0, none⟩) ds.length cap) := blk_cell hx 1
  have hxc2 : (V1.alloc (.cells #[.bool neg, .slice (some ⟨g, 0, none⟩) ds.length cap, .int .i64 e] 24)).cell? ⟨V1.heap.size, 2, none⟩ = some (.int .i64 e) := blk_cell hx 2
  go_wp2_with fail
  clear hac0 hac1 hac2 hxc0 hxc1 hxc2
  generalize V1.alloc (.cells #[.bool neg, .slice (some ⟨g, 0, none⟩) ds.length cap, .int .i64 e] 24) = V1a at *
  generalize V1.heap.size = bhx at *
  refine (refValid_calls neg A c ds e V1a (HR.out _ hO) HL.out.1 (by have := HL.out.2.1; omega)).mono ?_
  rintro en V2 ⟨rfl, ho⟩
  replace ha := (ho.kept _ (blk_lt ha) (fun h => h)).trans ha
  replace hx := (ho.kept _ (blk_lt hx) (fun h => h)).trans hx
  replace hO := hO.trans ho
  replace hown := own_only hown ho
  replace hK := hK.only ho
  rw [HL.out.2.2.1]
  clear ho
  have hac0 : (V2).cell? ⟨w.heap.size, 0, none⟩ = some (.bool neg) := blk_cell ha 0
  have hac1 : (V2).cell? ⟨w.heap.size, 1, none⟩ = some (.slice A ds.length c) := blk_cell ha 1
  have hac2 : (V2).cell? ⟨w.heap.size, 2, none⟩ = some (.int .i64 e) := blk_cell ha 2
  have hxc0 : (V2).cell? ⟨bhx, 0, none⟩ = some (.bool neg) := blk_cell hx 0
  have hxc1 : (V2).cell? ⟨bhx, 1, none⟩ = some (.slice (some ⟨g, 0, none⟩) ds.length cap) := blk_cell hx 1
  have hxc2 : (V2).cell? ⟨bhx, 2, none⟩ = some (.int .i64 e) := blk_cell hx 2
  go_wp2_with fail
  clear hac0 hac1 hac2 hxc0 hxc1 hxc2
  have hgp := own_lt hown g rfl
  have hwp := Nat.le_trans HB.out.1 hO.base.size
  have HN := neg_same neg (some ⟨g, 0, none⟩) cap ds e V2 (lent_reads hown) (by omega) (HT.out _ hO) HL.out.2.2.1
  rw [← HL.out.2.2.2.1] at HN
  refine (HN).mono ?_
  rintro en V3 ⟨Ap, cp, rfl, hp0, hcp, ho⟩
  replace ha := (ho.kept _ (blk_lt ha) (fun h => h)).trans ha
  replace hx := (ho.kept _ (blk_lt hx) (fun h => h)).trans hx
  replace hO := hO.trans ho
  replace hown := own_only hown ho
  have hpg : ∀ b, (Value.slice Ap ds.length cp).ownBlock = some b → g < b := fun b hb => Nat.lt_of_lt_of_le hgp (own_base hp0 b hb)
  have hpB : ∀ b, (Value.slice Ap ds.length cp).ownBlock = some b → w.heap.size ≤ b := fun b hb => Nat.le_trans hwg (Nat.le_of_lt (hpg b hb))
  replace hp0 := own_weaken hp0 hwp
  clear HN hgp hwp
  replace hK := hK.only ho
  clear ho
  have ho := (Only.refl V3 (fun _ => False)).alloc (.cells #[.bool ng, .slice Ap ds.length cp, .int .i64 e] 24)
  replace ha := (ho.kept _ (blk_lt ha) (fun h => h)).trans ha
  replace hx := (ho.kept _ (blk_lt hx) (fun h => h)).trans hx
  replace hO := hO.trans ho
  replace hown := own_only hown ho
  replace hK := hK.only ho
  replace hp0 := own_only hp0 ho
  have hp := heap_alloc_new V3 (.cells #[.bool ng, .slice Ap ds.length cp, .int .i64 e] 24)
  clear ho
  have hac0 : (V3.alloc (.cells #[.bool ng, .slice Ap ds.length cp, .int .i64 e] 24)).cell? ⟨w.heap.size, 0, none⟩ = some (.bool neg) := blk_cell ha 0
  have hac1 : (V3.alloc (.cells #[.bool ng, .slice Ap ds.length cp, .int .i64 e] 24)).cell? ⟨w.heap.size, 1, none⟩ = some (.slice A ds.length c) := blk_cell ha 1
  have hac2 : (V3.alloc (.cells #[.bool ng, .slice Ap ds.length cp, .int .i64 e] 24)).cell? ⟨w.heap.size, 2, none⟩ = some (.int .i64 e) := blk_cell ha 2
  have hxc0 : (V3.alloc (.cells #[.bool ng, .slice Ap ds.length cp, .int .i64 e] 24)).cell? ⟨bhx, 0, none⟩ = some (.bool neg) := blk_cell hx 0
  have hxc1 : (V3.alloc (.cells #[.bool ng, .slice Ap ds.length cp, .int .i64 e] 24)).cell? ⟨bhx, 1, none⟩ = some (.slice (some ⟨g, 0, none⟩) ds.length cap) := blk_cell hx 1
  have hxc2 : (V3.alloc (.cells #[.bool ng, .slice Ap ds.length cp, .int .i64 e] 24)).cell? ⟨bhx, 2, none⟩ = some (.int .i64 e) := blk_cell hx 2
  have hpc0 : (V3.alloc (.cells #[.bool ng, .slice Ap ds.length cp, .int .i64 e] 24)).cell? ⟨V3.heap.size, 0, none⟩ = some (.bool ng) := blk_cell hp 0
  have hpc1 : (V3.alloc (.cells #[.bool ng, .slice Ap ds.length cp, .int .i64 e] 24)).cell? ⟨V3.heap.size, 1, none⟩ = some (.slice Ap ds.length cp) := blk_cell hp 1
  have hpc2 : (V3.alloc (.cells #[.bool ng, .slice Ap ds.length cp, .int .i64 e] 24)).cell? ⟨V3.heap.size, 2, none⟩ = some (.int .i64 e) := blk_cell hp 2
  go_wp2_with fail
  clear hac0 hac1 hac2 hxc0 hxc1 hxc2 hpc0 hpc1 hpc2
  generalize V3.alloc (.cells #[.bool ng, .slice Ap ds.length cp, .int .i64 e] 24) = V3a at *
  generalize V3.heap.size = bhp at *
  refine (sign_ok neg (some ⟨g, 0, none⟩) cap ds e V3a (lent_reads hown) (by omega) HL.out.2.2.1).mono ?_
  rintro en V4 ⟨rfl, ho⟩
  replace ha := (ho.kept _ (blk_lt ha) (fun h => h)).trans ha
  replace hx := (ho.kept _ (blk_lt hx) (fun h => h)).trans hx
  replace hp := (ho.kept _ (blk_lt hp) (fun h => h)).trans hp
  replace hO := hO.trans ho
  replace hown := own_only hown ho
  replace hK := hK.only ho
  replace hp0 := own_only hp0 ho
  clear ho
  have hac0 : (V4).cell? ⟨w.heap.size, 0, none⟩ = some (.bool neg) := blk_cell ha 0
  have hac1 : (V4).cell? ⟨w.heap.size, 1, none⟩ = some (.slice A ds.length c) := blk_cell ha 1
  have hac2 : (V4).cell? ⟨w.heap.size, 2, none⟩ = some (.int .i64 e) := blk_cell ha 2
  have hxc0 : (V4).cell? ⟨bhx, 0, none⟩ = some (.bool neg) := blk_cell hx 0
  have hxc1 : (V4).cell? ⟨bhx, 1, none⟩ = some (.slice (some ⟨g, 0, none⟩) ds.length cap) := blk_cell hx 1
  have hxc2 : (V4).cell? ⟨bhx, 2, none⟩ = some (.int .i64 e) := blk_cell hx 2
  have hpc0 : (V4).cell? ⟨bhp, 0, none⟩ = some (.bool ng) := blk_cell hp 0
  have hpc1 : (V4).cell? ⟨bhp, 1, none⟩ = some (.slice Ap ds.length cp) := blk_cell hp 1
  have hpc2 : (V4).cell? ⟨bhp, 2, none⟩ = some (.int .i64 e) := blk_cell hp 2
  go_wp2_with fail
  clear hac0 hac1 hac2 hxc0 hxc1 hxc2 hpc0 hpc1 hpc2
  have hpr : ∀ b, (Value.slice Ap ds.length cp).ownBlock = some b → b < V4.heap.size := fun b hb => own_lt hp0 b hb
  have hgr := own_lt hown g rfl
  have hwp := Nat.le_trans HB.out.1 hO.base.size
  refine (HS.out.1 (some ⟨g, 0, none⟩) cap V4 (lent_reads hown) (by omega) (HT.out _ hO)).mono ?_
  rintro en V5 ⟨Ar, cr, rfl, hr0, hcr, ho⟩
  replace ha := (ho.kept _ (blk_lt ha) (fun h => h)).trans ha
  replace hx := (ho.kept _ (blk_lt hx) (fun h => h)).trans hx
  replace hp := (ho.kept _ (blk_lt hp) (fun h => h)).trans hp
  replace hO := hO.trans ho
  replace hown := own_only hown ho
  replace hp0 := own_only hp0 ho
  have hrg : ∀ b, (Value.slice Ar dr.length cr).ownBlock = some b → g < b := fun b hb => Nat.lt_of_lt_of_le hgr (own_base hr0 b hb)
  have hrB : ∀ b, (Value.slice Ar dr.length cr).ownBlock = some b → w.heap.size ≤ b := fun b hb => Nat.le_trans hwg (Nat.le_of_lt (hrg b hb))
  have hrp : ∀ b, (Value.slice Ap ds.length cp).ownBlock = some b → (Value.slice Ar dr.length cr).ownBlock ≠ some b := fun b hb hb2 => absurd (hpr b hb) (Nat.not_lt.2 (own_base hr0 b hb2))
  replace hr0 := own_weaken hr0 hwp
  clear hgr hpr hwp
  replace hK := hK.only ho
  clear ho
  have ho := (Only.refl V5 (fun _ => False)).alloc (.cells #[.bool nr, .slice Ar dr.length cr, .int .i64 er] 24)
  replace ha := (ho.kept _ (blk_lt ha) (fun h => h)).trans ha
  replace hx := (ho.kept _ (blk_lt hx) (fun h => h)).trans hx
  replace hp := (ho.kept _ (blk_lt hp) (fun h => h)).trans hp
  replace hO := hO.trans ho
  replace hown := own_only hown ho
  replace hK := hK.only ho
  replace hp0 := own_only hp0 ho
  replace hr0 := own_only hr0 ho
  have hq := heap_alloc_new V5 (.cells #[.bool nr, .slice Ar dr.length cr, .int .i64 er] 24)
  clear ho
  have hac0 : (V5.alloc (.cells #[.bool nr, .slice Ar dr.length cr, .int .i64 er] 24)).cell? ⟨w.heap.size, 0, none⟩ = some (.bool neg) := blk_cell ha 0
  have hac1 : (V5.alloc (.cells #[.bool nr, .slice Ar dr.length cr, .int .i64 er] 24)).cell? ⟨w.heap.size, 1, none⟩ = some (.slice A ds.length c) := blk_cell ha 1
  have hac2 : (V5.alloc (.cells #[.bool nr, .slice Ar dr.length cr, .int .i64 er] 24)).cell? ⟨w.heap.size, 2, none⟩ = some (.int .i64 e) := blk_cell ha 2
  have hxc0 : (V5.alloc (.cells #[.bool nr, .slice Ar dr.length cr, .int .i64 er] 24)).cell? ⟨bhx, 0, none⟩ = some (.bool neg) := blk_cell hx 0
  have hxc1 : (V5.alloc (.cells #[.bool nr, .slice Ar dr.length cr, .int .i64 er] 24)).cell? ⟨bhx, 1, none⟩ = some (.slice (some ⟨g, 0, none⟩) ds.length cap) := blk_cell hx 1
  have hxc2 : (V5.alloc (.cells #[.bool nr, .slice Ar dr.length cr, .int .i64 er] 24)).cell? ⟨bhx, 2, none⟩ = some (.int .i64 e) := blk_cell hx 2
  have hpc0 : (V5.alloc (.cells #[.bool nr, .slice Ar dr.length cr, .int .i64 er] 24)).cell? ⟨bhp, 0, none⟩ = some (.bool ng) := blk_cell hp 0
  have hpc1 : (V5.alloc (.cells #[.bool nr, .slice Ar dr.length cr, .int .i64 er] 24)).cell? ⟨bhp, 1, none⟩ = some (.slice Ap ds.length cp) := blk_cell hp 1
  have hpc2 : (V5.alloc (.cells #[.bool nr, .slice Ar dr.length cr, .int .i64 er] 24)).cell? ⟨bhp, 2, none⟩ = some (.int .i64 e) := blk_cell hp 2
  have hqc0 : (V5.alloc (.cells #[.bool nr, .slice Ar dr.length cr, .int .i64 er] 24)).cell? ⟨V5.heap.size, 0, none⟩ = some (.bool nr) := blk_cell hq 0
  have hqc1 : (V5.alloc (.cells #[.bool nr, .slice Ar dr.length cr, .int .i64 er] 24)).cell? ⟨V5.heap.size, 1, none⟩ = some (.slice Ar dr.length cr) := blk_cell hq 1
  have hqc2 : (V5.alloc (.cells #[.bool nr, .slice Ar dr.length cr, .int .i64 er] 24)).cell? ⟨V5.heap.size, 2, none⟩ = some (.int .i64 er) := blk_cell hq 2
  go_wp2_with fail
  clear hac0 hac1 hac2 hxc0 hxc1 hxc2 hpc0 hpc1 hpc2 hqc0 hqc1 hqc2
  generalize V5.alloc (.cells #[.bool nr, .slice Ar dr.length cr, .int .i64 er] 24) = V5a at *
  generalize V5.heap.size = bhq at *
  refine (valid_calls neg (some ⟨g, 0, none⟩) cap ds e V5a (lent_reads hown) (by omega) (by have := HL.out.2.1; omega)).mono ?_
  rintro en V6 ⟨rfl, ho⟩
  replace ha := (ho.kept _ (blk_lt ha) (fun h => h)).trans ha
  replace hx := (ho.kept _ (blk_lt hx) (fun h => h)).trans hx
  replace hp := (ho.kept _ (blk_lt hp) (fun h => h)).trans hp
  replace hq := (ho.kept _ (blk_lt hq) (fun h => h)).trans hq
  replace hO := hO.trans ho
  replace hown := own_only hown ho
  replace hK := hK.only ho
  replace hp0 := own_only hp0 ho
  replace hr0 := own_only hr0 ho
  rw [HL.out.2.2.1]
  clear ho
  have hac0 : (V6).cell? ⟨w.heap.size, 0, none⟩ = some (.bool neg) := blk_cell ha 0
  have hac1 : (V6).cell? ⟨w.heap.size, 1, none⟩ = some (.slice A ds.length c) := blk_cell ha 1
  have hac2 : (V6).cell? ⟨w.heap.size, 2, none⟩ = some (.int .i64 e) := blk_cell ha 2
  have hxc0 : (V6).cell? ⟨bhx, 0, none⟩ = some (.bool neg) := blk_cell hx 0
  have hxc1 : (V6).cell? ⟨bhx, 1, none⟩ = some (.slice (some ⟨g, 0, none⟩) ds.length cap) := blk_cell hx 1
  have hxc2 : (V6).cell? ⟨bhx, 2, none⟩ = some (.int .i64 e) := blk_cell hx 2
  have hpc0 : (V6).cell? ⟨bhp, 0, none⟩ = some (.bool ng) := blk_cell hp 0
  have hpc1 : (V6).cell? ⟨bhp, 1, none⟩ = some (.slice Ap ds.length cp) := blk_cell hp 1
  have hpc2 : (V6).cell? ⟨bhp, 2, none⟩ = some (.int .i64 e) := blk_cell hp 2
  have hqc0 : (V6).cell? ⟨bhq, 0, none⟩ = some (.bool nr) := blk_cell hq 0
  have hqc1 : (V6).cell? ⟨bhq, 1, none⟩ = some (.slice Ar dr.length cr) := blk_cell hq 1
  have hqc2 : (V6).cell? ⟨bhq, 2, none⟩ = some (.int .i64 er) := blk_cell hq 2
  go_wp2_with fail
  clear hac0 hac1 hac2 hxc0 hxc1 hxc2 hpc0 hpc1 hpc2 hqc0 hqc1 hqc2
  refine (back_calls _ g cap A c ds V6 hown (HR.out _ hO) HL.out.1 (by have := HL.out.2.1; omega) hcap).mono ?_
  rintro en V7 ⟨rfl, ho⟩
  obtain ⟨cg, hcg⟩ := own_typed hown g rfl
  replace ha := (ho.kept _ (blk_lt ha) (blk_ne ha hcg (by decide))).trans ha
  replace hx := (ho.kept _ (blk_lt hx) (blk_ne hx hcg (by decide))).trans hx
  replace hp := (ho.kept _ (blk_lt hp) (blk_ne hp hcg (by decide))).trans hp
  replace hq := (ho.kept _ (blk_lt hq) (blk_ne hq hcg (by decide))).trans hq
  replace hK := hK.turn ho hcg
  replace hp0 := own_after hp0 ho hpg
  replace hr0 := own_after hr0 ho hrg
  replace hO := hO.step ho (by rintro i hi rfl; omega)
  clear ho hcg hown
  have hac0 : (V7).cell? ⟨w.heap.size, 0, none⟩ = some (.bool neg) := blk_cell ha 0
  have hac1 : (V7).cell? ⟨w.heap.size, 1, none⟩ = some (.slice A ds.length c) := blk_cell ha 1
  have hac2 : (V7).cell? ⟨w.heap.size, 2, none⟩ = some (.int .i64 e) := blk_cell ha 2
  have hxc0 : (V7).cell? ⟨bhx, 0, none⟩ = some (.bool neg) := blk_cell hx 0
  have hxc1 : (V7).cell? ⟨bhx, 1, none⟩ = some (.slice (some ⟨g, 0, none⟩) ds.length cap) := blk_cell hx 1
  have hxc2 : (V7).cell? ⟨bhx, 2, none⟩ = some (.int .i64 e) := blk_cell hx 2
  have hpc0 : (V7).cell? ⟨bhp, 0, none⟩ = some (.bool ng) := blk_cell hp 0
  have hpc1 : (V7).cell? ⟨bhp, 1, none⟩ = some (.slice Ap ds.length cp) := blk_cell hp 1
  have hpc2 : (V7).cell? ⟨bhp, 2, none⟩ = some (.int .i64 e) := blk_cell hp 2
  have hqc0 : (V7).cell? ⟨bhq, 0, none⟩ = some (.bool nr) := blk_cell hq 0
  have hqc1 : (V7).cell? ⟨bhq, 1, none⟩ = some (.slice Ar dr.length cr) := blk_cell hq 1
  have hqc2 : (V7).cell? ⟨bhq, 2, none⟩ = some (.int .i64 er) := blk_cell hq 2
  go_wp2_with fail
  clear hac0 hac1 hac2 hxc0 hxc1 hxc2 hpc0 hpc1 hpc2 hqc0 hqc1 hqc2
  refine (HS.out.2 A c V7 (HR.out _ hO) HL.out.1).mono ?_
  rintro en V8 ⟨Aw, cw, rfl, hrw, hcw, hAw, ho⟩
  replace ha := (ho.kept _ (blk_lt ha) (fun h => h)).trans ha
  replace hx := (ho.kept _ (blk_lt hx) (fun h => h)).trans hx
  replace hp := (ho.kept _ (blk_lt hp) (fun h => h)).trans hp
  replace hq := (ho.kept _ (blk_lt hq) (fun h => h)).trans hq
  replace hO := hO.trans ho
  replace hK := hK.only ho
  replace hp0 := own_only hp0 ho
  replace hr0 := own_only hr0 ho
  clear ho
  have ho := (Only.refl V8 (fun _ => False)).alloc (.cells #[.bool nr, .slice Aw dr.length cw, .int .i64 er] 24)
  replace ha := (ho.kept _ (blk_lt ha) (fun h => h)).trans ha
  replace hx := (ho.kept _ (blk_lt hx) (fun h => h)).trans hx
  replace hp := (ho.kept _ (blk_lt hp) (fun h => h)).trans hp
  replace hq := (ho.kept _ (blk_lt hq) (fun h => h)).trans hq
  replace hO := hO.trans ho
  replace hK := hK.only ho
  replace hp0 := own_only hp0 ho
  replace hr0 := own_only hr0 ho
  replace hrw := reads_only hrw ho (fun _ _ h => h)
  have hw := heap_alloc_new V8 (.cells #[.bool nr, .slice Aw dr.length cw, .int .i64 er] 24)
  clear ho
  have hac0 : (V8.alloc (.cells #[.bool nr, .slice Aw dr.length cw, .int .i64 er] 24)).cell? ⟨w.heap.size, 0, none⟩ = some (.bool neg) := blk_cell ha 0
  have hac1 : (V8.alloc (.cells #[.bool nr, .slice Aw dr.length cw, .int .i64 er] 24)).cell? ⟨w.heap.size, 1, none⟩ = some (.slice A ds.length c) := blk_cell ha 1
  have hac2 : (V8.alloc (.cells #[.bool nr, .slice Aw dr.length cw, .int .i64 er] 24)).cell? ⟨w.heap.size, 2, none⟩ = some (.int .i64 e) := blk_cell ha 2
  have hxc0 : (V8.alloc (.cells #[.bool nr, .slice Aw dr.length cw, .int .i64 er] 24)).cell? ⟨bhx, 0, none⟩ = some (.bool neg) := blk_cell hx 0
  have hxc1 : (V8.alloc (.cells #[.bool nr, .slice Aw dr.length cw, .int .i64 er] 24)).cell? ⟨bhx, 1, none⟩ = some (.slice (some ⟨g, 0, none⟩) ds.length cap) := blk_cell hx 1
  have hxc2 : (V8.alloc (.cells #[.bool nr, .slice Aw dr.length cw, .int .i64 er] 24)).cell? ⟨bhx, 2, none⟩ = some (.int .i64 e) := blk_cell hx 2
  have hpc0 : (V8.alloc (.cells #[.bool nr, .slice Aw dr.length cw, .int .i64 er] 24)).cell? ⟨bhp, 0, none⟩ = some (.bool ng) := blk_cell hp 0
  have hpc1 : (V8.alloc (.cells #[.bool nr, .slice Aw dr.length cw, .int .i64 er] 24)).cell? ⟨bhp, 1, none⟩ = some (.slice Ap ds.length cp) := blk_cell hp 1
  have hpc2 : (V8.alloc (.cells #[.bool nr, .slice Aw dr.length cw, .int .i64 er] 24)).cell? ⟨bhp, 2, none⟩ = some (.int .i64 e) := blk_cell hp 2
  have hqc0 : (V8.alloc (.cells #[.bool nr, .slice Aw dr.length cw, .int .i64 er] 24)).cell? ⟨bhq, 0, none⟩ = some (.bool nr) := blk_cell hq 0
  have hqc1 : (V8.alloc (.cells #[.bool nr, .slice Aw dr.length cw, .int .i64 er] 24)).cell? ⟨bhq, 1, none⟩ = some (.slice Ar dr.length cr) := blk_cell hq 1
  have hqc2 : (V8.alloc (.cells #[.bool nr, .slice Aw dr.length cw, .int .i64 er] 24)).cell? ⟨bhq, 2, none⟩ = some (.int .i64 er) := blk_cell hq 2
  have hwc0 : (V8.alloc (.cells #[.bool nr, .slice Aw dr.length cw, .int .i64 er] 24)).cell? ⟨V8.heap.size, 0, none⟩ = some (.bool nr) := blk_cell hw 0
  have hwc1 : (V8.alloc (.cells #[.bool nr, .slice Aw dr.length cw, .int .i64 er] 24)).cell? ⟨V8.heap.size, 1, none⟩ = some (.slice Aw dr.length cw) := blk_cell hw 1
  have hwc2 : (V8.alloc (.cells #[.bool nr, .slice Aw dr.length cw, .int .i64 er] 24)).cell? ⟨V8.heap.size, 2, none⟩ = some (.int .i64 er) := blk_cell hw 2
  go_wp2_with fail
  clear hac0 hac1 hac2 hxc0 hxc1 hxc2 hpc0 hpc1 hpc2 hqc0 hqc1 hqc2 hwc0 hwc1 hwc2
  generalize V8.alloc (.cells #[.bool nr, .slice Aw dr.length cw, .int .i64 er] 24) = V8a at *
  generalize V8.heap.size = bhw at *
  have hBV : B ≤ V8a.heap.size := Nat.le_trans HB.out.1 hO.base.size
  have hOB : Below B w V8a := hO.below HB.out.1 (fun _ h => h.elim)
  have hrA := HR.out V8a hO
  have hAw : 0 < dr.length → ∀ ad, Aw = some ad → ad.block < B := fun h0 ad h => by
    rcases hAw with h2 | h2
    · exact HB.out.2 (Nat.lt_of_lt_of_le h0 HDL.out) ad (h2 ▸ h)
    · rw [h2] at h; cases h
  have hTu : ∀ W, Calls Tryz.prog 21 #[.agg #[.bool neg, .slice A ds.length c, .int .i64 e]] W fun en w' => en = .returned (.agg #[.bool ng, .slice A ds.length c, .int .i64 e]) ∧ Only W w' (fun _ => False) := fun W => by
    have := turned_calls neg A ds.length c e W
    rw [← HL.out.2.2.2.1] at this
    exact this
  have hkc : ∀ W, Spare V8a W → W.cell? ⟨w.heap.size, 0, none⟩ = some (.bool neg) ∧ W.cell? ⟨w.heap.size, 1, none⟩ = some (.slice A ds.length c) ∧ W.cell? ⟨w.heap.size, 2, none⟩ = some (.int .i64 e) ∧ W.cell? ⟨bhp, 0, none⟩ = some (.bool ng) ∧ W.cell? ⟨bhp, 1, none⟩ = some (.slice Ap ds.length cp) ∧ W.cell? ⟨bhp, 2, none⟩ = some (.int .i64 e) ∧ W.cell? ⟨bhq, 0, none⟩ = some (.bool nr) ∧ W.cell? ⟨bhq, 1, none⟩ = some (.slice Ar dr.length cr) ∧ W.cell? ⟨bhq, 2, none⟩ = some (.int .i64 er) ∧ W.cell? ⟨bhw, 0, none⟩ = some (.bool nr) ∧ W.cell? ⟨bhw, 1, none⟩ = some (.slice Aw dr.length cw) ∧ W.cell? ⟨bhw, 2, none⟩ = some (.int .i64 er) := fun W hW => by
    have a := (hW _ _ _ ha (by decide) (by decide)).trans ha
    have p := (hW _ _ _ hp (by decide) (by decide)).trans hp
    have q := (hW _ _ _ hq (by decide) (by decide)).trans hq
    have u := (hW _ _ _ hw (by decide) (by decide)).trans hw
    exact ⟨blk_cell a 0, blk_cell a 1, blk_cell a 2, blk_cell p 0, blk_cell p 1, blk_cell p 2, blk_cell q 0, blk_cell q 1, blk_cell q 2, blk_cell u 0, blk_cell u 1, blk_cell u 2⟩
  have HKC := Lib.hid hkc
  have hKp := hK.only ((Only.refl V8a (fun _ => False)).drew)
  replace hp0 := own_only hp0 ((Only.refl V8a (fun _ => False)).drew)
  replace hr0 := own_only hr0 ((Only.refl V8a (fun _ => False)).drew)
  clear hkc hK hO ha hx hp hq hw hpg hpB hrg hrB hw0 hwg hgB
  refine start_ (S := (fun W => Spare V8a W ∧ Below B V8a W)) (ds := ([] : List Nat)) #[false, false, false, false, false, false, false, false, false, false, false, false, false, false, false, false, false, false, false, false, false, false, false, false, false, false, false, false, false, false, false, false, false, false, false] (by kernel_rfl) rfl rfl ?_ (fun hHeld => ?_)
  · exact ⟨fun _ _ _ _ _ _ => rfl, (Below.refl _ _).drew⟩
  generalize V8a.drew = W1 at *
  refine pure_ (i := 0) (oi := ?o0) (v := ?v0) #[true, false, false, false, false, false, false, false, false, false, false, false, false, false, false, false, false, false, false, false, false, false, false, false, false, false, false, false, false, false, false, false, false, false, false] ?h0 rfl (by kernel_rfl) ?q0 (Or.inl ⟨?w0, ?y0⟩) rfl ?r0
  case h0 => (simp only [List.getElem?_toArray, List.getElem?_cons_succ, List.getElem?_cons_zero]; rfl)
  case q0 => exact fun _ _ _ h => h
  case w0 => rfl
  case y0 => (intro W; go_simp; first | done | with_reducible rfl)
  simp only [Act.put, List.setIfInBounds_toArray, List.set_cons_zero, List.set_cons_succ]
  refine pure_ (i := 2) (oi := ?o1) (v := ?v1) #[true, false, true, false, false, false, false, false, false, false, false, false, false, false, false, false, false, false, false, false, false, false, false, false, false, false, false, false, false, false, false, false, false, false, false] ?h1 rfl (by kernel_rfl) ?q1 (Or.inl ⟨?w1, ?y1⟩) rfl ?r1
  case h1 => (simp only [List.getElem?_toArray, List.getElem?_cons_succ, List.getElem?_cons_zero]; rfl)
  case q1 => exact fun _ _ _ h => h
  case w1 => rfl
  case y1 => (intro W; go_simp; first | done | with_reducible rfl)
  simp only [Act.put, List.setIfInBounds_toArray, List.set_cons_zero, List.set_cons_succ]
  refine wpAnyLast_take (i := 1) (oi := ?o2) (v := ?v2) ?h2 (by kernel_rfl) (by kernel_rfl) (by kernel_rfl) (by kernel_rfl) (by kernel_rfl) ?q2 (Or.inl ⟨?w2, ?y2⟩) hHeld ?r2
  case h2 => (simp only [List.getElem?_toArray, List.getElem?_cons_succ, List.getElem?_cons_zero]; rfl)
  case q2 => exact fun _ _ _ h => h
  case w2 => rfl
  case y2 => (intro W hSw; obtain ⟨q1, q2, q3, q4, q5, q6, q7, q8, q9, q10, q11, q12⟩ := HKC.out _ hSw.1; go_simp; first | done | with_reducible rfl)
  simp only [Act.put, List.setIfInBounds_toArray, List.set_cons_zero, List.set_cons_succ]
  refine wpAnyLast_take (i := 3) (oi := ?o3) (v := ?v3) ?h3 (by kernel_rfl) (by kernel_rfl) (by kernel_rfl) (by kernel_rfl) (by kernel_rfl) ?q3 (Or.inl ⟨?w3, ?y3⟩) hHeld ?r3
  case h3 => (simp only [List.getElem?_toArray, List.getElem?_cons_succ, List.getElem?_cons_zero]; rfl)
  case q3 => exact fun _ _ _ h => h
  case w3 => rfl
  case y3 => (intro W hSw; obtain ⟨q1, q2, q3, q4, q5, q6, q7, q8, q9, q10, q11, q12⟩ := HKC.out _ hSw.1; go_simp; first | done | with_reducible rfl)
  simp only [Act.put, List.setIfInBounds_toArray, List.set_cons_zero, List.set_cons_succ]
  refine wpAnyLast_ready (rs := [4]) (by kernel_rfl) (by simp) ?_
  refine AllReadyL.cons (o := ?o4) ?h4 (by simp) (fun K hK => ?s4) ?m4
  case h4 => (simp only [List.getElem?_toArray, List.getElem?_cons_succ, List.getElem?_cons_zero]; rfl)
  case m4 => exact AllReadyL.nil
  go_simp
  refine (hTu W1).mono ?_
  rintro en W2 ⟨rfl, ho⟩
  replace hKp := hKp.only ho
  replace hp0 := own_only hp0 ho
  replace hr0 := own_only hr0 ho
  refine hK.out _ _ ⟨hHeld.1.trans (Spare.of_only ho), hHeld.2.trans (ho.below (Nat.le_trans hBV hHeld.2.size) (fun _ h => h.elim))⟩ (fun hHeldN => ?_)
  clear hK K hHeld
  have hHeld := hHeldN
  clear hHeldN
  clear ho
  simp only [Act.put, List.setIfInBounds_toArray, List.set_cons_zero, List.set_cons_succ]
  refine wpAnyLast_ready (rs := [5]) (by kernel_rfl) (by simp) ?_
  refine AllReadyL.cons (o := ?o5) ?h5 (by simp) (fun K hK => ?s5) ?m5
  case h5 => (simp only [List.getElem?_toArray, List.getElem?_cons_succ, List.getElem?_cons_zero]; rfl)
  case m5 => exact AllReadyL.nil
  go_simp
  refine (is_ok B k [] ng Ap A cp c ds e W2 (Nat.le_trans hBV hHeld.2.size) hKp hp0 (fun i hi => absurd hi (Nat.not_lt_zero _)) (reads_under hrA hHeld.2 HB.out.2) HL.out.1 (by have := HL.out.2.1; omega) (by decide) hcp HB.out.2 HL.out.2.2.2.2.1).mono ?_
  rintro en W3 ⟨rfl, hKn, hb, hs⟩
  clear hKp
  have hKp := hKn
  clear hKn
  replace hp0 := hs.own hp0
  replace hr0 := hs.own hr0
  refine hK.out _ _ ⟨hHeld.1.trans hs, hHeld.2.trans hb⟩ (fun hHeldN => ?_)
  clear hK K hHeld
  have hHeld := hHeldN
  clear hHeldN
  clear hs hb
  simp only [Act.put, List.setIfInBounds_toArray, List.set_cons_zero, List.set_cons_succ]
  refine pure_ (i := 6) (oi := ?o6) (v := ?v6) #[true, true, true, true, true, true, true, false, false, false, false, false, false, false, false, false, false, false, false, false, false, false, false, false, false, false, false, false, false, false, false, false, false, false, false] ?h6 rfl (by kernel_rfl) ?q6 (Or.inl ⟨?w6, ?y6⟩) rfl ?r6
  case h6 => (simp only [List.getElem?_toArray, List.getElem?_cons_succ, List.getElem?_cons_zero]; rfl)
  case q6 => exact fun _ _ _ h => h
  case w6 => rfl
  case y6 => (intro W; go_simp; first | done | with_reducible rfl)
  simp only [Act.put, List.setIfInBounds_toArray, List.set_cons_zero, List.set_cons_succ]
  refine pure_ (i := 7) (oi := ?o7) (v := ?v7) #[true, true, true, true, true, true, true, true, false, false, false, false, false, false, false, false, false, false, false, false, false, false, false, false, false, false, false, false, false, false, false, false, false, false, false] ?h7 rfl (by kernel_rfl) ?q7 (Or.inl ⟨?w7, ?y7⟩) rfl ?r7
  case h7 => (simp only [List.getElem?_toArray, List.getElem?_cons_succ, List.getElem?_cons_zero]; rfl)
  case q7 => exact fun _ _ _ h => h
  case w7 => rfl
  case y7 => (intro W; go_simp; first | done | with_reducible rfl)
  simp only [Act.put, List.setIfInBounds_toArray, List.set_cons_zero, List.set_cons_succ]
  refine pure_ (i := 8) (oi := ?o8) (v := ?v8) #[true, true, true, true, true, true, true, true, true, false, false, false, false, false, false, false, false, false, false, false, false, false, false, false, false, false, false, false, false, false, false, false, false, false, false] ?h8 rfl (by kernel_rfl) ?q8 (Or.inl ⟨?w8, ?y8⟩) rfl ?r8
  case h8 => (simp only [List.getElem?_toArray, List.getElem?_cons_succ, List.getElem?_cons_zero]; rfl)
  case q8 => exact fun _ _ _ h => h
  case w8 => rfl
  case y8 => (intro W; go_simp; first | done | with_reducible rfl)
  simp only [Act.put, List.setIfInBounds_toArray, List.set_cons_zero, List.set_cons_succ]
  refine pure_ (i := 9) (oi := ?o9) (v := ?v9) #[true, true, true, true, true, true, true, true, true, true, false, false, false, false, false, false, false, false, false, false, false, false, false, false, false, false, false, false, false, false, false, false, false, false, false] ?h9 rfl (by kernel_rfl) ?q9 (Or.inl ⟨?w9, ?y9⟩) rfl ?r9
  case h9 => (simp only [List.getElem?_toArray, List.getElem?_cons_succ, List.getElem?_cons_zero]; rfl)
  case q9 => exact fun _ _ _ h => h
  case w9 => rfl
  case y9 => (intro W; go_simp; first | done | with_reducible rfl)
  simp only [Act.put, List.setIfInBounds_toArray, List.set_cons_zero, List.set_cons_succ]
  refine pure_ (i := 10) (oi := ?o10) (v := ?v10) #[true, true, true, true, true, true, true, true, true, true, true, false, false, false, false, false, false, false, false, false, false, false, false, false, false, false, false, false, false, false, false, false, false, false, false] ?h10 rfl (by kernel_rfl) ?q10 (Or.inl ⟨?w10, ?y10⟩) rfl ?r10
  case h10 => (simp only [List.getElem?_toArray, List.getElem?_cons_succ, List.getElem?_cons_zero]; rfl)
  case q10 => exact fun _ _ _ h => h
  case w10 => rfl
  case y10 => (intro W; go_simp; first | done | with_reducible rfl)
  simp only [Act.put, List.setIfInBounds_toArray, List.set_cons_zero, List.set_cons_succ]
  refine pure_ (i := 11) (oi := ?o11) (v := ?v11) #[true, true, true, true, true, true, true, true, true, true, true, true, false, false, false, false, false, false, false, false, false, false, false, false, false, false, false, false, false, false, false, false, false, false, false] ?h11 rfl (by kernel_rfl) ?q11 (Or.inl ⟨?w11, ?y11⟩) rfl ?r11
  case h11 => (simp only [List.getElem?_toArray, List.getElem?_cons_succ, List.getElem?_cons_zero]; rfl)
  case q11 => exact fun _ _ _ h => h
  case w11 => rfl
  case y11 => (intro W; go_simp; first | done | with_reducible rfl)
  simp only [Act.put, List.setIfInBounds_toArray, List.set_cons_zero, List.set_cons_succ]
  refine wpAnyLast_take (i := 12) (oi := ?o12) (v := ?v12) ?h12 (by kernel_rfl) (by kernel_rfl) (by kernel_rfl) (by kernel_rfl) (by kernel_rfl) ?q12 (Or.inl ⟨?w12, ?y12⟩) hHeld ?r12
  case h12 => (simp only [List.getElem?_toArray, List.getElem?_cons_succ, List.getElem?_cons_zero]; rfl)
  case q12 => exact fun _ _ _ h => h
  case w12 => rfl
  case y12 => (intro W hSw; obtain ⟨q1, q2, q3, q4, q5, q6, q7, q8, q9, q10, q11, q12⟩ := HKC.out _ hSw.1; go_simp; first | done | with_reducible rfl)
  simp only [Act.put, List.setIfInBounds_toArray, List.set_cons_zero, List.set_cons_succ]
  refine wpAnyLast_ready (rs := [13]) (by kernel_rfl) (by simp) ?_
  refine AllReadyL.cons (o := ?o13) ?h13 (by simp) (fun K hK => ?s13) ?m13
  case h13 => (simp only [List.getElem?_toArray, List.getElem?_cons_succ, List.getElem?_cons_zero]; rfl)
  case m13 => exact AllReadyL.nil
  go_simp
  refine (sig_calls neg A c ds e W3 (reads_under hrA hHeld.2 HB.out.2) HL.out.1 HL.out.2.2.1).mono ?_
  rintro en W4 ⟨rfl, ho⟩
  replace hKp := hKp.only ho
  replace hp0 := own_only hp0 ho
  replace hr0 := own_only hr0 ho
  refine hK.out _ _ ⟨hHeld.1.trans (Spare.of_only ho), hHeld.2.trans (ho.below (Nat.le_trans hBV hHeld.2.size) (fun _ h => h.elim))⟩ (fun hHeldN => ?_)
  clear hK K hHeld
  have hHeld := hHeldN
  clear hHeldN
  clear ho
  simp only [Act.put, List.setIfInBounds_toArray, List.set_cons_zero, List.set_cons_succ]
  refine pure_ (i := 14) (oi := ?o14) (v := ?v14) #[true, true, true, true, true, true, true, true, true, true, true, true, true, true, true, false, false, false, false, false, false, false, false, false, false, false, false, false, false, false, false, false, false, false, false] ?h14 rfl (by kernel_rfl) ?q14 (Or.inl ⟨?w14, ?y14⟩) rfl ?r14
  case h14 => (simp only [List.getElem?_toArray, List.getElem?_cons_succ, List.getElem?_cons_zero]; rfl)
  case q14 => exact fun _ _ _ h => h
  case w14 => rfl
  case y14 => (intro W; go_simp; first | done | with_reducible rfl)
  simp only [Act.put, List.setIfInBounds_toArray, List.set_cons_zero, List.set_cons_succ]
  refine pure_ (i := 15) (oi := ?o15) (v := ?v15) #[true, true, true, true, true, true, true, true, true, true, true, true, true, true, true, true, false, false, false, false, false, false, false, false, false, false, false, false, false, false, false, false, false, false, false] ?h15 rfl (by kernel_rfl) ?q15 (Or.inl ⟨?w15, ?y15⟩) rfl ?r15
  case h15 => (simp only [List.getElem?_toArray, List.getElem?_cons_succ, List.getElem?_cons_zero]; rfl)
  case q15 => exact fun _ _ _ h => h
  case w15 => rfl
  case y15 => (intro W; go_simp; first | done | with_reducible rfl)
  simp only [Act.put, List.setIfInBounds_toArray, List.set_cons_zero, List.set_cons_succ]
  refine pure_ (i := 16) (oi := ?o16) (v := ?v16) #[true, true, true, true, true, true, true, true, true, true, true, true, true, true, true, true, true, false, false, false, false, false, false, false, false, false, false, false, false, false, false, false, false, false, false] ?h16 rfl (by kernel_rfl) ?q16 (Or.inl ⟨?w16, ?y16⟩) rfl ?r16
  case h16 => (simp only [List.getElem?_toArray, List.getElem?_cons_succ, List.getElem?_cons_zero]; rfl)
  case q16 => exact fun _ _ _ h => h
  case w16 => rfl
  case y16 => (intro W; go_simp; first | done | with_reducible rfl)
  simp only [Act.put, List.setIfInBounds_toArray, List.set_cons_zero, List.set_cons_succ]
  refine pure_ (i := 17) (oi := ?o17) (v := ?v17) #[true, true, true, true, true, true, true, true, true, true, true, true, true, true, true, true, true, true, false, false, false, false, false, false, false, false, false, false, false, false, false, false, false, false, false] ?h17 rfl (by kernel_rfl) ?q17 (Or.inl ⟨?w17, ?y17⟩) rfl ?r17
  case h17 => (simp only [List.getElem?_toArray, List.getElem?_cons_succ, List.getElem?_cons_zero]; rfl)
  case q17 => exact fun _ _ _ h => h
  case w17 => rfl
  case y17 => (intro W; go_simp; first | done | with_reducible rfl)
  simp only [Act.put, List.setIfInBounds_toArray, List.set_cons_zero, List.set_cons_succ]
  refine pure_ (i := 18) (oi := ?o18) (v := ?v18) #[true, true, true, true, true, true, true, true, true, true, true, true, true, true, true, true, true, true, true, false, false, false, false, false, false, false, false, false, false, false, false, false, false, false, false] ?h18 rfl (by kernel_rfl) ?q18 (Or.inl ⟨?w18, ?y18⟩) rfl ?r18
  case h18 => (simp only [List.getElem?_toArray, List.getElem?_cons_succ, List.getElem?_cons_zero]; rfl)
  case q18 => exact fun _ _ _ h => h
  case w18 => rfl
  case y18 => (intro W; go_simp; first | done | with_reducible rfl)
  simp only [Act.put, List.setIfInBounds_toArray, List.set_cons_zero, List.set_cons_succ]
  refine pure_ (i := 19) (oi := ?o19) (v := ?v19) #[true, true, true, true, true, true, true, true, true, true, true, true, true, true, true, true, true, true, true, true, false, false, false, false, false, false, false, false, false, false, false, false, false, false, false] ?h19 rfl (by kernel_rfl) ?q19 (Or.inl ⟨?w19, ?y19⟩) rfl ?r19
  case h19 => (simp only [List.getElem?_toArray, List.getElem?_cons_succ, List.getElem?_cons_zero]; rfl)
  case q19 => exact fun _ _ _ h => h
  case w19 => rfl
  case y19 => (intro W; go_simp; first | done | with_reducible rfl)
  simp only [Act.put, List.setIfInBounds_toArray, List.set_cons_zero, List.set_cons_succ]
  refine pure_ (i := 20) (oi := ?o20) (v := ?v20) #[true, true, true, true, true, true, true, true, true, true, true, true, true, true, true, true, true, true, true, true, true, false, false, false, false, false, false, false, false, false, false, false, false, false, false] ?h20 rfl (by kernel_rfl) ?q20 (Or.inl ⟨?w20, ?y20⟩) rfl ?r20
  case h20 => (simp only [List.getElem?_toArray, List.getElem?_cons_succ, List.getElem?_cons_zero]; rfl)
  case q20 => exact fun _ _ _ h => h
  case w20 => rfl
  case y20 => (intro W; go_simp; first | done | with_reducible rfl)
  simp only [Act.put, List.setIfInBounds_toArray, List.set_cons_zero, List.set_cons_succ]
  refine pure_ (i := 21) (oi := ?o21) (v := ?v21) #[true, true, true, true, true, true, true, true, true, true, true, true, true, true, true, true, true, true, true, true, true, true, false, false, false, false, false, false, false, false, false, false, false, false, false] ?h21 rfl (by kernel_rfl) ?q21 (Or.inl ⟨?w21, ?y21⟩) rfl ?r21
  case h21 => (simp only [List.getElem?_toArray, List.getElem?_cons_succ, List.getElem?_cons_zero]; rfl)
  case q21 => exact fun _ _ _ h => h
  case w21 => rfl
  case y21 => (intro W; go_simp; first | done | with_reducible rfl)
  simp only [Act.put, List.setIfInBounds_toArray, List.set_cons_zero, List.set_cons_succ]
  refine wpAnyLast_take (i := 22) (oi := ?o22) (v := ?v22) ?h22 (by kernel_rfl) (by kernel_rfl) (by kernel_rfl) (by kernel_rfl) (by kernel_rfl) ?q22 (Or.inl ⟨?w22, ?y22⟩) hHeld ?r22
  case h22 => (simp only [List.getElem?_toArray, List.getElem?_cons_succ, List.getElem?_cons_zero]; rfl)
  case q22 => exact fun _ _ _ h => h
  case w22 => rfl
  case y22 => (intro W hSw; obtain ⟨q1, q2, q3, q4, q5, q6, q7, q8, q9, q10, q11, q12⟩ := HKC.out _ hSw.1; go_simp; first | done | with_reducible rfl)
  simp only [Act.put, List.setIfInBounds_toArray, List.set_cons_zero, List.set_cons_succ]
  refine wpAnyLast_take (i := 23) (oi := ?o23) (v := ?v23) ?h23 (by kernel_rfl) (by kernel_rfl) (by kernel_rfl) (by kernel_rfl) (by kernel_rfl) ?q23 (Or.inl ⟨?w23, ?y23⟩) hHeld ?r23
  case h23 => (simp only [List.getElem?_toArray, List.getElem?_cons_succ, List.getElem?_cons_zero]; rfl)
  case q23 => exact fun _ _ _ h => h
  case w23 => rfl
  case y23 => (intro W hSw; obtain ⟨q1, q2, q3, q4, q5, q6, q7, q8, q9, q10, q11, q12⟩ := HKC.out _ hSw.1; go_simp; first | done | with_reducible rfl)
  simp only [Act.put, List.setIfInBounds_toArray, List.set_cons_zero, List.set_cons_succ]
  refine wpAnyLast_ready (rs := [24]) (by kernel_rfl) (by simp) ?_
  refine AllReadyL.cons (o := ?o24) ?h24 (by simp) (fun K hK => ?s24) ?m24
  case h24 => (simp only [List.getElem?_toArray, List.getElem?_cons_succ, List.getElem?_cons_zero]; rfl)
  case m24 => exact AllReadyL.nil
  go_simp
  refine (same_num nr dr er nr dr er Ar Aw cr cw true (dr.length + 1) W4 (own_reads1 hr0) hcr (reads_under hrw hHeld.2 hAw) hcw (same_num_f nr dr er (by have := HL.out.2.2.2.2.2; omega))).mono ?_
  rintro en W5 ⟨rfl, ho⟩
  replace hKp := hKp.only ho
  replace hp0 := own_only hp0 ho
  replace hr0 := own_only hr0 ho
  refine hK.out _ _ ⟨hHeld.1.trans (Spare.of_only ho), hHeld.2.trans (ho.below (Nat.le_trans hBV hHeld.2.size) (fun _ h => h.elim))⟩ (fun hHeldN => ?_)
  clear hK K hHeld
  have hHeld := hHeldN
  clear hHeldN
  clear ho
  simp only [Act.put, List.setIfInBounds_toArray, List.set_cons_zero, List.set_cons_succ]
  refine pure_ (i := 25) (oi := ?o25) (v := ?v25) #[true, true, true, true, true, true, true, true, true, true, true, true, true, true, true, true, true, true, true, true, true, true, true, true, true, true, false, false, false, false, false, false, false, false, false] ?h25 rfl (by kernel_rfl) ?q25 (Or.inl ⟨?w25, ?y25⟩) rfl ?r25
  case h25 => (simp only [List.getElem?_toArray, List.getElem?_cons_succ, List.getElem?_cons_zero]; rfl)
  case q25 => exact fun _ _ _ h => h
  case w25 => rfl
  case y25 => (intro W; go_simp; first | done | with_reducible rfl)
  simp only [Act.put, List.setIfInBounds_toArray, List.set_cons_zero, List.set_cons_succ]
  refine pure_ (i := 26) (oi := ?o26) (v := ?v26) #[true, true, true, true, true, true, true, true, true, true, true, true, true, true, true, true, true, true, true, true, true, true, true, true, true, true, true, false, false, false, false, false, false, false, false] ?h26 rfl (by kernel_rfl) ?q26 (Or.inl ⟨?w26, ?y26⟩) rfl ?r26
  case h26 => (simp only [List.getElem?_toArray, List.getElem?_cons_succ, List.getElem?_cons_zero]; rfl)
  case q26 => exact fun _ _ _ h => h
  case w26 => rfl
  case y26 => (intro W; go_simp; first | done | with_reducible rfl)
  simp only [Act.put, List.setIfInBounds_toArray, List.set_cons_zero, List.set_cons_succ]
  refine pure_ (i := 27) (oi := ?o27) (v := ?v27) #[true, true, true, true, true, true, true, true, true, true, true, true, true, true, true, true, true, true, true, true, true, true, true, true, true, true, true, true, false, false, false, false, false, false, false] ?h27 rfl (by kernel_rfl) ?q27 (Or.inl ⟨?w27, ?y27⟩) rfl ?r27
  case h27 => (simp only [List.getElem?_toArray, List.getElem?_cons_succ, List.getElem?_cons_zero]; rfl)
  case q27 => exact fun _ _ _ h => h
  case w27 => rfl
  case y27 => (intro W; go_simp; first | done | with_reducible rfl)
  simp only [Act.put, List.setIfInBounds_toArray, List.set_cons_zero, List.set_cons_succ]
  refine pure_ (i := 28) (oi := ?o28) (v := ?v28) #[true, true, true, true, true, true, true, true, true, true, true, true, true, true, true, true, true, true, true, true, true, true, true, true, true, true, true, true, true, false, false, false, false, false, false] ?h28 rfl (by kernel_rfl) ?q28 (Or.inl ⟨?w28, ?y28⟩) rfl ?r28
  case h28 => (simp only [List.getElem?_toArray, List.getElem?_cons_succ, List.getElem?_cons_zero]; rfl)
  case q28 => exact fun _ _ _ h => h
  case w28 => rfl
  case y28 => (intro W; go_simp; first | done | with_reducible rfl)
  simp only [Act.put, List.setIfInBounds_toArray, List.set_cons_zero, List.set_cons_succ]
  refine pure_ (i := 30) (oi := ?o29) (v := ?v29) #[true, true, true, true, true, true, true, true, true, true, true, true, true, true, true, true, true, true, true, true, true, true, true, true, true, true, true, true, true, false, true, false, false, false, false] ?h29 rfl (by kernel_rfl) ?q29 (Or.inl ⟨?w29, ?y29⟩) rfl ?r29
  case h29 => (simp only [List.getElem?_toArray, List.getElem?_cons_succ, List.getElem?_cons_zero]; rfl)
  case q29 => exact fun _ _ _ h => h
  case w29 => rfl
  case y29 => (intro W; go_simp; first | done | with_reducible rfl)
  simp only [Act.put, List.setIfInBounds_toArray, List.set_cons_zero, List.set_cons_succ]
  refine wpAnyLast_take (i := 29) (oi := ?o30) (v := ?v30) ?h30 (by kernel_rfl) (by kernel_rfl) (by kernel_rfl) (by kernel_rfl) (by kernel_rfl) ?q30 (Or.inl ⟨?w30, ?y30⟩) hHeld ?r30
  case h30 => (simp only [List.getElem?_toArray, List.getElem?_cons_succ, List.getElem?_cons_zero]; rfl)
  case q30 => exact fun _ _ _ h => h
  case w30 => rfl
  case y30 => (intro W hSw; obtain ⟨q1, q2, q3, q4, q5, q6, q7, q8, q9, q10, q11, q12⟩ := HKC.out _ hSw.1; go_simp; first | done | with_reducible rfl)
  simp only [Act.put, List.setIfInBounds_toArray, List.set_cons_zero, List.set_cons_succ]
  refine wpAnyLast_take (i := 31) (oi := ?o31) (v := ?v31) ?h31 (by kernel_rfl) (by kernel_rfl) (by kernel_rfl) (by kernel_rfl) (by kernel_rfl) ?q31 (Or.inl ⟨?w31, ?y31⟩) hHeld ?r31
  case h31 => (simp only [List.getElem?_toArray, List.getElem?_cons_succ, List.getElem?_cons_zero]; rfl)
  case q31 => exact fun _ _ _ h => h
  case w31 => rfl
  case y31 => (intro W hSw; obtain ⟨q1, q2, q3, q4, q5, q6, q7, q8, q9, q10, q11, q12⟩ := HKC.out _ hSw.1; go_simp; first | done | with_reducible rfl)
  simp only [Act.put, List.setIfInBounds_toArray, List.set_cons_zero, List.set_cons_succ]
  refine wpAnyLast_ready (rs := [32]) (by kernel_rfl) (by simp) ?_
  refine AllReadyL.cons (o := ?o32) ?h32 (by simp) (fun K hK => ?s32) ?m32
  case h32 => (simp only [List.getElem?_toArray, List.getElem?_cons_succ, List.getElem?_cons_zero]; rfl)
  case m32 => exact AllReadyL.nil
  go_simp
  refine (keepAdd B k ([] ++ [(.slice Ap ds.length cp, ds)]) Ar Aw cr cw dr W5 (Nat.le_trans hBV hHeld.2.size) hKp hr0 (fun i hi b hb2 => by obtain rfl : i = 0 := (by simp at hi; omega); exact hrp b hb2) (reads_under hrw hHeld.2 hAw) hcw (by have := HL.out.2.2.2.2.2; omega) (by simp) (own_reads1 hr0) hcr (fun W hb2 _ => reads_under (reads_under hrw hHeld.2 hAw) hb2 hAw)).mono ?_
  rintro en W6 ⟨rfl, hKn, hb, hs⟩
  clear hKp
  have hKp := hKn
  clear hKn
  replace hp0 := hs.own hp0
  replace hr0 := hs.own hr0
  refine hK.out _ _ ⟨hHeld.1.trans hs, hHeld.2.trans hb⟩ (fun hHeldN => ?_)
  clear hK K hHeld
  have hHeld := hHeldN
  clear hHeldN
  clear hs hb
  simp only [Act.put, List.setIfInBounds_toArray, List.set_cons_zero, List.set_cons_succ]
  refine pure_ (i := 33) (oi := ?o33) (v := ?v33) #[true, true, true, true, true, true, true, true, true, true, true, true, true, true, true, true, true, true, true, true, true, true, true, true, true, true, true, true, true, true, true, true, true, true, false] ?h33 rfl (by kernel_rfl) ?q33 (Or.inl ⟨?w33, ?y33⟩) rfl ?r33
  case h33 => (simp only [List.getElem?_toArray, List.getElem?_cons_succ, List.getElem?_cons_zero]; rfl)
  case q33 => exact fun _ _ _ h => h
  case w33 => rfl
  case y33 => (intro W; go_simp; first | done | with_reducible rfl)
  simp only [Act.put, List.setIfInBounds_toArray, List.set_cons_zero, List.set_cons_succ]
  refine pure_ (i := 34) (oi := ?o34) (v := ?v34) #[true, true, true, true, true, true, true, true, true, true, true, true, true, true, true, true, true, true, true, true, true, true, true, true, true, true, true, true, true, true, true, true, true, true, true] ?h34 rfl (by kernel_rfl) ?q34 (Or.inl ⟨?w34, ?y34⟩) rfl ?r34
  case h34 => (simp only [List.getElem?_toArray, List.getElem?_cons_succ, List.getElem?_cons_zero]; rfl)
  case q34 => exact fun _ _ _ h => h
  case w34 => rfl
  case y34 => (intro W; go_simp; first | done | with_reducible rfl)
  simp only [Act.put, List.setIfInBounds_toArray, List.set_cons_zero, List.set_cons_succ]
  refine done_ (by kernel_rfl) ?_
  have hfin := hHeld.2
  have hKf := hKp
  clear hHeld hKp hp0 hr0
  go_wp2_with fail
  go_ret
  refine ⟨rfl, hOB.trans hfin, _, rfl, ?_, hKf⟩
  intro i hi
  have hi2 : i = 0 ∨ i = 1 := by simp at hi; omega
  rcases hi2 with rfl | rfl
  · exact HL.out.2.1
  · exact HL.out.2.2.2.2.2
end Go.Proofs.YtflhdplfkpdejaaGreatFmt
