/- Part 7 of the walk: FltD RndH RndI WTab WFour WQPut WApart WArr WZeros WFoot WKept WShare WN WFootNe WAt WEqStruct WRepsOne WInv WInvWords WGuard WNEv WMore FBase FBitsOf FBitsValid. -/
import Derived.Test.YtlfmgdpbjapdjaaGreatFmtBesafterPt05
import Derived.Test.YtlfmgdpbjapdjaaGreatFmtBesafterPt06
import Derived.Test.YtlfmgdpbjapdjaaGreatFmtBesafterRndO
import Derived.Test.YtlfmgdpbjapdjaaGreatFmtBesafterPt03
import Derived.Test.YtlfmgdpbjapdjaaGreatFmtBesafterPt01
import Derived.Laws.StructEq
import Derived.Test.YtlfmgdpbjapdjaaGreatFmtBesafterProg
import Derived.Below
import Derived.Deep.Draws
import Derived.Deep.AppendLies
import Derived.Maps.AppendAt
import Derived.OwnWalk
import Derived.Laws.BytesArg
import Derived.Laws.MakeOwn
import Derived.Laws.OwnMore
import Derived.Deep.OwnRows
import Derived.Tactics
import Derived.Lib.ConvBytes
import Derived.Laws.Slices
import Derived.WalkKit
import Derived.KernelRfl
import Derived.RowKit3
import Derived.Deep.LoopGhost
import Derived.Deep.QuietTactic
import Derived.BigQuiet
import Derived.WideLaws
import Derived.Deep.DeepCutAuto
import Derived.Deep.CutBlock
import Derived.Deep.RegionHeld3
import Derived.Laws.Rows
import Derived.Lib.AppendStr
import Derived.ArgAppend
import Derived.Laws.IdiomCopy
import Derived.OrdersHeld
import Derived.Laws.BitsLemmas
import Derived.RowKit
namespace Go.Proofs.YtlfmgdpbjapdjaaGreatFmtBesafter
open Go.RowKit Go.Proofs.YtlfmgdpbjapdjaaGreatFmtBesafterW.PrintWords Go.Proofs.YtlfmgdpbjapdjaaGreatFmtBesafterW.PrintLast
theorem flt_info : ∃ j, Tryz.prog.info? 119 = some j ∧ j.size ≠ 0 := by
  have h : (Tryz.prog.info? 119).map (fun i => i.size) = some 7 := by kernel_rfl
  obtain ⟨j, hj, h2⟩ := Option.map_eq_some_iff.1 h
  exact ⟨j, hj, by rw [h2]; decide⟩
theorem flt_other (a b : Nat) (ca cb : Array Value) (w : World) (hne : a ≠ b) (ha : w.heap[a]? = some (.cells ca 119 (0, 0))) (hb : w.heap[b]? = some (.cells cb 119 (0, 0))) :
    (binOp .neq 113 (.pointer (some ⟨a, 0, none⟩)) (.pointer (some ⟨b, 0, none⟩))).run Tryz.prog w = .ok (.bool true) w := by
  obtain ⟨j, hj, hs⟩ := flt_info
  have hn : (⟨a, 0, none⟩ : Addr) ≠ ⟨b, 0, none⟩ := fun h => hne (congrArg Addr.block h)
  have h : ∀ d : Nat, (Op.equalIn (d + 1) 113 (.pointer (some ⟨a, 0, none⟩)) (.pointer (some ⟨b, 0, none⟩))).run Tryz.prog w = .ok false w := fun d => by
    simp [Op.equalIn, run_underlying Tryz.underlying113, sizeOf, typeInfo, hj, hs, run_sameAddr_other w hn ha hb]
  simp only [binOp]
  simp [Op.equal, Op.maxDepth, h 9999]
theorem flt_same (a : Nat) (w : World) :
    (binOp .neq 113 (.pointer (some ⟨a, 0, none⟩)) (.pointer (some ⟨a, 0, none⟩))).run Tryz.prog w = .ok (.bool false) w := by
  obtain ⟨j, hj, hs⟩ := flt_info
  exact Lib.run_neq_ptr_same w _ Tryz.underlying113 hj
set_option maxRecDepth 100000 in
set_option maxHeartbeats 4000000 in
theorem copy_self (f : Nat) (w : World) : Calls Tryz.prog 97 #[.pointer (some ⟨f, 0, none⟩), .pointer (some ⟨f, 0, none⟩)] w fun en w' => en = .returned (.pointer (some ⟨f, 0, none⟩)) ∧ w' = w := by
  have hs := flt_same f w
  go_enter Tryz.func97, Tryz.ntmps97
  go_wp2_with fail
  go_ret
  exact ⟨rfl, rfl⟩
set_option maxRecDepth 100000 in
set_option maxHeartbeats 4000000 in
theorem setMantExp_lit (f b c : Nat) (ys : List Int) (w : World) (hf : w.heap[f]? = some (.cells (fl 65 0 1 false (.slice (some ⟨b, 0, none⟩) 2 c) 65) 119 (0, 0))) (hb : Blk w b ys) (hn : 2 ≤ ys.length) (h0 : ys.getD 0 0 = 9223372036854775808) :
    Calls Tryz.prog 74 #[.pointer (some ⟨f, 0, none⟩), .pointer (some ⟨f, 0, none⟩), .int .i64 (-66)] w fun en w' => en = .returned (.pointer (some ⟨f, 0, none⟩)) ∧ w'.heap[f]? = some (.cells (fl 65 0 1 false (.slice (some ⟨b, 0, none⟩) 2 c) (-1)) 119 (0, 0)) ∧ Blk w' b (ys.set 0 9223372036854775808) ∧ Only w w' (fun k => k = f ∨ k = b) := by
  have c3 : w.cell? ⟨f, 3, none⟩ = some (.int .u8 1) := blk_cell hf 3
  have c6 : w.cell? ⟨f, 6, none⟩ = some (.int .i32 65) := blk_cell hf 6
  have HC := Lib.hid (copy_self f w)
  have HS := Lib.hid (setExp_a f b c ys 0 1 65 (-1) w hf hb hn h0 (by decide) (by decide))
  clear hf hb
  go_enter Tryz.func74, Tryz.ntmps74
  go_wp2_with fail
  refine HC.out.mono ?_
  rintro en w' ⟨rfl, hw⟩
  rw [hw]
  clear hw w'
  go_wp2_with fail
  refine HS.out.mono ?_
  rintro en w' ⟨rfl, h1, h2, h3⟩
  go_wp2_with fail
  go_ret
  exact ⟨rfl, h1, h2, h3⟩
set_option linter.unusedVariables false in
set_option linter.unusedSimpArgs false in
set_option maxRecDepth 100000 in
set_option maxHeartbeats 4000000 in
theorem set_lit (f g bx cx : Nat) (xs : List Int) (w : World) (hf : w.heap[f]? = some (.cells (fl 53 0 0 false (.slice none 0 0) 0) 119 (0, 0))) (hx : w.heap[g]? = some (.cells (fl 65 0 1 false (.slice (some ⟨bx, 0, none⟩) 2 cx) (-1)) 119 (0, 0))) (hbx : Blk w bx xs) (hxl : 2 ≤ xs.length) (hx0 : xs.getD 0 0 = 9223372036854775808) (hx1 : xs.getD 1 0 = 12297829382473034410) (hfx : f ≠ g) :
    Calls Tryz.prog 99 #[.pointer (some ⟨f, 0, none⟩), .pointer (some ⟨g, 0, none⟩)] w fun en w' => en = .returned (.pointer (some ⟨f, 0, none⟩)) ∧ ∃ b c zs, w'.heap[f]? = some (.cells (fl 53 (-1) 1 false (.slice (some ⟨b, 0, none⟩) 1 c) (-1)) 119 (0, 0)) ∧ Blk w' b zs ∧ 1 ≤ zs.length ∧ zs.getD 0 0 = 12297829382473033728 ∧ Only w w' (fun k => k = f) ∧ w.heap.size ≤ b := by
  have c2 : w.cell? ⟨f, 2, none⟩ = some (.int .i8 0) := blk_cell hf 2
  have c3 : w.cell? ⟨f, 3, none⟩ = some (.int .u8 0) := blk_cell hf 3
  have c4 : w.cell? ⟨f, 4, none⟩ = some (.bool false) := blk_cell hf 4
  have c6 : w.cell? ⟨f, 6, none⟩ = some (.int .i32 0) := blk_cell hf 6
  have f2 := blk_frozen hf 2
  have f3 := blk_frozen hf 3
  have f4 := blk_frozen hf 4
  have f6 := blk_frozen hf 6
  have x3 : w.cell? ⟨g, 3, none⟩ = some (.int .u8 1) := blk_cell hx 3
  have x4 : w.cell? ⟨g, 4, none⟩ = some (.bool false) := blk_cell hx 4
  have x6 : w.cell? ⟨g, 6, none⟩ = some (.int .i32 (-1)) := blk_cell hx 6
  have hfb : f ≠ bx := blk_ne hf hbx (by decide)
  have hpn := flt_other f g _ _ (w.setCell ⟨f, 2, none⟩ (.int .i8 0)) hfx (blk_set hf 2 (.int .i8 0)) (blk_far hx (p := ⟨f, 2, none⟩) (Ne.symm hfx) _)
  obtain ⟨w1, hw1, hf1, ho1⟩ : ∃ w1, w1 = (((w.setCell ⟨f, 2, none⟩ (.int .i8 0)).setCell ⟨f, 3, none⟩ (.int .u8 1)).setCell ⟨f, 4, none⟩ (.bool false)).setCell ⟨f, 6, none⟩ (.int .i32 (-1)) ∧ w1.heap[f]? = some (.cells (fl 53 0 1 false (.slice none 0 0) (-1)) 119 (0, 0)) ∧ Only w w1 (fun k => k = f) :=
    ⟨_, rfl, by simpa [fl] using blk_set (blk_set (blk_set (blk_set hf 2 (.int .i8 0)) 3 (.int .u8 1)) 4 (.bool false)) 6 (.int .i32 (-1)), ((((Only.refl w (fun k => k = f)).set (p := ⟨f, 2, none⟩) (.inr rfl) (.int .i8 0)).set (p := ⟨f, 3, none⟩) (.inr rfl) (.int .u8 1)).set (p := ⟨f, 4, none⟩) (.inr rfl) (.bool false)).set (p := ⟨f, 6, none⟩) (.inr rfl) (.int .i32 (-1))⟩
  have HW := Lib.hid hw1
  have hx1w := (ho1.kept _ (blk_lt hx) (Ne.symm hfx)).trans hx
  have hbx1 := ho1.blk hbx (Ne.symm hfb)
  have HF1 := Lib.hid (And.intro hf1 (And.intro ho1 (And.intro hx1w hbx1)))
  clear hf hx hbx hw1 hf1 ho1 hx1w hbx1
  go_enter Tryz.func99, Tryz.ntmps99
  go_upto_region 8 with (fail)
  rw [← HW.out]
  obtain ⟨hf1, ho1, hx1w, hbx1⟩ := HF1.out
  clear HF1 HW c2 c3 c4 c6 f2 f3 f4 f6 x3 x4 x6
  have HK : Hid (∀ W, Only w1 W (fun _ => False) → W.cell? ⟨f, 5, none⟩ = some (.slice none 0 0) ∧ W.cell? ⟨g, 5, none⟩ = some (.slice (some ⟨bx, 0, none⟩) 2 cx)) := Lib.hid (fun W hW => by
    have a := (hW.kept _ (blk_lt hf1) (fun h => h)).trans hf1
    have b := (hW.kept _ (blk_lt hx1w) (fun h => h)).trans hx1w
    exact ⟨blk_cell a 5, blk_cell b 5⟩)
  have hfd := blk_drew hf1
  have hxd : Blk w1.drew bx xs := hbx1
  have HO1 := Lib.hid ho1
  clear hf1 hbx1 ho1
  refine start_ (S := (fun W => Only w1 W (fun _ => False))) (ds := [12]) #[false, false, false, false, false, false, false, false, false, false, false, false, false] (by kernel_rfl) rfl rfl ?_ (fun hHeld => ?_)
  · exact (Only.refl w1 _).drew
  generalize w1.drew = W1 at *
  refine pure_ (i := 0) (oi := ?o0) (v := ?v0) #[true, false, false, false, false, false, false, false, false, false, false, false, false] ?h0 rfl (by kernel_rfl) ?q0 (Or.inl ⟨?w0, ?y0⟩) rfl ?r0
  case h0 => (simp only [ga, gb, gc]; rfl)
  case q0 => exact fun _ _ _ h => h
  case w0 => rfl
  case y0 => (intro W; go_simp; first | done | with_reducible rfl)
  simp only [Act.put, zd, ze, zf]
  refine pure_ (i := 1) (oi := ?o1) (v := ?v1) #[true, true, false, false, false, false, false, false, false, false, false, false, false] ?h1 rfl (by kernel_rfl) ?q1 (Or.inl ⟨?w1, ?y1⟩) rfl ?r1
  case h1 => (simp only [ga, gb, gc]; rfl)
  case q1 => exact fun _ _ _ h => h
  case w1 => rfl
  case y1 => (intro W; go_simp; first | done | with_reducible rfl)
  simp only [Act.put, zd, ze, zf]
  refine pure_ (i := 2) (oi := ?o2) (v := ?v2) #[true, true, true, false, false, false, false, false, false, false, false, false, false] ?h2 rfl (by kernel_rfl) ?q2 (Or.inl ⟨?w2, ?y2⟩) rfl ?r2
  case h2 => (simp only [ga, gb, gc]; rfl)
  case q2 => exact fun _ _ _ h => h
  case w2 => rfl
  case y2 => (intro W; go_simp; first | done | with_reducible rfl)
  simp only [Act.put, zd, ze, zf]
  refine pure_ (i := 3) (oi := ?o3) (v := ?v3) #[true, true, true, true, false, false, false, false, false, false, false, false, false] ?h3 rfl (by kernel_rfl) ?q3 (Or.inl ⟨?w3, ?y3⟩) rfl ?r3
  case h3 => (simp only [ga, gb, gc]; rfl)
  case q3 => exact fun _ _ _ h => h
  case w3 => rfl
  case y3 => (intro W; go_simp; first | done | with_reducible rfl)
  simp only [Act.put, zd, ze, zf]
  refine pure_ (i := 5) (oi := ?o4) (v := ?v4) #[true, true, true, true, false, true, false, false, false, false, false, false, false] ?h4 rfl (by kernel_rfl) ?q4 (Or.inl ⟨?w4, ?y4⟩) rfl ?r4
  case h4 => (simp only [ga, gb, gc]; rfl)
  case q4 => exact fun _ _ _ h => h
  case w4 => rfl
  case y4 => (intro W; go_simp; first | done | with_reducible rfl)
  simp only [Act.put, zd, ze, zf]
  refine pure_ (i := 6) (oi := ?o5) (v := ?v5) #[true, true, true, true, false, true, true, false, false, false, false, false, false] ?h5 rfl (by kernel_rfl) ?q5 (Or.inl ⟨?w5, ?y5⟩) rfl ?r5
  case h5 => (simp only [ga, gb, gc]; rfl)
  case q5 => exact fun _ _ _ h => h
  case w5 => rfl
  case y5 => (intro W; go_simp; first | done | with_reducible rfl)
  simp only [Act.put, zd, ze, zf]
  refine pure_ (i := 7) (oi := ?o6) (v := ?v6) #[true, true, true, true, false, true, true, true, false, false, false, false, false] ?h6 rfl (by kernel_rfl) ?q6 (Or.inl ⟨?w6, ?y6⟩) rfl ?r6
  case h6 => (simp only [ga, gb, gc]; rfl)
  case q6 => exact fun _ _ _ h => h
  case w6 => rfl
  case y6 => (intro W; go_simp; first | done | with_reducible rfl)
  simp only [Act.put, zd, ze, zf]
  refine wpAnyLast_take (i := 4) (oi := ?o7) (v := ?v7) ?h7 (by kernel_rfl) (by kernel_rfl) (by kernel_rfl) (by kernel_rfl) (by kernel_rfl) ?q7 (Or.inl ⟨?w7, ?y7⟩) hHeld ?r7
  case h7 => (simp only [ga, gb, gc]; rfl)
  case q7 => exact fun _ _ _ h => h
  case w7 => rfl
  case y7 => (intro W hSw; obtain ⟨q5, q6⟩ := HK.out _ hSw; go_simp; first | done | with_reducible rfl)
  simp only [Act.put, zd, ze, zf]
  refine wpAnyLast_take (i := 8) (oi := ?o8) (v := ?v8) ?h8 (by kernel_rfl) (by kernel_rfl) (by kernel_rfl) (by kernel_rfl) (by kernel_rfl) ?q8 (Or.inl ⟨?w8, ?y8⟩) hHeld ?r8
  case h8 => (simp only [ga, gb, gc]; rfl)
  case q8 => exact fun _ _ _ h => h
  case w8 => rfl
  case y8 => (intro W hSw; obtain ⟨q5, q6⟩ := HK.out _ hSw; go_simp; first | done | with_reducible rfl)
  simp only [Act.put, zd, ze, zf]
  refine wpAnyLast_ready (rs := [9]) (by kernel_rfl) (by simp) ?_
  refine AllReadyL.cons (o := ?o9) ?h9 (by simp) (fun K hK => ?s9) ?m9
  case h9 => (simp only [ga, gb, gc]; rfl)
  case m9 => exact AllReadyL.nil
  go_simp
  go_at_call 92
  refine (set_any (.slice none 0 0) none bx 2 cx xs W1 .nil hxd (by decide) hxl (by decide)).mono ?_
  rintro en W2 ⟨b, zs, rfl, hz, hzl, hzm, ho, hob, hzi⟩
  replace ho : Only W1 W2 (fun _ => False) := ho.mono (fun _ _ h => by cases h)
  replace hob : W1.heap.size ≤ b := by rcases hob with h | h; (cases h); (exact h)
  have hfN := (ho.kept _ (blk_lt hfd) (fun h => h)).trans hfd
  have hsz := hHeld.base.size
  refine hK.out _ _ (hHeld.trans ho) (fun hHeldN => ?_)
  clear hK K hHeld
  have hHeld := hHeldN
  clear hHeldN
  simp only [Act.put, zd, ze, zf]
  refine pure_ (i := 10) (oi := ?o10) (v := ?v10) #[true, true, true, true, true, true, true, true, true, true, true, false, false] ?h10 rfl (by kernel_rfl) ?q10 (Or.inl ⟨?w10, ?y10⟩) rfl ?r10
  case h10 => (simp only [ga, gb, gc]; rfl)
  case q10 => exact fun _ _ _ h => h
  case w10 => rfl
  case y10 => (intro W; go_simp; first | done | with_reducible rfl)
  simp only [Act.put, zd, ze, zf]
  refine pure_ (i := 11) (oi := ?o11) (v := ?v11) #[true, true, true, true, true, true, true, true, true, true, true, true, false] ?h11 rfl (by kernel_rfl) ?q11 (Or.inl ⟨?w11, ?y11⟩) rfl ?r11
  case h11 => (simp only [ga, gb, gc]; rfl)
  case q11 => exact fun _ _ _ h => h
  case w11 => rfl
  case y11 => (intro W; go_simp; first | done | with_reducible rfl)
  simp only [Act.put, zd, ze, zf]
  refine wpAnyLast_ready (rs := [12]) (by kernel_rfl) (by simp) ?_
  refine AllReadyL.cons_last (o := ?o12) ?h12 (by simp) (fun K hK => ?s12) ?m12
  case h12 => (simp only [ga, gb, gc]; rfl)
  case m12 => exact AllReadyL.nil
  have r5 : W2.cell? ⟨f, 5, none⟩ = some (.slice none 0 0) := blk_cell hfN 5
  have fr5 := blk_frozen hfN 5
  go_simp
  refine hK.out _ _ ?_
  clear hK K r5 fr5
  simp only [Act.put, zd, ze, zf]
  refine done_ (by kernel_rfl) ?_
  obtain ⟨w2, hw2, hf2, hb2, ho2⟩ := after_set (f := f) hfN hz hHeld
  rw [← hw2]
  have hbz : w1.heap.size ≤ b := Nat.le_trans hsz hob
  clear hw2 hHeld hfN hz hfd hxd ho hob hsz HK
  have z0 : zs.getD 0 0 = 9223372036854775808 := by rw [hzi 0 (by omega)]; exact hx0
  have z1 : zs.getD 1 0 = 12297829382473034410 := by rw [hzi 1 (by omega)]; exact hx1
  obtain ⟨c, hc⟩ : ∃ c, zs.length = c + 2 := ⟨zs.length - 2, by omega⟩
  rw [hc] at hf2
  have hn2 := fun n => (Only.refl w2 (fun _ => False)).drewN n
  have HR := Lib.hid (fun n => round_b f b c zs 0 (-1) (w2.drewN n) (((hn2 n).kept _ (blk_lt hf2) (fun h => h)).trans hf2) ((hn2 n).blk hb2 (fun h => h)) hzl z0 z1)
  have HN := Lib.hid hn2
  clear hn2
  have p0 : w2.cell? ⟨f, 0, none⟩ = some (.int .u32 53) := blk_cell hf2 0
  have hx9 := (ho2.kept _ (blk_lt hx1w) (Ne.symm hfx)).trans hx1w
  have q0 : w2.cell? ⟨g, 0, none⟩ = some (.int .u32 65) := blk_cell hx9 0
  clear hzi hx0 hx1 z0 z1 hc hf2 hb2 hx9 hx1w
  go_wp2_with fail
  go_quiet (fail)
  go_wp2_with fail
  refine (HR.out nq).mono ?_
  rintro en w3 ⟨rfl, hf3, ⟨ys, hb3, hl3, y0⟩, ho3⟩
  go_wp2_with fail
  go_ret
  have ho23 := (ho2.step (HN.out nq) (fun _ _ h => h.elim)).step ho3 (fun i hi h => by rcases h with h | h; (exact h); (subst h; exact absurd hi (Nat.not_lt.2 hbz)))
  exact ⟨rfl, b, c + 2, ys, hf3, hb3, by omega, y0, HO1.out.trans ho23, Nat.le_trans HO1.out.base.size hbz⟩
set_option maxRecDepth 100000 in
set_option maxHeartbeats 4000000 in
theorem setInt_zero (f gx : Nat) (ox : Option Nat) (w : World) (hf : w.heap[f]? = some (.cells (fl 0 0 0 false (.slice none 0 0) 0) 119 (0, 0))) (hx : IsInt w gx ox 0) :
    Calls Tryz.prog 73 #[.pointer (some ⟨f, 0, none⟩), .pointer (some ⟨gx, 0, none⟩)] w fun en w' => en = .returned (.pointer (some ⟨f, 0, none⟩)) ∧ w'.heap[f]? = some (.cells (fl 64 0 0 false (.slice none 0 0) 0) 119 (0, 0)) ∧ Only w w' (fun k => k = f) := by
  obtain ⟨vx, hgx, hnx⟩ := id hx
  rcases hnx.cases_ with ⟨h0, A, c, rfl⟩ | ⟨hpos, _⟩
  · have c0 : w.cell? ⟨f, 0, none⟩ = some (.int .u32 0) := blk_cell hf 0
    have c2 : w.cell? ⟨f, 2, none⟩ = some (.int .i8 0) := blk_cell hf 2
    have c3 : w.cell? ⟨f, 3, none⟩ = some (.int .u8 0) := blk_cell hf 3
    have c4 : w.cell? ⟨f, 4, none⟩ = some (.bool false) := blk_cell hf 4
    have f0 := blk_frozen hf 0
    have f2 := blk_frozen hf 2
    have f3 := blk_frozen hf 3
    have f4 := blk_frozen hf 4
    have x0 : w.cell? ⟨gx, 0, none⟩ = some (.bool false) := blk_cell hgx 0
    have x1 : w.cell? ⟨gx, 1, none⟩ = some (.slice A 0 c) := blk_cell hgx 1
    have hfx : f ≠ gx := blk_ne hf hgx (by decide)
    have HB := Lib.hid (bitLen_int gx ox 0 w hx (Fits.of (k := 1) (by decide) (by decide)))
    have HS : Hid (((((w.setCell ⟨f, 0, none⟩ (.int .u32 64)).setCell ⟨f, 2, none⟩ (.int .i8 0)).setCell ⟨f, 4, none⟩ (.bool false)).setCell ⟨f, 3, none⟩ (.int .u8 0)).heap[f]? = some (.cells (fl 64 0 0 false (.slice none 0 0) 0) 119 (0, 0)) ∧ Only w ((((w.setCell ⟨f, 0, none⟩ (.int .u32 64)).setCell ⟨f, 2, none⟩ (.int .i8 0)).setCell ⟨f, 4, none⟩ (.bool false)).setCell ⟨f, 3, none⟩ (.int .u8 0)) (fun k => k = f)) := Lib.hid ⟨by simpa [fl] using blk_set (blk_set (blk_set (blk_set hf 0 (.int .u32 64)) 2 (.int .i8 0)) 4 (.bool false)) 3 (.int .u8 0), ((((Only.refl w (fun k => k = f)).set (p := ⟨f, 0, none⟩) (.inr rfl) (.int .u32 64)).set (p := ⟨f, 2, none⟩) (.inr rfl) (.int .i8 0)).set (p := ⟨f, 4, none⟩) (.inr rfl) (.bool false)).set (p := ⟨f, 3, none⟩) (.inr rfl) (.int .u8 0)⟩
    clear hf hx hgx hnx
    go_enter Tryz.func73, Tryz.ntmps73
    go_wp2_with fail
    refine HB.out.mono ?_
    rintro e w' ⟨⟨k, rfl, hk, hk2⟩, hww⟩
    rw [hww]
    clear hww w'
    obtain rfl : k = 0 := hk.unique BLen.zero
    have hmx : max (0 : Int) 64 = 64 := by decide
    go_wp2_with fail
    go_ret
    exact ⟨rfl, HS.out⟩
  · exact absurd hpos (by decide)
set_option maxRecDepth 100000 in
set_option maxHeartbeats 4000000 in
theorem setMantExp_zero (f : Nat) (p a e x : Int) (n : Bool) (v : Value) (w : World) (hf : w.heap[f]? = some (.cells (fl p a 0 n v e) 119 (0, 0))) :
    Calls Tryz.prog 74 #[.pointer (some ⟨f, 0, none⟩), .pointer (some ⟨f, 0, none⟩), .int .i64 x] w fun en w' => en = .returned (.pointer (some ⟨f, 0, none⟩)) ∧ w' = w := by
  have c3 : w.cell? ⟨f, 3, none⟩ = some (.int .u8 0) := blk_cell hf 3
  have HC := Lib.hid (copy_self f w)
  clear hf
  go_enter Tryz.func74, Tryz.ntmps74
  go_wp2_with fail
  refine HC.out.mono ?_
  rintro en w' ⟨rfl, hw⟩
  rw [hw]
  clear hw w'
  go_wp2_with fail
  go_ret
  exact ⟨rfl, rfl⟩
set_option maxRecDepth 100000 in
set_option maxHeartbeats 4000000 in
theorem setMantExp_any (f b c m p : Nat) (ys : List Int) (a e x : Int) (n : Bool) (w : World) (hf : w.heap[f]? = some (.cells (fl p a 1 n (.slice (some ⟨b, 0, none⟩) m c) e) 119 (0, 0))) (hb : Blk w b ys) (hm : Mant ys m c) (hp : Whole ys m p) (hx0 : -2147483648 ≤ e + x) (hx1 : e + x ≤ 2147483647) (he0 : -2147483648 ≤ e) (he1 : e ≤ 2147483647) :
    Calls Tryz.prog 74 #[.pointer (some ⟨f, 0, none⟩), .pointer (some ⟨f, 0, none⟩), .int .i64 x] w fun en w' => en = .returned (.pointer (some ⟨f, 0, none⟩)) ∧ w'.heap[f]? = some (.cells (fl p 0 1 n (.slice (some ⟨b, 0, none⟩) m c) (e + x)) 119 (0, 0)) ∧ Blk w' b ys ∧ Only w w' (fun k => k = f ∨ k = b) := by
  have c3 : w.cell? ⟨f, 3, none⟩ = some (.int .u8 1) := blk_cell hf 3
  have c6 : w.cell? ⟨f, 6, none⟩ = some (.int .i32 e) := blk_cell hf 6
  have HC := Lib.hid (copy_self f w)
  have HS := Lib.hid (setExp_whole f b c m p ys a 1 e (e + x) n w hf hb hm hp hx0 hx1)
  have h1 : IntKind.i64.wrap e = e := by rw [IntKind.wrap_i64]; omega
  have h2 : IntKind.i64.wrap (e + x) = e + x := by rw [IntKind.wrap_i64]; omega
  clear hf hb hm hp
  go_enter Tryz.func74, Tryz.ntmps74
  go_wp2_with fail
  refine HC.out.mono ?_
  rintro en w' ⟨rfl, hw⟩
  rw [hw]
  clear hw w'
  go_wp2_with fail
  refine HS.out.mono ?_
  rintro en w' ⟨rfl, h1, h2, h3⟩
  go_wp2_with fail
  go_ret
  exact ⟨rfl, h1, h2, h3⟩
def RoundRel (p k : Nat) (T e rb sb : Int) (n : Bool) (a x e' : Int) : Prop := a = (if rb = 0 ∧ sb = 0 then 0 else if Inc rb sb (T / 2 ^ k) = n then -1 else 1) ∧
  ((Inc rb sb (T / 2 ^ k) = false ∧ x = T / 2 ^ k * 2 ^ k ∧ e' = e) ∨ (Inc rb sb (T / 2 ^ k) = true ∧ T / 2 ^ k + 1 < 2 ^ p ∧ x = (T / 2 ^ k + 1) * 2 ^ k ∧ e' = e) ∨ (Inc rb sb (T / 2 ^ k) = true ∧ T / 2 ^ k + 1 = 2 ^ p ∧ x = 9223372036854775808 ∧ e' = e + 1))
def GotSet (w : World) (f p k : Nat) (T e rb sb : Int) (n : Bool) (en : Ending) (w' : World) : Prop := en = .returned (.pointer (some ⟨f, 0, none⟩)) ∧ (∃ b c a x e' zs, w'.heap[f]? = some (.cells (fl p a 1 n (.slice (some ⟨b, 0, none⟩) 1 c) e') 119 (0, 0)) ∧ Blk w' b zs ∧ 1 ≤ zs.length ∧ zs.getD 0 0 = x ∧ w.heap.size ≤ b ∧ RoundRel p k T e rb sb n a x e') ∧ Only w w' (fun k => k = f)
theorem round_gen (f b c m p k : Nat) (ys : List Int) (a e T rb sb : Int) (n : Bool) (w : World) (hf : w.heap[f]? = some (.cells (fl p a 1 n (.slice (some ⟨b, 0, none⟩) m c) e) 119 (0, 0))) (hb : Blk w b ys) (hm : Mant ys m c) (hk : k = 64 - p) (hp0 : 0 < p) (hp1 : p < 64) (hT : ys.getD (m - 1) 0 = T)
    (hrb : T / 2 ^ (k - 1) % 2 = rb) (hst : (Stk (fun i => ys.getD i 0) (m - 1) (k - 1) ∧ sb = 0) ∨ (¬ Stk (fun i => ys.getD i 0) (m - 1) (k - 1) ∧ sb = 1)) (he : e < 2147483647) (he0 : -2147483648 ≤ e) :
    Calls Tryz.prog 124 #[.pointer (some ⟨f, 0, none⟩), .int .u64 0] w (Rounded w f b p k T e rb sb n c ys.length) := by
  obtain ⟨g0, g1, h2, h3, h4, h5, h6⟩ := hm
  by_cases h1 : m = 1
  · subst h1
    exact round_one f b c p k ys a e T rb sb n w hf hb h2 h3 h4 h5 hk hp0 hp1 hT (by rw [← hT]; exact h6) hrb hst he he0
  · obtain ⟨j, rfl⟩ : ∃ j, m = j + 1 := ⟨m - 1, by omega⟩
    rw [Nat.add_sub_cancel] at hT hst h6
    exact round_many f b c j p k ys a e T rb sb n w hf hb h2 h3 (by omega) (by omega) h4 h5 hk hp0 hp1 hT (by rw [← hT]; exact h6) hrb hst he he0
set_option linter.unusedVariables false in
set_option linter.unusedSimpArgs false in
set_option maxRecDepth 100000 in
set_option maxHeartbeats 4000000 in
theorem set_any_flt (f g bx cx m p k P : Nat) (xs : List Int) (e T rb sb : Int) (n : Bool) (w : World) (hf : w.heap[f]? = some (.cells (fl p 0 0 false (.slice none 0 0) 0) 119 (0, 0))) (hx : w.heap[g]? = some (.cells (fl P 0 1 n (.slice (some ⟨bx, 0, none⟩) m cx) e) 119 (0, 0))) (hbx : Blk w bx xs) (hmx : Mant xs m cx) (hfx : f ≠ g) (hk : k = 64 - p) (hp0 : 0 < p) (hp1 : p < 64) (hP : 64 ≤ P) (hP2 : P < 4294967296) (hT : xs.getD (m - 1) 0 = T)
    (hrb : T / 2 ^ (k - 1) % 2 = rb) (hst : (Stk (fun i => xs.getD i 0) (m - 1) (k - 1) ∧ sb = 0) ∨ (¬ Stk (fun i => xs.getD i 0) (m - 1) (k - 1) ∧ sb = 1)) (he : e < 2147483647) (he0 : -2147483648 ≤ e) :
    Calls Tryz.prog 99 #[.pointer (some ⟨f, 0, none⟩), .pointer (some ⟨g, 0, none⟩)] w (GotSet w f p k T e rb sb n) := by
  have c2 : w.cell? ⟨f, 2, none⟩ = some (.int .i8 0) := blk_cell hf 2
  have c3 : w.cell? ⟨f, 3, none⟩ = some (.int .u8 0) := blk_cell hf 3
  have c4 : w.cell? ⟨f, 4, none⟩ = some (.bool false) := blk_cell hf 4
  have c6 : w.cell? ⟨f, 6, none⟩ = some (.int .i32 0) := blk_cell hf 6
  have f2 := blk_frozen hf 2
  have f3 := blk_frozen hf 3
  have f4 := blk_frozen hf 4
  have f6 := blk_frozen hf 6
  have x3 : w.cell? ⟨g, 3, none⟩ = some (.int .u8 1) := blk_cell hx 3
  have x4 : w.cell? ⟨g, 4, none⟩ = some (.bool n) := blk_cell hx 4
  have x6 : w.cell? ⟨g, 6, none⟩ = some (.int .i32 e) := blk_cell hx 6
  have hfb : f ≠ bx := blk_ne hf hbx (by decide)
  have HT := Lib.hid (And.intro hT (And.intro hrb hst))
  have hpn := flt_other f g _ _ (w.setCell ⟨f, 2, none⟩ (.int .i8 0)) hfx (blk_set hf 2 (.int .i8 0)) (blk_far hx (p := ⟨f, 2, none⟩) (Ne.symm hfx) _)
  obtain ⟨w1, hw1, hf1, ho1⟩ : ∃ w1, w1 = (((w.setCell ⟨f, 2, none⟩ (.int .i8 0)).setCell ⟨f, 3, none⟩ (.int .u8 1)).setCell ⟨f, 4, none⟩ (.bool n)).setCell ⟨f, 6, none⟩ (.int .i32 e) ∧ w1.heap[f]? = some (.cells (fl p 0 1 n (.slice none 0 0) e) 119 (0, 0)) ∧ Only w w1 (fun k => k = f) :=
    ⟨_, rfl, by simpa [fl] using blk_set (blk_set (blk_set (blk_set hf 2 (.int .i8 0)) 3 (.int .u8 1)) 4 (.bool n)) 6 (.int .i32 e), ((((Only.refl w (fun k => k = f)).set (p := ⟨f, 2, none⟩) (.inr rfl) (.int .i8 0)).set (p := ⟨f, 3, none⟩) (.inr rfl) (.int .u8 1)).set (p := ⟨f, 4, none⟩) (.inr rfl) (.bool n)).set (p := ⟨f, 6, none⟩) (.inr rfl) (.int .i32 e)⟩
  have HW := Lib.hid hw1
  have hx1w := (ho1.kept _ (blk_lt hx) (Ne.symm hfx)).trans hx
  have hbx1 := ho1.blk hbx (Ne.symm hfb)
  have HF1 := Lib.hid (And.intro hf1 (And.intro ho1 (And.intro hx1w hbx1)))
  clear hf hx hbx hw1 hf1 ho1 hx1w hbx1 hT hrb hst
  go_enter Tryz.func99, Tryz.ntmps99
  go_upto_region 8 with (fail)
  rw [← HW.out]
  obtain ⟨hf1, ho1, hx1w, hbx1⟩ := HF1.out
  clear HF1 HW c2 c3 c4 c6 f2 f3 f4 f6 x3 x4 x6
  have HK : Hid (∀ W, Only w1 W (fun _ => False) → W.cell? ⟨f, 5, none⟩ = some (.slice none 0 0) ∧ W.cell? ⟨g, 5, none⟩ = some (.slice (some ⟨bx, 0, none⟩) m cx)) := Lib.hid (fun W hW => by
    have a := (hW.kept _ (blk_lt hf1) (fun h => h)).trans hf1
    have b := (hW.kept _ (blk_lt hx1w) (fun h => h)).trans hx1w
    exact ⟨blk_cell a 5, blk_cell b 5⟩)
  have hfd := blk_drew hf1
  have hxd : Blk w1.drew bx xs := hbx1
  have HO1 := Lib.hid ho1
  have HMX0 := Lib.hid hmx
  have HEQ := Lib.hid hk
  clear hf1 hbx1 ho1 hmx hk hpn
  refine start_ (S := (fun W => Only w1 W (fun _ => False))) (ds := [12]) #[false, false, false, false, false, false, false, false, false, false, false, false, false] (by kernel_rfl) rfl rfl ?_ (fun hHeld => ?_)
  · exact (Only.refl w1 _).drew
  generalize w1.drew = W1 at *
  refine pure_ (i := 0) (oi := ?o0) (v := ?v0) #[true, false, false, false, false, false, false, false, false, false, false, false, false] ?h0 rfl (by kernel_rfl) ?q0 (Or.inl ⟨?w0, ?y0⟩) rfl ?r0
  case h0 => (simp only [ga, gb, gc]; rfl)
  case q0 => exact fun _ _ _ h => h
  case w0 => rfl
  case y0 => (intro W; go_simp; first | done | with_reducible rfl)
  simp only [Act.put, zd, ze, zf]
  refine pure_ (i := 1) (oi := ?o1) (v := ?v1) #[true, true, false, false, false, false, false, false, false, false, false, false, false] ?h1 rfl (by kernel_rfl) ?q1 (Or.inl ⟨?w1, ?y1⟩) rfl ?r1
  case h1 => (simp only [ga, gb, gc]; rfl)
  case q1 => exact fun _ _ _ h => h
  case w1 => rfl
  case y1 => (intro W; go_simp; first | done | with_reducible rfl)
  simp only [Act.put, zd, ze, zf]
  refine pure_ (i := 2) (oi := ?o2) (v := ?v2) #[true, true, true, false, false, false, false, false, false, false, false, false, false] ?h2 rfl (by kernel_rfl) ?q2 (Or.inl ⟨?w2, ?y2⟩) rfl ?r2
  case h2 => (simp only [ga, gb, gc]; rfl)
  case q2 => exact fun _ _ _ h => h
  case w2 => rfl
  case y2 => (intro W; go_simp; first | done | with_reducible rfl)
  simp only [Act.put, zd, ze, zf]
  refine pure_ (i := 3) (oi := ?o3) (v := ?v3) #[true, true, true, true, false, false, false, false, false, false, false, false, false] ?h3 rfl (by kernel_rfl) ?q3 (Or.inl ⟨?w3, ?y3⟩) rfl ?r3
  case h3 => (simp only [ga, gb, gc]; rfl)
  case q3 => exact fun _ _ _ h => h
  case w3 => rfl
  case y3 => (intro W; go_simp; first | done | with_reducible rfl)
  simp only [Act.put, zd, ze, zf]
  refine pure_ (i := 5) (oi := ?o4) (v := ?v4) #[true, true, true, true, false, true, false, false, false, false, false, false, false] ?h4 rfl (by kernel_rfl) ?q4 (Or.inl ⟨?w4, ?y4⟩) rfl ?r4
  case h4 => (simp only [ga, gb, gc]; rfl)
  case q4 => exact fun _ _ _ h => h
  case w4 => rfl
  case y4 => (intro W; go_simp; first | done | with_reducible rfl)
  simp only [Act.put, zd, ze, zf]
  refine pure_ (i := 6) (oi := ?o5) (v := ?v5) #[true, true, true, true, false, true, true, false, false, false, false, false, false] ?h5 rfl (by kernel_rfl) ?q5 (Or.inl ⟨?w5, ?y5⟩) rfl ?r5
  case h5 => (simp only [ga, gb, gc]; rfl)
  case q5 => exact fun _ _ _ h => h
  case w5 => rfl
  case y5 => (intro W; go_simp; first | done | with_reducible rfl)
  simp only [Act.put, zd, ze, zf]
  refine pure_ (i := 7) (oi := ?o6) (v := ?v6) #[true, true, true, true, false, true, true, true, false, false, false, false, false] ?h6 rfl (by kernel_rfl) ?q6 (Or.inl ⟨?w6, ?y6⟩) rfl ?r6
  case h6 => (simp only [ga, gb, gc]; rfl)
  case q6 => exact fun _ _ _ h => h
  case w6 => rfl
  case y6 => (intro W; go_simp; first | done | with_reducible rfl)
  simp only [Act.put, zd, ze, zf]
  refine wpAnyLast_take (i := 4) (oi := ?o7) (v := ?v7) ?h7 (by kernel_rfl) (by kernel_rfl) (by kernel_rfl) (by kernel_rfl) (by kernel_rfl) ?q7 (Or.inl ⟨?w7, ?y7⟩) hHeld ?r7
  case h7 => (simp only [ga, gb, gc]; rfl)
  case q7 => exact fun _ _ _ h => h
  case w7 => rfl
  case y7 => (intro W hSw; obtain ⟨q5, q6⟩ := HK.out _ hSw; go_simp; first | done | with_reducible rfl)
  simp only [Act.put, zd, ze, zf]
  refine wpAnyLast_take (i := 8) (oi := ?o8) (v := ?v8) ?h8 (by kernel_rfl) (by kernel_rfl) (by kernel_rfl) (by kernel_rfl) (by kernel_rfl) ?q8 (Or.inl ⟨?w8, ?y8⟩) hHeld ?r8
  case h8 => (simp only [ga, gb, gc]; rfl)
  case q8 => exact fun _ _ _ h => h
  case w8 => rfl
  case y8 => (intro W hSw; obtain ⟨q5, q6⟩ := HK.out _ hSw; go_simp; first | done | with_reducible rfl)
  simp only [Act.put, zd, ze, zf]
  refine wpAnyLast_ready (rs := [9]) (by kernel_rfl) (by simp) ?_
  refine AllReadyL.cons (o := ?o9) ?h9 (by simp) (fun K hK => ?s9) ?m9
  case h9 => (simp only [ga, gb, gc]; rfl)
  case m9 => exact AllReadyL.nil
  go_simp
  go_at_call 92
  refine (set_any (.slice none 0 0) none bx m cx xs W1 .nil hxd HMX0.out.1 HMX0.out.2.2.1 (by have := HMX0.out.2.1; unfold most; omega)).mono ?_
  rintro en W2 ⟨b, zs, rfl, hz, hzl, hzm, ho, hob, hzi⟩
  replace ho : Only W1 W2 (fun _ => False) := ho.mono (fun _ _ h => by cases h)
  replace hob : W1.heap.size ≤ b := by rcases hob with h | h; (cases h); (exact h)
  have hfN := (ho.kept _ (blk_lt hfd) (fun h => h)).trans hfd
  have hsz := hHeld.base.size
  refine hK.out _ _ (hHeld.trans ho) (fun hHeldN => ?_)
  clear hK K hHeld
  have hHeld := hHeldN
  clear hHeldN
  simp only [Act.put, zd, ze, zf]
  refine pure_ (i := 10) (oi := ?o10) (v := ?v10) #[true, true, true, true, true, true, true, true, true, true, true, false, false] ?h10 rfl (by kernel_rfl) ?q10 (Or.inl ⟨?w10, ?y10⟩) rfl ?r10
  case h10 => (simp only [ga, gb, gc]; rfl)
  case q10 => exact fun _ _ _ h => h
  case w10 => rfl
  case y10 => (intro W; go_simp; first | done | with_reducible rfl)
  simp only [Act.put, zd, ze, zf]
  refine pure_ (i := 11) (oi := ?o11) (v := ?v11) #[true, true, true, true, true, true, true, true, true, true, true, true, false] ?h11 rfl (by kernel_rfl) ?q11 (Or.inl ⟨?w11, ?y11⟩) rfl ?r11
  case h11 => (simp only [ga, gb, gc]; rfl)
  case q11 => exact fun _ _ _ h => h
  case w11 => rfl
  case y11 => (intro W; go_simp; first | done | with_reducible rfl)
  simp only [Act.put, zd, ze, zf]
  refine wpAnyLast_ready (rs := [12]) (by kernel_rfl) (by simp) ?_
  refine AllReadyL.cons_last (o := ?o12) ?h12 (by simp) (fun K hK => ?s12) ?m12
  case h12 => (simp only [ga, gb, gc]; rfl)
  case m12 => exact AllReadyL.nil
  have r5 : W2.cell? ⟨f, 5, none⟩ = some (.slice none 0 0) := blk_cell hfN 5
  have fr5 := blk_frozen hfN 5
  go_simp
  refine hK.out _ _ ?_
  clear hK K r5 fr5
  simp only [Act.put, zd, ze, zf]
  refine done_ (by kernel_rfl) ?_
  obtain ⟨w2, hw2, hf2, hb2, ho2⟩ := after_setm (f := f) m zs.length hfN hz hHeld
  rw [← hw2]
  have hbz : w1.heap.size ≤ b := Nat.le_trans hsz hob
  have HO2 := Lib.hid ho2
  clear hw2 hHeld hfN hz hfd hxd ho hob hsz HK
  have hmx := HMX0.out
  have hmz : Mant zs m zs.length := ⟨hmx.1, hmx.2.1, hzl, hzl, Nat.lt_of_le_of_lt hzm (by decide), fun i hi => by show 0 ≤ zs.getD i 0 ∧ zs.getD i 0 < _; rw [hzi i hi]; exact hmx.2.2.2.2.2.1 i hi, by rw [hzi (m - 1) (by have := hmx.1; omega)]; exact hmx.2.2.2.2.2.2⟩
  have hT2 : zs.getD (m - 1) 0 = T := by rw [hzi (m - 1) (by have := hmx.1; omega)]; exact HT.out.1
  have hst2 : (Stk (fun i => zs.getD i 0) (m - 1) (k - 1) ∧ sb = 0) ∨ (¬ Stk (fun i => zs.getD i 0) (m - 1) (k - 1) ∧ sb = 1) := by
    have e : Stk (fun i => zs.getD i 0) (m - 1) (k - 1) ↔ Stk (fun i => xs.getD i 0) (m - 1) (k - 1) := by
      have := hmx.1
      unfold Stk
      simp only
      rw [hzi (m - 1) (by omega)]
      exact ⟨fun h => ⟨fun i hi => by rw [← hzi i (by omega)]; exact h.1 i hi, h.2⟩, fun h => ⟨fun i hi => by rw [hzi i (by omega)]; exact h.1 i hi, h.2⟩⟩
    rw [e]
    exact HT.out.2.2
  have hn2 := fun n => (Only.refl w2 (fun _ => False)).drewN n
  have HR := Lib.hid (fun q => round_gen f b zs.length m p k zs 0 e T rb sb n (w2.drewN q) (((hn2 q).kept _ (blk_lt hf2) (fun h => h)).trans hf2) ((hn2 q).blk hb2 (fun h => h)) hmz HEQ.out hp0 hp1 hT2 HT.out.2.1 hst2 he he0)
  have HN := Lib.hid hn2
  clear hn2 hst2 hT2 hmz
  have p0 : w2.cell? ⟨f, 0, none⟩ = some (.int .u32 p) := blk_cell hf2 0
  have hx9 := (ho2.kept _ (blk_lt hx1w) (Ne.symm hfx)).trans hx1w
  have q0 : w2.cell? ⟨g, 0, none⟩ = some (.int .u32 P) := blk_cell hx9 0
  have hp3 : ((p : Int) == 0) = false := by rw [beq_eq_false_iff_ne]; omega
  have hp4 : decide ((p : Int) < P) = true := by rw [decide_eq_true_eq]; omega
  have hzl1 : 1 ≤ zs.length := by have := hmx.1; omega
  have HMX := Lib.hid hmx
  clear hzi hf2 hb2 hx9 hx1w hmx
  go_wp2_with fail
  go_quiet (fail)
  go_wp2_with fail
  refine (HR.out nq).mono ?_
  rintro en w3 ⟨rfl, a, x, e', ys, hf3, hb3, hl3, y0, ho3, hrel⟩
  go_wp2_with fail
  go_ret
  have ho23 := (HO2.out.step (HN.out nq) (fun _ _ h => h.elim)).step ho3 (fun i hi h => by rcases h with h | h; (exact h); (subst h; exact absurd hi (Nat.not_lt.2 hbz)))
  exact ⟨rfl, ⟨b, zs.length, a, x, e', ys, hf3, hb3, by omega, y0, Nat.le_trans HO1.out.base.size hbz, hrel⟩, HO1.out.trans ho23⟩
end Go.Proofs.YtlfmgdpbjapdjaaGreatFmtBesafter
namespace Go.Proofs.YtlfmgdpbjapdjaaGreatFmtBesafterW.PrintLast
open Go.Proofs.YtlfmgdpbjapdjaaGreatFmtBesafterW.PrintWords (Aside0)
section
variable {md : Region.Mode} {ops : Array Oper} {T : Bool × List (List Nat × List Nat)} {l l' li lj lk : Array Bool} {ds : List Nat} {i j k : Nat}
end
end Go.Proofs.YtlfmgdpbjapdjaaGreatFmtBesafterW.PrintLast
namespace Go.Proofs.YtlfmgdpbjapdjaaGreatFmtBesafterW.PrintLast
section
variable {P : Program} {ops : Array Oper} {Q : Exit → Act → World → Prop} {md : Region.Mode} {S : World → Prop} {ds : List Nat} {T : Bool × List (List Nat × List Nat)}
end
end Go.Proofs.YtlfmgdpbjapdjaaGreatFmtBesafterW.PrintLast
namespace Go.Proofs.YtlfmgdpbjapdjaaGreatFmtBesafterW.PrintWords
open Go.RowKit
namespace Kd
section
variable {α : Type} {d : Kd α} {e base g o n cap : Nat} {ok okp : Nat → Prop} {w W : World} {v : Value} {xs : List α}
end
section
variable {α : Type} {enc : α → Value} {h1 : ∀ x, (enc x).oneCell' = true} {e base g o n cap : Nat} {ok : Nat → Prop} {W : World} {xs : List α}
end
end Kd
namespace Kd
def tag {α : Type} (f : Nat → Nat) (d : Kd α) : Kd (α × Nat) where
  sz := d.sz
  E := d.E
  K := fun w x cs => d.K w x.1 cs
  M := fun w base ok x cs => d.M w base (fun k => ok k ∧ f k = x.2) x.1 cs
  K_len := fun h => d.K_len h
  K_one := fun h => d.K_one h
  K_below := fun hb h => d.K_below hb h
  K_of_M := fun h => d.K_of_M h
  M_mono := fun hok h => d.M_mono (fun k hk => ⟨hok k hk.1, hk.2⟩) h
  M_bound := fun h => d.M_mono (fun _ hk => ⟨⟨hk.1.1, hk.2⟩, hk.1.2⟩) (d.M_bound h)
  M_move := fun hm h => d.M_move (fun k hk => hm k hk.1) h
  M_lower := fun hb h => d.M_lower hb h
def bare {α : Type} (d : Kd α) : Kd α where
  sz := d.sz
  E := d.E
  K := d.K
  M := fun w base _ x cs => d.M w base (fun _ => False) x cs
  K_len := fun h => d.K_len h
  K_one := fun h => d.K_one h
  K_below := fun hb h => d.K_below hb h
  K_of_M := fun h => d.K_of_M h
  M_mono := fun _ h => h
  M_bound := fun h => h
  M_move := fun _ h => d.M_move (fun _ hk => hk.elim) h
  M_lower := fun hb h => d.M_lower hb h
def raw (sz : Nat) : Kd (List Value) where
  sz := sz
  E := []
  K := fun _ x cs => cs = x ∧ cs.length = sz ∧ ∀ u ∈ cs, u.oneCell' = true
  M := fun _ _ _ x cs => cs = x ∧ cs.length = sz ∧ ∀ u ∈ cs, u.oneCell' = true
  K_len := fun h => h.2.1
  K_one := fun h => h.2.2
  K_below := fun _ h => h
  K_of_M := fun h => h
  M_mono := fun _ h => h
  M_bound := fun h => h
  M_move := fun _ h => h
  M_lower := fun _ h => h
def S {α : Type} (d : Kd α) (e : Nat) (w : World) (base : Nat) (ok : Nat → Prop) (v : Value) (xs : List α) : Prop := ∃ f, (tag f d).R e w base ok v xs.zipIdx
section
variable {α β : Type} {d : Kd α} {d' : Kd β} {e e' : Nat} {w w1 W : World} {base b : Nat} {ok ok' okv oku : Nat → Prop} {u v : Value} {xs : List α} {ys : List β}
end
section
variable {α β : Type} {d : Kd α} {d' : Kd β} {e e' g : Nat} {w w1 W : World} {base b : Nat} {ok ok' okv oku : Nat → Prop} {u v : Value} {xs : List α} {ys : List β}
end
section
open Classical in
variable {P : Program} {ops : Array Oper} {rest : List Oper} {o : Oper} {a : Act} {Q : Exit → Act → World → Prop} {Kc : Act → World → Prop} {α : Type}
end
def gap {α : Type} (f : Nat → Nat) (d : Kd α) (i : Nat) (c : List Value) : Kd (α × Nat) where
  sz := d.sz
  E := d.E
  K := fun w x cs => (x.2 = i → cs = c ∧ cs.length = d.sz ∧ ∀ u ∈ cs, u.oneCell' = true) ∧ (x.2 ≠ i → d.K w x.1 cs)
  M := fun w base ok x cs => (x.2 = i → cs = c ∧ cs.length = d.sz ∧ ∀ u ∈ cs, u.oneCell' = true) ∧ (x.2 ≠ i → d.M w base (fun k => ok k ∧ f k = x.2) x.1 cs)
  K_len := fun {w x cs} h => by
    by_cases hx : x.2 = i
    · exact (h.1 hx).2.1
    · exact d.K_len (h.2 hx)
  K_one := fun {w x cs} h => by
    by_cases hx : x.2 = i
    · exact (h.1 hx).2.2
    · exact d.K_one (h.2 hx)
  K_below := fun hb h => ⟨h.1, fun hx => d.K_below hb (h.2 hx)⟩
  K_of_M := fun h => ⟨h.1, fun hx => d.K_of_M (h.2 hx)⟩
  M_mono := fun hok h => ⟨h.1, fun hx => d.M_mono (fun k hk => ⟨hok k hk.1, hk.2⟩) (h.2 hx)⟩
  M_bound := fun h => ⟨h.1, fun hx => d.M_mono (fun _ hk => ⟨⟨hk.1.1, hk.2⟩, hk.1.2⟩) (d.M_bound (h.2 hx))⟩
  M_move := fun hm h => ⟨h.1, fun hx => d.M_move (fun k hk => hm k hk.1) (h.2 hx)⟩
  M_lower := fun hb h => ⟨h.1, fun hx => d.M_lower hb (h.2 hx)⟩
def H {α : Type} (d : Kd α) (e : Nat) (w : World) (base : Nat) (ok : Nat → Prop) (v : Value) (xs : List α) (i : Int) (oki : Nat → Prop) (c : List Value) : Prop :=
  (∀ k, oki k → ok k) ∧ ∃ f, (gap f d i.toNat c).R e w base (fun k => ok k ∧ ¬ oki k) v xs.zipIdx
section
variable {α β : Type} {d : Kd α} {e e' g n cap : Nat} {w w1 W : World} {base : Nat} {ok ok' oki okp : Nat → Prop} {u v : Value} {xs : List α} {i : Int} {c : List Value}
open Classical in
end
section
variable {P : Program} {ops : Array Oper} {rest : List Oper} {o : Oper} {a : Act} {Q : Exit → Act → World → Prop} {α : Type}
end
end Kd
namespace Kd
section
variable {α : Type} {n : Nat} {d : Kd α} {hs : 0 < d.sz} {w : World} {base : Nat} {ok : Nat → Prop} {xs : List α} {cs : List Value}
end
section
variable {α : Type} {n : Nat} {enc : α → Value} {h1 : ∀ x, (enc x).oneCell' = true} {hs : 0 < (scalar enc h1).sz} {w : World} {base : Nat} {ok : Nat → Prop} {xs : List α} {cs : List Value}
end
end Kd
section
variable {P : Program}
end
namespace Kd
section
variable {P : Program} {ops : Array Oper} {rest : List Oper} {o : Oper} {a : Act} {Q : Exit → Act → World → Prop} {Kc : Act → World → Prop} {α : Type}
end
section
variable {α : Type} {d : Kd α} {e : Nat} {w : World} {base : Nat} {ok : Nat → Prop} {v : Value} {xs : List α}
end
section
variable {P : Program} {ops : Array Oper} {rest : List Oper} {o : Oper} {a : Act} {Q : Exit → Act → World → Prop} {Kc : Act → World → Prop} {α : Type}
end
end Kd
namespace Kd
structure Heap {α : Type} (d : Kd α) : Prop where
  K : ∀ {w w1 : World} {x : α} {cs : List Value}, (∀ k, k < w.heap.size → w1.heap[k]? = w.heap[k]?) → d.K w x cs → d.K w1 x cs
theorem cell_heap {w w1 : World} (hb : ∀ k, k < w.heap.size → w1.heap[k]? = w.heap[k]?) {a : Addr} {v : Value} (h : w.cell? a = some v) : w1.cell? a = some v := by
  have := hb a.block (World.block_lt_of_cell? w a h)
  simpa [World.cell?, this] using h
theorem Heap.C {α : Type} {d : Kd α} (hd : Heap d) {w w1 : World} {A : Option Addr} {n : Nat} {xs : List α} (hb : ∀ k, k < w.heap.size → w1.heap[k]? = w.heap[k]?) (h : d.C w A n xs) : d.C w1 A n xs :=
  ⟨h.1, h.2.1, fun hn => by
    obtain ⟨ad, e, hc⟩ := h.2.2 hn
    refine ⟨ad, e, fun j p hj => ?_⟩
    obtain ⟨c, hs, hr, hcell⟩ := hc j p hj
    exact ⟨c, hs, hd.K hb hr, fun i u hu => cell_heap hb (hcell i u hu)⟩⟩
section
variable {α : Type} {d : Kd α} {e base g n c : Nat} {ok : Nat → Prop} {w w0 W : World} {A : Option Addr} {xs : List α}
end
end Kd
def Kept (w W : World) (S : Nat → Prop) : Prop := w.heap.size ≤ W.heap.size ∧ ∀ i, i < w.heap.size → ¬ S i → W.heap[i]? = w.heap[i]?
section
variable {w W W2 : World} {S S2 S' : Nat → Prop}
theorem Kept.refl (w : World) (S : Nat → Prop) : Kept w w S := ⟨Nat.le_refl _, fun _ _ _ => rfl⟩
theorem Kept.of_below (h : Below w.heap.size w W) (S : Nat → Prop) : Kept w W S := ⟨h.size, fun i hi _ => h.block i hi⟩
theorem Kept.mono (h : Kept w W S) (hs : ∀ k, S k → S' k) : Kept w W S' := ⟨h.1, fun i hi hn => h.2 i hi (fun hk => hn (hs i hk))⟩
theorem Kept.then_ (h : Kept w W S) (k : Kept W W2 S2) (hs : ∀ k, S2 k → S k ∨ w.heap.size ≤ k) : Kept w W2 S :=
  ⟨Nat.le_trans h.1 k.1, fun i hi hn => (k.2 i (Nat.lt_of_lt_of_le hi h.1) (fun h2 => (hs i h2).elim hn (fun h3 => by omega))).trans (h.2 i hi hn)⟩
theorem Kept.of_grown {row : Option Nat} (hg : W.grownBy W2 row) (h : Kept w W S) (hr : ∀ k, row = some k → S k ∨ w.heap.size ≤ k) : Kept w W2 S :=
  h.then_ (S2 := fun k => row = some k) ⟨hg.size, fun i hi hn => hg.block i hi (fun he => hn he.symm)⟩ hr
theorem Kept.below (h : Kept w W S) (hb : Below W.heap.size W W2) : Kept w W2 S := h.then_ (Kept.of_below hb (fun _ => False)) (fun _ hk => hk.elim)
theorem Kept.alloc (h : Kept w W S) (o : Obj) : Kept w (W.alloc o) S := h.below (below_alloc (Below.refl _ _) o)
theorem Kept.drew (h : Kept w W S) : Kept w W.drew S := h
theorem Kept.drewN (h : Kept w W S) (m : Nat) : Kept w (W.drewN m) S := h
theorem Kept.setCell (h : Kept w W S) {p : Addr} (hp : S p.block ∨ w.heap.size ≤ p.block) (u : Value) : Kept w (W.setCell p u) S :=
  h.then_ (S2 := fun k => k = p.block) ⟨by simp [World.setCell], fun i _ hn => Below.heap_setCell W p u i hn⟩ (fun k hk => by rw [hk]; exact hp)
theorem Kept.keep {g : Nat} (h : KeepBut w W g none) (k : Kept W W2 S2) (hs : ∀ k, S2 k → w.heap.size ≤ k) : KeepBut w W2 g none :=
  ⟨Nat.le_trans h.1 k.1, fun i hi hg hr => (k.2 i (Nat.lt_of_lt_of_le hi h.1) (fun h2 => by have := hs i h2; omega)).trans (h.2 i hi hg hr)⟩
end
namespace Kd
section
variable {α : Type} {d : Kd α} {e base n c : Nat} {ok oki S S2 : Nat → Prop} {w w0 W W1 W2 : World} {v : Value} {A : Option Addr} {xs : List α} {i : Int} {cs : List Value}
end
end Kd
def Foot (P : World → Prop) (W : World) (ok : Nat → Prop) : Prop := ∀ W' : World, (∀ k, ok k → k < W.heap.size → W'.heap[k]? = W.heap[k]?) → P W'
theorem heap_lt {W W1 : World} {k : Nat} (h : W1.heap[k]? = W.heap[k]?) (hlt : k < W.heap.size) : k < W1.heap.size := by
  rw [Array.getElem?_eq_getElem hlt] at h
  exact (Array.getElem?_eq_some_iff.1 h).1
namespace Foot
variable {P Q : World → Prop} {W W1 : World} {ok ok' : Nat → Prop}
theorem now (h : Foot P W ok) : P W := h W (fun _ _ _ => rfl)
theorem mono (h : Foot P W ok) (hok : ∀ k, ok k → ok' k) : Foot P W ok' := fun W' hW => h W' (fun k hk hlt => hW k (hok k hk) hlt)
theorem step (h : Foot P W ok) (hm : ∀ k, ok k → k < W.heap.size → W1.heap[k]? = W.heap[k]?) : Foot P W1 ok := fun W' hW => h W' (fun k hk hlt => (hW k hk (heap_lt (hm k hk hlt) hlt)).trans (hm k hk hlt))
theorem imp (h : Foot P W ok) (hi : ∀ W', P W' → Q W') : Foot Q W ok := fun W' hW => hi W' (h W' hW)
end Foot
namespace Kd
def F {α : Type} (d : Kd α) (W : World) (ok : Nat → Prop) (A : Option Addr) (n : Nat) (xs : List α) : Prop := Foot (fun W => d.C W A n xs) W ok
def FK {α : Type} (d : Kd α) (W : World) (ok : Nat → Prop) (x : α) (c : List Value) : Prop := Foot (fun W => d.K W x c) W ok
section
variable {α β : Type} {d : Kd α} {e base n n' cc g N : Nat} {ok ok' okp S : Nat → Prop} {w w0 w1 W W1 : World} {A A' : Option Addr} {u v v1 : Value} {xs : List α} {xs' : List β} {d' : Kd β} {x : α} {c : List Value}
end
end Kd
namespace Kd
section
variable {α : Type} {d : Kd α} {e base n cc g : Nat} {ok ok' okp S : Nat → Prop} {w w1 W W1 : World} {A : Option Addr} {u v v1 : Value} {xs : List α} {x : α} {c : List Value}
def N {α : Type} (d : Kd α) (e : Nat) (w : World) (base : Nat) (ok : Nat → Prop) (v : Value) (xs : List α) : Prop :=
  (∀ k, v.ownBlock = some k → ok k) ∧ ∃ rows : List (List Value), rows.length = xs.length ∧ (raw d.sz).R e w base (fun k => some k = v.ownBlock) v rows ∧ ∀ (j : Nat) (x : α) (c : List Value), xs[j]? = some x → rows[j]? = some c → FK d w (fun k => ok k ∧ some k ≠ v.ownBlock) x c
end
end Kd
namespace Kd
section
variable {α : Type} {d : Kd α} {W : World} {g n : Nat} {S ok : Nat → Prop} {A : Option Addr} {ad : Addr} {xs : List α}
end
end Kd
section
variable {w w' u : World} {m B g : Nat} {o : Obj} {row : Option Nat} {S : Nat → Prop} {a : Addr} {v : Value}
end
namespace Kd
section
variable {α : Type} {d : Kd α} {e base n m : Nat} {ok : Nat → Prop} {w w' : World} {v : Value} {A : Option Addr} {xs : List α}
end
end Kd
section
variable {P : Program} {d : Nat} {xs ys : Array Value} {f : Field} {fs : List Field} {a b : Value} {r s : Bool} {w : World}
end
end Go.Proofs.YtlfmgdpbjapdjaaGreatFmtBesafterW.PrintWords
namespace Go.Proofs.YtlfmgdpbjapdjaaGreatFmtBesafterW.PrintWords
theorem Reps.one {α : Type} {R : α → List Value → Prop} {ps : List α} {cs : List Value} {p : α} {v : Value} (hp : R p [v]) (h : Reps R 1 ps cs) : Reps R 1 (p :: ps) (v :: cs) := by
  refine ⟨by simp [h.1], fun j q hq => ?_⟩
  cases j with
  | zero =>
    simp only [List.getElem?_cons_zero, Option.some.injEq] at hq
    subst hq
    simpa using hp
  | succ j =>
    simp only [List.getElem?_cons_succ] at hq
    have h1 := h.2 j q hq
    simpa [Nat.mul_one] using h1
theorem Reps.front {α : Type} {R : α → List Value → Prop} {size : Nat} {ps : List α} {cs c all : List Value} {p : α} (hp : R p c) (hc : c.length = size) (h : Reps R size ps cs) (ha : c ++ cs = all) : Reps R size (p :: ps) all := by
  subst ha
  refine ⟨by rw [List.length_append, hc, h.1, List.length_cons, Nat.succ_mul, Nat.add_comm], fun j q hq => ?_⟩
  cases j with
  | zero =>
    simp only [List.getElem?_cons_zero, Option.some.injEq] at hq
    subst hq
    rw [Nat.zero_mul, List.drop_zero, List.take_append_of_le_length (by omega), List.take_of_length_le (by omega)]
    exact hp
  | succ j =>
    simp only [List.getElem?_cons_succ] at hq
    have h1 := h.2 j q hq
    rw [Nat.succ_mul, List.drop_append, List.drop_of_length_le (by rw [hc]; exact Nat.le_add_left _ _), List.nil_append, hc, Nat.add_sub_cancel]
    exact h1
theorem Reps.c2 {α : Type} {R : α → List Value → Prop} {ps : List α} {cs : List Value} {p : α} {va vb : Value} (hp : R p [va, vb]) (h : Reps R 2 ps cs) : Reps R 2 (p :: ps) (va :: vb :: cs) := Reps.front hp rfl h rfl
theorem Reps.c3 {α : Type} {R : α → List Value → Prop} {ps : List α} {cs : List Value} {p : α} {va vb vc : Value} (hp : R p [va, vb, vc]) (h : Reps R 3 ps cs) : Reps R 3 (p :: ps) (va :: vb :: vc :: cs) := Reps.front hp rfl h rfl
theorem Reps.c4 {α : Type} {R : α → List Value → Prop} {ps : List α} {cs : List Value} {p : α} {va vb vc vd : Value} (hp : R p [va, vb, vc, vd]) (h : Reps R 4 ps cs) : Reps R 4 (p :: ps) (va :: vb :: vc :: vd :: cs) := Reps.front hp rfl h rfl
theorem Reps.c5 {α : Type} {R : α → List Value → Prop} {ps : List α} {cs : List Value} {p : α} {va vb vc vd ve : Value} (hp : R p [va, vb, vc, vd, ve]) (h : Reps R 5 ps cs) : Reps R 5 (p :: ps) (va :: vb :: vc :: vd :: ve :: cs) := Reps.front hp rfl h rfl
theorem Reps.c6 {α : Type} {R : α → List Value → Prop} {ps : List α} {cs : List Value} {p : α} {va vb vc vd ve vf : Value} (hp : R p [va, vb, vc, vd, ve, vf]) (h : Reps R 6 ps cs) : Reps R 6 (p :: ps) (va :: vb :: vc :: vd :: ve :: vf :: cs) := Reps.front hp rfl h rfl
theorem Reps.c7 {α : Type} {R : α → List Value → Prop} {ps : List α} {cs : List Value} {p : α} {va vb vc vd ve vf vg : Value} (hp : R p [va, vb, vc, vd, ve, vf, vg]) (h : Reps R 7 ps cs) : Reps R 7 (p :: ps) (va :: vb :: vc :: vd :: ve :: vf :: vg :: cs) := Reps.front hp rfl h rfl
theorem Reps.c9 {α : Type} {R : α → List Value → Prop} {ps : List α} {cs : List Value} {p : α} {va vb vc vd ve vf vg vh vi : Value} (hp : R p [va, vb, vc, vd, ve, vf, vg, vh, vi]) (h : Reps R 9 ps cs) : Reps R 9 (p :: ps) (va :: vb :: vc :: vd :: ve :: vf :: vg :: vh :: vi :: cs) := Reps.front hp rfl h rfl
end Go.Proofs.YtlfmgdpbjapdjaaGreatFmtBesafterW.PrintWords
namespace Go.Proofs.YtlfmgdpbjapdjaaGreatFmtBesafterW.PrintLast
def up (b : Nat → Bool) (i : Nat) : Nat → Bool := fun j => if j = i then true else b j
section
variable {P : Program} {ops : Array Oper} {Q : Exit → Act → World → Prop} {md : Region.Mode} {T : Bool × List (List Nat × List Nat)} {B : List Nat} {O : List Nat} {b : Nat → Bool} {i j n : Nat}
end
end Go.Proofs.YtlfmgdpbjapdjaaGreatFmtBesafterW.PrintLast
namespace Go.Proofs.YtlfmgdpbjapdjaaGreatFmtBesafterW.PrintWords
open Go.RowKit
end Go.Proofs.YtlfmgdpbjapdjaaGreatFmtBesafterW.PrintWords
namespace Go.Proofs.YtlfmgdpbjapdjaaGreatFmtBesafterW.PrintLast
section
variable {ops : Array Oper} {a : Act} {o og : Oper} {g : Nat} {t : Tmp} {u : Bool}
end
end Go.Proofs.YtlfmgdpbjapdjaaGreatFmtBesafterW.PrintLast
namespace Go.Proofs.YtlfmgdpbjapdjaaGreatFmtBesafterW.PrintWords
open Go.RowKit
section
variable {P : Program} {ops : Array Oper} {rest : List Oper} {o : Oper} {a : Act} {Q : Exit → Act → World → Prop} {W : World}
end
namespace Kd
section
variable {α : Type} {d : Kd α} {e base n cap g : Nat} {ok ok' okp : Nat → Prop} {w w1 W : World} {v v1 : Value} {xs ys : List α}
end
section
variable {P : Program} {ops : Array Oper} {rest : List Oper} {o : Oper} {a : Act} {Q : Exit → Act → World → Prop} {Kc : Act → World → Prop} {α : Type}
end
end Kd
end Go.Proofs.YtlfmgdpbjapdjaaGreatFmtBesafterW.PrintWords
namespace Go.Proofs.YtlfmgdpbjapdjaaGreatFmtBesafterW.PrintMore
open Go.RowKit Go.Proofs.YtlfmgdpbjapdjaaGreatFmtBesafterW.PrintWords
namespace Kd
open Go.Proofs.YtlfmgdpbjapdjaaGreatFmtBesafterW.PrintWords.Kd
end Kd
namespace Kd
open Go.Proofs.YtlfmgdpbjapdjaaGreatFmtBesafterW.PrintWords.Kd
section
variable {α : Type} {d : Kd α} {e base g N : Nat} {ok : Nat → Prop} {W w1 : World} {u v : Value} {xs : List α}
end
end Kd
theorem max2_int (k k' : IntKind) (x y : Int) : Builtin.max2 (.int k x) (.int k' y) = pure (.int k (if x < y then y else x)) := by simp only [Builtin.max2, gt_iff_lt]
theorem min2_int (k k' : IntKind) (x y : Int) : Builtin.min2 (.int k x) (.int k' y) = pure (.int k (if y < x then y else x)) := by simp only [Builtin.min2]
theorem max_two (ats : Array TypeId) (ty : TypeId) (a b : Value) : Builtin.max_ ats ty #[a, b] = (Builtin.max2 a b >>= fun s => pure s) := by simp only [Builtin.max_, List.foldlM_cons, List.foldlM_nil]
theorem min_two (ats : Array TypeId) (ty : TypeId) (a b : Value) : Builtin.min_ ats ty #[a, b] = (Builtin.min2 a b >>= fun s => pure s) := by simp only [Builtin.min_, List.foldlM_cons, List.foldlM_nil]
theorem max_three (ats : Array TypeId) (ty : TypeId) (a b c : Value) : Builtin.max_ ats ty #[a, b, c] = (Builtin.max2 a b >>= fun s => Builtin.max2 s c >>= fun s => pure s) := by simp only [Builtin.max_, List.foldlM_cons, List.foldlM_nil]
theorem min_three (ats : Array TypeId) (ty : TypeId) (a b c : Value) : Builtin.min_ ats ty #[a, b, c] = (Builtin.min2 a b >>= fun s => Builtin.min2 s c >>= fun s => pure s) := by simp only [Builtin.min_, List.foldlM_cons, List.foldlM_nil]
theorem max_four (ats : Array TypeId) (ty : TypeId) (a b c d : Value) : Builtin.max_ ats ty #[a, b, c, d] = (Builtin.max2 a b >>= fun s => Builtin.max2 s c >>= fun s => Builtin.max2 s d >>= fun s => pure s) := by simp only [Builtin.max_, List.foldlM_cons, List.foldlM_nil]
theorem min_four (ats : Array TypeId) (ty : TypeId) (a b c d : Value) : Builtin.min_ ats ty #[a, b, c, d] = (Builtin.min2 a b >>= fun s => Builtin.min2 s c >>= fun s => Builtin.min2 s d >>= fun s => pure s) := by simp only [Builtin.min_, List.foldlM_cons, List.foldlM_nil]
end Go.Proofs.YtlfmgdpbjapdjaaGreatFmtBesafterW.PrintMore
namespace Go.Proofs.YtlfmgdpbjapdjaaGreatFmtBesafterW.PrintWords
open Go.RowKit
section
variable {P : Program} {ops : Array Oper} {rest : List Oper} {o : Oper} {a : Act} {Q : Exit → Act → World → Prop} {W : World}
theorem gate_callee {f : FuncId} {ags : Array Operand} {ts : Array TypeId} (_ho : o.op = .call { callee := .value (.func f), args := ags, argTypes := ts }) (h : wpList P ops Q (o :: rest) a W) : wpList P ops Q (o :: rest) a W := h
end
def mx (a b : Int) : Int := if a < b then b else a
def shl (k : IntKind) (x y : Int) : Int := k.wrap (x * 2 ^ min y.toNat k.bits)
def shr (k : IntKind) (x y : Int) : Int := x / 2 ^ min y.toNat k.bits
theorem shl_small {k : IntKind} {x y j : Int} (h : shl k x y = j) (hy : y ≤ k.bits) : k.wrap (x * 2 ^ y.toNat) = j := by rw [← h]; unfold shl; rw [Nat.min_eq_left (by omega)]
theorem shr_small {k : IntKind} {x y j : Int} (h : shr k x y = j) (hy : y ≤ k.bits) : x / 2 ^ y.toNat = j := by rw [← h]; unfold shr; rw [Nat.min_eq_left (by omega)]
namespace Kd
section
variable {α : Type} {d : Kd α} {e base : Nat} {ok : Nat → Prop} {W w1 : World} {v : Value} {xs : List α}
end
section
variable {α : Type} {d : Kd α} {e base g n cap : Nat} {ok oki okp : Nat → Prop} {W : World} {xs : List α} {i : Int} {c : List Value}
end
section
variable {α : Type} {d : Kd α} {e base b b' g N : Nat} {ok ok1 : Nat → Prop} {W W2 w1 : World} {u v : Value} {xs ys : List α} {S : Nat → Prop}
end
end Kd
end Go.Proofs.YtlfmgdpbjapdjaaGreatFmtBesafterW.PrintWords
namespace Go.Proofs.YtlfmgdpbjapdjaaGreatFmtBesafterW.PrintWords
open Go.RowKit
namespace Kd
def V {α : Type} (d : Kd α) (_e : Nat) (W : World) (_base : Nat) (ok : Nat → Prop) (v : Value) (xs : List α) : Prop := ∃ A c, v = .slice A xs.length c ∧ xs.length ≤ c ∧ F d W ok A xs.length xs
section
variable {α β : Type} {d : Kd α} {e base base' n m c g N' lo hi : Nat} {ok ok' S : Nat → Prop} {w W w1 : World} {A : Option Addr} {ad : Addr} {u v v1 : Value} {xs : List α}
end
end Kd
end Go.Proofs.YtlfmgdpbjapdjaaGreatFmtBesafterW.PrintWords
namespace Go.Proofs.YtlfmgdpbjapdjaaGreatFmtBesafter.F
open Go.RowKit Go.Proofs.YtlfmgdpbjapdjaaGreatFmtBesafterW.PrintWords Go.Proofs.YtlfmgdpbjapdjaaGreatFmtBesafterW.PrintLast Go.Proofs.YtlfmgdpbjapdjaaGreatFmtBesafterW.PrintMore
attribute [local go_sem] max2_int min2_int max_two min_two max_three min_three max_four min_four   -- for this text's walks alone
set_option linter.unusedVariables false
set_option linter.unusedSimpArgs false
def errW : Option Int → Value
  | none => .nilIface
  | some c => .iface 0 (.int .i64 c)
theorem errW_none : errW none = .nilIface := rfl
theorem errW_some (c : Int) : errW (some c) = .iface 0 (.int .i64 c) := rfl
attribute [local go_sem] max2_int min2_int max_two min_two max_three min_three max_four min_four   -- for this text's walks alone
set_option linter.unusedVariables false
set_option linter.unusedSimpArgs false
def bits_of.f (a0 : Int) : Option (Int × Int × Int × Int × Bool) := if a0 = 64 then (some (52, 2047, (-1074), (-9223372036854775808), true)) else (if a0 = 32 then (some (23, 255, (-149), 2147483648, true)) else (some (0, 0, 0, 0, false)))
set_option maxHeartbeats 8000000 in
set_option maxRecDepth 100000 in
theorem bits_of.calls (a0 : Int) (r1 : Int) (r2 : Int) (r3 : Int) (r4 : Int) (r5 : Bool) (w : World) (h : bits_of.f a0 = some (r1, r2, r3, r4, r5)) :
    Calls Tryz.prog 49 #[.int .i64 a0] w fun e w' => e = .returned (.tuple #[.agg #[.int .i64 r1, .int .i64 r2, .int .i64 r3, .int .i64 r4], .bool r5]) ∧ Below w.heap.size w w' := by
  have hu95 := Tryz.underlying95
  have HB := Aside0.mk (Below.refl w.heap.size w)
  have H : (if a0 = 64 then (some (52, 2047, (-1074), (-9223372036854775808), true)) else (if a0 = 32 then (some (23, 255, (-149), 2147483648, true)) else (some (0, 0, 0, 0, false)))) = some (r1, r2, r3, r4, r5) := h
  clear h
  by_cases c2 : a0 = 64
  · rw [if_pos c2] at H
    have c2b0 : (a0 == 64) = true := beq_iff_eq.mpr c2
    have c2b1 : (a0 != 64) = false := bne_eq_false_iff_eq.mpr c2
    clear c2
    simp only [Option.some.injEq, Prod.mk.injEq] at H
    obtain ⟨rfl, rfl, rfl, rfl, rfl⟩ := H
    go_enter Tryz.func49, Tryz.ntmps49
    go_wp2_with (first | ((with_reducible refine gate_dst (N := 2) rfl ?_); refine box_event ?hg (N := 2) ?hd (cs := #[.int .i64 0, .int .i64 0, .int .i64 0, .int .i64 0]) (t := 95) ?hr ?_; (case hd => rfl); (case hg => rfl); (case hr => first | (go_simp; done) | (go_simp; rfl)); intro gb144 hg w3 hbox hb; have n0_ := Aside0.mk (below_step (by repeat (first | (with_reducible first | exact HB.out | apply below_alloc | apply pw_below_drewN | apply below_drew1) | exact HB.out)) hb); have n1_ := Aside0.mk (hbox); have n2_ := Aside0.mk ((by rw [hg]; exact (below_size (by repeat (first | (with_reducible first | exact HB.out | apply below_alloc | apply pw_below_drewN | apply below_drew1) | exact HB.out))) : w.heap.size ≤ gb144)); have n3_ := Aside0.mk ((by rw [hg]; exact (below_size (by repeat (first | (with_reducible first | exact HB.out | apply below_alloc | apply pw_below_drewN | apply below_drew1) | exact HB.out))) : w.heap.size ≤ gb144)); clear HB; have HB := n0_; have BK144 := n1_; have GW144 := n2_; have GE144 := n3_; clear n0_ n1_ n2_ n3_; clear hb hbox hg; have hcz4_0 : w3.cell? ⟨gb144, 0, none⟩ = some (.int .i64 0) := (blk_cell BK144.out 0).trans rfl; have hcz4_1 : w3.cell? ⟨gb144, 1, none⟩ = some (.int .i64 0) := (blk_cell BK144.out 1).trans rfl; have hcz4_2 : w3.cell? ⟨gb144, 2, none⟩ = some (.int .i64 0) := (blk_cell BK144.out 2).trans rfl; have hcz4_3 : w3.cell? ⟨gb144, 3, none⟩ = some (.int .i64 0) := (blk_cell BK144.out 3).trans rfl; have hfz4_0 := blk_frozen BK144.out 0; have hfz4_1 := blk_frozen BK144.out 1; have hfz4_2 := blk_frozen BK144.out 2; have hfz4_3 := blk_frozen BK144.out 3))
    refine bodyPost_ret (results_ct rfl _ _ gb144 95 #[.int .i64 52, .int .i64 2047, .int .i64 (-1074), .int .i64 (-9223372036854775808)] (0, 0) _ rfl (by (with_reducible repeat (first | refine blk_drewN ?_ _ | refine blk_drew ?_ | refine blk_alloc ?_ _)); refine blk_put (cs := #[.int .i64 52, .int .i64 2047, .int .i64 (-1074), .int .i64 0]) ?_ 3 _ rfl; (with_reducible repeat (first | refine blk_drewN ?_ _ | refine blk_drew ?_ | refine blk_alloc ?_ _)); refine blk_put (cs := #[.int .i64 52, .int .i64 2047, .int .i64 0, .int .i64 0]) ?_ 2 _ rfl; (with_reducible repeat (first | refine blk_drewN ?_ _ | refine blk_drew ?_ | refine blk_alloc ?_ _)); refine blk_put (cs := #[.int .i64 52, .int .i64 0, .int .i64 0, .int .i64 0]) ?_ 1 _ rfl; (with_reducible repeat (first | refine blk_drewN ?_ _ | refine blk_drew ?_ | refine blk_alloc ?_ _)); refine blk_put (cs := #[.int .i64 0, .int .i64 0, .int .i64 0, .int .i64 0]) ?_ 0 _ rfl; (with_reducible repeat (first | refine blk_drewN ?_ _ | refine blk_drew ?_ | refine blk_alloc ?_ _)); exact BK144.out) Tryz.underlying95 rfl (by kernel_rfl)) rfl ?_
    exact ⟨by first | rfl | (simp [errW_none, errW_some] <;> rfl) | (simp [*, errW_none, errW_some] <;> rfl), by repeat (first | (with_reducible first | exact HB.out | apply below_alloc | apply pw_below_drewN | apply below_drew1 | refine below_set ?_ GE144.out) | exact HB.out)⟩
  · rw [if_neg c2] at H
    have c2b0 : (a0 == 64) = false := beq_eq_false_iff_ne.mpr c2
    have c2b1 : (a0 != 64) = true := bne_iff_ne.mpr c2
    by_cases c5 : a0 = 32
    · rw [if_pos c5] at H
      have c5b0 : (a0 == 32) = true := beq_iff_eq.mpr c5
      have c5b1 : (a0 != 32) = false := bne_eq_false_iff_eq.mpr c5
      clear c5
      simp only [Option.some.injEq, Prod.mk.injEq] at H
      obtain ⟨rfl, rfl, rfl, rfl, rfl⟩ := H
      go_enter Tryz.func49, Tryz.ntmps49
      go_wp2_with (first | ((with_reducible refine gate_dst (N := 2) rfl ?_); refine box_event ?hg (N := 2) ?hd (cs := #[.int .i64 0, .int .i64 0, .int .i64 0, .int .i64 0]) (t := 95) ?hr ?_; (case hd => rfl); (case hg => rfl); (case hr => first | (go_simp; done) | (go_simp; rfl)); intro gb144 hg w6 hbox hb; have n0_ := Aside0.mk (below_step (by repeat (first | (with_reducible first | exact HB.out | apply below_alloc | apply pw_below_drewN | apply below_drew1) | exact HB.out)) hb); have n1_ := Aside0.mk (hbox); have n2_ := Aside0.mk ((by rw [hg]; exact (below_size (by repeat (first | (with_reducible first | exact HB.out | apply below_alloc | apply pw_below_drewN | apply below_drew1) | exact HB.out))) : w.heap.size ≤ gb144)); have n3_ := Aside0.mk ((by rw [hg]; exact (below_size (by repeat (first | (with_reducible first | exact HB.out | apply below_alloc | apply pw_below_drewN | apply below_drew1) | exact HB.out))) : w.heap.size ≤ gb144)); clear HB; have HB := n0_; have BK144 := n1_; have GW144 := n2_; have GE144 := n3_; clear n0_ n1_ n2_ n3_; clear hb hbox hg; have hcz7_0 : w6.cell? ⟨gb144, 0, none⟩ = some (.int .i64 0) := (blk_cell BK144.out 0).trans rfl; have hcz7_1 : w6.cell? ⟨gb144, 1, none⟩ = some (.int .i64 0) := (blk_cell BK144.out 1).trans rfl; have hcz7_2 : w6.cell? ⟨gb144, 2, none⟩ = some (.int .i64 0) := (blk_cell BK144.out 2).trans rfl; have hcz7_3 : w6.cell? ⟨gb144, 3, none⟩ = some (.int .i64 0) := (blk_cell BK144.out 3).trans rfl; have hfz7_0 := blk_frozen BK144.out 0; have hfz7_1 := blk_frozen BK144.out 1; have hfz7_2 := blk_frozen BK144.out 2; have hfz7_3 := blk_frozen BK144.out 3))
      refine bodyPost_ret (results_ct rfl _ _ gb144 95 #[.int .i64 23, .int .i64 255, .int .i64 (-149), .int .i64 2147483648] (0, 0) _ rfl (by (with_reducible repeat (first | refine blk_drewN ?_ _ | refine blk_drew ?_ | refine blk_alloc ?_ _)); refine blk_put (cs := #[.int .i64 23, .int .i64 255, .int .i64 (-149), .int .i64 0]) ?_ 3 _ rfl; (with_reducible repeat (first | refine blk_drewN ?_ _ | refine blk_drew ?_ | refine blk_alloc ?_ _)); refine blk_put (cs := #[.int .i64 23, .int .i64 255, .int .i64 0, .int .i64 0]) ?_ 2 _ rfl; (with_reducible repeat (first | refine blk_drewN ?_ _ | refine blk_drew ?_ | refine blk_alloc ?_ _)); refine blk_put (cs := #[.int .i64 23, .int .i64 0, .int .i64 0, .int .i64 0]) ?_ 1 _ rfl; (with_reducible repeat (first | refine blk_drewN ?_ _ | refine blk_drew ?_ | refine blk_alloc ?_ _)); refine blk_put (cs := #[.int .i64 0, .int .i64 0, .int .i64 0, .int .i64 0]) ?_ 0 _ rfl; (with_reducible repeat (first | refine blk_drewN ?_ _ | refine blk_drew ?_ | refine blk_alloc ?_ _)); exact BK144.out) Tryz.underlying95 rfl (by kernel_rfl)) rfl ?_
      exact ⟨by first | rfl | (simp [errW_none, errW_some] <;> rfl) | (simp [*, errW_none, errW_some] <;> rfl), by repeat (first | (with_reducible first | exact HB.out | apply below_alloc | apply pw_below_drewN | apply below_drew1 | refine below_set ?_ GE144.out) | exact HB.out)⟩
    · rw [if_neg c5] at H
      have c5b0 : (a0 == 32) = false := beq_eq_false_iff_ne.mpr c5
      have c5b1 : (a0 != 32) = true := bne_iff_ne.mpr c5
      simp only [Option.some.injEq, Prod.mk.injEq] at H
      obtain ⟨rfl, rfl, rfl, rfl, rfl⟩ := H
      go_enter Tryz.func49, Tryz.ntmps49
      go_wp2_with (first | ((with_reducible refine gate_dst (N := 2) rfl ?_); refine box_event ?hg (N := 2) ?hd (cs := #[.int .i64 0, .int .i64 0, .int .i64 0, .int .i64 0]) (t := 95) ?hr ?_; (case hd => rfl); (case hg => rfl); (case hr => first | (go_simp; done) | (go_simp; rfl)); intro gb144 hg w8 hbox hb; have n0_ := Aside0.mk (below_step (by repeat (first | (with_reducible first | exact HB.out | apply below_alloc | apply pw_below_drewN | apply below_drew1) | exact HB.out)) hb); have n1_ := Aside0.mk (hbox); have n2_ := Aside0.mk ((by rw [hg]; exact (below_size (by repeat (first | (with_reducible first | exact HB.out | apply below_alloc | apply pw_below_drewN | apply below_drew1) | exact HB.out))) : w.heap.size ≤ gb144)); have n3_ := Aside0.mk ((by rw [hg]; exact (below_size (by repeat (first | (with_reducible first | exact HB.out | apply below_alloc | apply pw_below_drewN | apply below_drew1) | exact HB.out))) : w.heap.size ≤ gb144)); clear HB; have HB := n0_; have BK144 := n1_; have GW144 := n2_; have GE144 := n3_; clear n0_ n1_ n2_ n3_; clear hb hbox hg; have hcz9_0 : w8.cell? ⟨gb144, 0, none⟩ = some (.int .i64 0) := (blk_cell BK144.out 0).trans rfl; have hcz9_1 : w8.cell? ⟨gb144, 1, none⟩ = some (.int .i64 0) := (blk_cell BK144.out 1).trans rfl; have hcz9_2 : w8.cell? ⟨gb144, 2, none⟩ = some (.int .i64 0) := (blk_cell BK144.out 2).trans rfl; have hcz9_3 : w8.cell? ⟨gb144, 3, none⟩ = some (.int .i64 0) := (blk_cell BK144.out 3).trans rfl; have hfz9_0 := blk_frozen BK144.out 0; have hfz9_1 := blk_frozen BK144.out 1; have hfz9_2 := blk_frozen BK144.out 2; have hfz9_3 := blk_frozen BK144.out 3))
      refine bodyPost_ret (results_ct rfl _ _ gb144 95 #[.int .i64 0, .int .i64 0, .int .i64 0, .int .i64 0] (0, 0) _ rfl (by (with_reducible repeat (first | refine blk_drewN ?_ _ | refine blk_drew ?_ | refine blk_alloc ?_ _)); refine blk_put (cs := #[.int .i64 0, .int .i64 0, .int .i64 0, .int .i64 0]) ?_ 3 _ rfl; (with_reducible repeat (first | refine blk_drewN ?_ _ | refine blk_drew ?_ | refine blk_alloc ?_ _)); refine blk_put (cs := #[.int .i64 0, .int .i64 0, .int .i64 0, .int .i64 0]) ?_ 2 _ rfl; (with_reducible repeat (first | refine blk_drewN ?_ _ | refine blk_drew ?_ | refine blk_alloc ?_ _)); refine blk_put (cs := #[.int .i64 0, .int .i64 0, .int .i64 0, .int .i64 0]) ?_ 1 _ rfl; (with_reducible repeat (first | refine blk_drewN ?_ _ | refine blk_drew ?_ | refine blk_alloc ?_ _)); refine blk_put (cs := #[.int .i64 0, .int .i64 0, .int .i64 0, .int .i64 0]) ?_ 0 _ rfl; (with_reducible repeat (first | refine blk_drewN ?_ _ | refine blk_drew ?_ | refine blk_alloc ?_ _)); exact BK144.out) Tryz.underlying95 rfl (by kernel_rfl)) rfl ?_
      exact ⟨by first | rfl | (simp [errW_none, errW_some] <;> rfl) | (simp [*, errW_none, errW_some] <;> rfl), by repeat (first | (with_reducible first | exact HB.out | apply below_alloc | apply pw_below_drewN | apply below_drew1 | refine below_set ?_ GE144.out) | exact HB.out)⟩
attribute [local go_sem] max2_int min2_int max_two min_two max_three min_three max_four min_four   -- for this text's walks alone
set_option linter.unusedVariables false
set_option linter.unusedSimpArgs false
def bits_Valid.f (a0 : Int) (a1 : Int) : Option (Bool) := if a1 = 64 then (some true) else (if a1 = 32 then (some (a0 == ((a0) % 4294967296))) else (some false))
set_option maxHeartbeats 8000000 in
set_option maxRecDepth 100000 in
theorem bits_Valid.calls (a0 : Int) (a1 : Int) (r : Bool) (w : World) (h : bits_Valid.f a0 a1 = some r) :
    Calls Tryz.prog 50 #[.int .i64 a0, .int .i64 a1] w fun e w' => e = .returned (.bool r) ∧ Drawn0 w w' := by
  have H : (if a1 = 64 then (some true) else (if a1 = 32 then (some (a0 == ((a0) % 4294967296))) else (some false))) = some r := h
  clear h
  by_cases c3 : a1 = 64
  · rw [if_pos c3] at H
    have c3b0 : (a1 == 64) = true := beq_iff_eq.mpr c3
    have c3b1 : (a1 != 64) = false := bne_eq_false_iff_eq.mpr c3
    clear c3
    obtain rfl := Option.some.inj H
    go_enter Tryz.func50, Tryz.ntmps50
    go_wp2
    go_ret
    exact ⟨by first | rfl | (simp; done) | (simp [*]; done), by repeat (first | exact Drawn0.refl _ | apply Drawn0.step)⟩
  · rw [if_neg c3] at H
    have c3b0 : (a1 == 64) = false := beq_eq_false_iff_ne.mpr c3
    have c3b1 : (a1 != 64) = true := bne_iff_ne.mpr c3
    by_cases c4 : a1 = 32
    · rw [if_pos c4] at H
      have c4b0 : (a1 == 32) = true := beq_iff_eq.mpr c4
      have c4b1 : (a1 != 32) = false := bne_eq_false_iff_eq.mpr c4
      clear c4
      obtain rfl := Option.some.inj H
      go_enter Tryz.func50, Tryz.ntmps50
      go_wp2
      go_ret
      exact ⟨by first | rfl | (simp; done) | (simp [*]; done), by repeat (first | exact Drawn0.refl _ | apply Drawn0.step)⟩
    · rw [if_neg c4] at H
      have c4b0 : (a1 == 32) = false := beq_eq_false_iff_ne.mpr c4
      have c4b1 : (a1 != 32) = true := bne_iff_ne.mpr c4
      obtain rfl := Option.some.inj H
      go_enter Tryz.func50, Tryz.ntmps50
      go_wp2
      go_ret
      exact ⟨by first | rfl | (simp; done) | (simp [*]; done), by repeat (first | exact Drawn0.refl _ | apply Drawn0.step)⟩
end Go.Proofs.YtlfmgdpbjapdjaaGreatFmtBesafter.F
