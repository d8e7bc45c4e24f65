/- Part 15 of the walk: RndM ExR LawA LawB LawC LawD. -/
import Derived.Test.YtgbpglojbgicjaaGreatFmtPart11
import Derived.Test.YtgbpglojbgicjaaGreatFmtPart14
import Derived.Deep.DeepCutAuto
import Derived.Lib.AppendZerosOnto
import Derived.Maps.AppendAt
import Derived.StillTailTactics
namespace Go.Proofs.YtgbpglojbgicjaaGreatFmt
open Go.RowKit Go.Proofs.YtgbpglojbgicjaaGreatFmtW.PrintWords Go.Proofs.YtgbpglojbgicjaaGreatFmtW.PrintLast
def Fl64 (z e : Int) (v : Nat) : Prop := ∀ k : Nat, BLen (Int.natAbs (2 * z)) k → k ≤ 64 ∧ -1073 ≤ k + (e - 1) ∧ k + (e - 1) ≤ 1024 ∧ (Int.natAbs (2 * z) * 2 ^ (64 - k) : Int) % 2 ^ kk64 (k + (e - 1)) = 0 ∧ (v : Int) = sg (decide (2 * z < 0)) + (Int.natAbs (2 * z) * 2 ^ (64 - k) : Int) / 2 ^ kk64 (k + (e - 1)) + (max (k + (e - 1) - 53) (-1074) + 1074) * 4503599627370496
def Fl32 (z e : Int) (v : Nat) : Prop := ∀ k : Nat, BLen (Int.natAbs (2 * z)) k → k ≤ 64 ∧ -148 ≤ k + (e - 1) ∧ k + (e - 1) ≤ 128 ∧ (Int.natAbs (2 * z) * 2 ^ (64 - k) : Int) % 2 ^ kk32 (k + (e - 1)) = 0 ∧ (v : Int) = sg2 (decide (2 * z < 0)) + (Int.natAbs (2 * z) * 2 ^ (64 - k) : Int) / 2 ^ kk32 (k + (e - 1)) + (max (k + (e - 1) - 24) (-149) + 149) * 8388608
theorem sign_neg (z : Int) : decide (z.sign < 0) = decide (z < 0) := by
  rw [decide_eq_decide]
  exact Int.sign_neg_iff
theorem Tryz.bits32 (n : Nat) (w : World) : (callFunc 53 #[.float .f32 n]).run Tryz.prog w = .ok (.value (.int .u32 n)) w := by
  rw [run_callFunc_extern (e := Extern.MathFloatBits.float32bits) Tryz.func53 (by kernel_rfl) (by kernel_rfl) (by kernel_rfl) (by kernel_rfl)]
  rfl
attribute [go_sem] Tryz.bits32
set_option maxRecDepth 100000 in
set_option maxHeartbeats 400000 in
theorem of32_num (n : Nat) (w : World) (h : (FloatKind.f32.format.order n n != some .eq) = false) :
    Calls Tryz.prog 24 #[.float .f32 n] w fun e w' => e = .returned (.int .i64 (wrap64 n)) ∧ w = w' := by
  go_enter Tryz.func24, Tryz.ntmps24
  go_wp2
  go_ret
  exact ⟨rfl, rfl⟩
set_option linter.unusedVariables false in
set_option linter.unusedSimpArgs false in
set_option maxRecDepth 100000 in
set_option maxHeartbeats 8000000 in
theorem to_z64 (gq : Nat) (oq : Option Nat) (e : Int) (v fid : Nat) (cn : Int) (w : World) (hq : IsInt w gq oq 0) (he0 : -2000000 ≤ e) (he1 : e ≤ 2000000) (hv : v = 0) (hcan : F.bits_Canon.f 2 (wrap64 v) 64 = some cn) :
    Calls Tryz.prog 47 #[.agg #[.pointer (some ⟨gq, 0, none⟩), .int .i64 e, .bool false], .int .i64 64, .agg #[.func (.func fid) #[] #[]]] w fun en w' => en = .returned (.tuple #[.int .i64 cn, .bool false]) ∧ Only w w' (fun _ => False) := by
  obtain ⟨wA, hwA, h1, hoA, hsA⟩ : ∃ wA, wA = ((w.alloc (.cells #[.pointer (some ⟨gq, 0, none⟩), .int .i64 e, .bool false] 51)).alloc (.cells #[.func (.func fid) #[] #[]] 91)) ∧ wA.heap[w.heap.size]? = some (.cells #[.pointer (some ⟨gq, 0, none⟩), .int .i64 e, .bool false] 51 (0, 0)) ∧ Only w wA (fun _ => False) ∧ w.heap.size + 1 < wA.heap.size :=
    ⟨_, rfl, heap_two' w _ _, ((Only.refl w (fun _ => False)).alloc _).alloc _, by simp⟩
  have hqA := hq.only hoA (fun h => h) (fun _ _ h => h)
  obtain ⟨wB, hwB, hA, hB, hoB⟩ : ∃ wB, wB = (wA.alloc (.cells #[.bool false, .slice none 0 0] 70)).alloc (.cells #[.bool false, .slice none 0 0] 70) ∧ IsInt wB wA.heap.size none 0 ∧ IsInt wB (wA.heap.size + 1) none 0 ∧ Only wA wB (fun _ => False) :=
    ⟨_, rfl, (isInt_alloc wA).alloc_ _, by simpa using isInt_alloc (wA.alloc (.cells #[.bool false, .slice none 0 0] 70)), ((Only.refl wA (fun _ => False)).alloc _).alloc _⟩
  have hbx : ∀ W, Only wA W (fun _ => False) → W.cell? ⟨w.heap.size, 0, none⟩ = some (.pointer (some ⟨gq, 0, none⟩)) ∧ W.cell? ⟨w.heap.size, 1, none⟩ = some (.int .i64 e) ∧ W.cell? ⟨w.heap.size, 2, none⟩ = some (.bool false) := fun W hW => by
    have a := (hW.kept _ (blk_lt h1) (fun h => h)).trans h1
    exact ⟨blk_cell a 0, blk_cell a 1, blk_cell a 2⟩
  have HBX := Lib.hid hbx
  have hFq : Fits ((Int.natAbs 0 : Nat) : Int) := Fits.of (k := 60) (by decide) (by decide)
  have HQ := Lib.hid (And.intro hqA hFq)
  have HO := Lib.hid hoA
  have hlq : gq < wA.heap.size := hqA.lt
  have HLQ := Lib.hid hlq
  have HSA := Lib.hid hsA
  have hew : IntKind.i64.wrap (e - 1) = e - 1 := by rw [IntKind.wrap_i64]; omega
  have hm : min (max (e - 1) (-4194304)) 4194304 = e - 1 := by omega
  have HC := Lib.hid hcan
  clear hbx hqA hFq hoA hlq hsA h1 hq hcan 
  go_enter Tryz.func47, Tryz.ntmps47
  go_upto_region 1 with (fail)
  rw [← hwA]
  clear hwA
  obtain ⟨c0, c1, c2⟩ := HBX.out _ (((Only.refl wA (fun _ => False)).alloc (.cells #[.bool false, .slice none 0 0] 70)).alloc (.cells #[.bool false, .slice none 0 0] 70))
  go_wp2_with fail
  rw [← hwB]
  clear hwB c0 c1 c2
  refine (abs_int (wA.heap.size + 1) gq none oq 0 0 wB hB (HQ.out.1.only hoB (fun h => h) (fun _ _ h => h)) HQ.out.2 (by have := HLQ.out; omega)).mono ?_
  rintro en wC ⟨rfl, hP⟩
  have hAC : IsInt wC wA.heap.size none 0 := by
    obtain ⟨_, _, ho, _⟩ := hP
    exact hA.keep hB ho (by omega) (fun b h => by cases h)
  obtain ⟨⟨oB, hBC, _, _⟩, hoC⟩ := New.put (B := wA.heap.size) rfl hoB (Nat.le_succ _) (fun b h => by cases h) hP
  clear hP hA hB hoB
  obtain ⟨c0, c1, c2⟩ := HBX.out wC hoC
  go_wp2_with fail
  refine (lsh_int wA.heap.size (wA.heap.size + 1) none oB 0 (Int.natAbs 0) 1 wC hAC hBC (by simpa using HQ.out.2) (by decide) (by decide)).mono ?_
  rintro en wD ⟨rfl, hP⟩
  obtain ⟨⟨oA, hAD, _, hoAb⟩, hoD⟩ := New.put (B := wA.heap.size) rfl hoC (Nat.le_refl _) (fun b h => by cases h) hP
  clear hP hBC hAC hoC c0 c1 c2
  obtain ⟨c0, c1, c2⟩ := HBX.out wD hoD
  go_upto_region 4 with (fail)
  go_wp2_with fail
  refine (sign_int gq oq 0 wD (HQ.out.1.only hoD (fun h => h) (fun _ _ h => h))).mono ?_
  rintro en w' ⟨rfl, hw⟩
  rw [hw]
  clear hw w'
  have hoF := hoD
  have hAF : IsInt wD wA.heap.size oA 0 := hAD
  clear hAD
  go_wp2_with fail
  refine (setInt_zero wD.heap.size wA.heap.size oA _ (heap_alloc_new wD _) (hAF.alloc_ _)).mono ?_
  rintro en wH ⟨rfl, hfH, hoG⟩
  have hoH : Only wA wH (fun _ => False) := (hoF.alloc _).step hoG (by rintro i hi rfl; have := hoF.base.size; omega)
  clear hAF hoG c0 c1 c2
  obtain ⟨c0, c1, c2⟩ := HBX.out wH hoH
  go_wp2_with fail
  refine (setMantExp_zero wD.heap.size _ _ _ (e - 1) _ _ wH hfH).mono ?_
  rintro en w' ⟨rfl, hw⟩
  rw [hw]
  clear hw w'
  go_wp2_with fail
  refine (float64_zero wD.heap.size _ _ _ _ wH hfH).mono ?_
  rintro en w' ⟨rfl, hw⟩
  rw [hw]
  clear hw w' hfH
  have HOJ := Lib.hid hoH
  subst hv
  have hcan := HC.out
  have ho0 : (FloatKind.f64.format.order 0 0 != some .eq) = false := by decide +kernel
  go_wp2_with fail
  refine (of_num 0 wH ho0).mono ?_
  rintro en w' ⟨rfl, hw⟩
  rw [← hw]
  clear hw w'
  have hw0 : wrap64 ((0 : Nat) : Int) = 0 := by decide +kernel
  have HB2 : Hid (∀ W, Only wH W (fun _ => False) → W.cell? ⟨w.heap.size, 2, none⟩ = some (.bool false)) := Lib.hid (fun W hW => (HBX.out _ (HOJ.out.trans hW)).2.2)
  clear HBX
  go_upto_region 16 with (fail)
  refine start_ (S := (fun W => Only wH W (fun _ => False))) (ds := ([] : List Nat)) #[false, false, false, false, false, false, false, false, false, false, false] (by kernel_rfl) rfl rfl ?_ (fun hHeld => ?_)
  · exact (Only.refl wH _).drew
  generalize wH.drew = W1 at *
  refine pure_ (i := 0) (oi := ?o0) (v := ?v0) #[true, false, false, false, false, false, false, false, false, false, false] ?h0 rfl (by kernel_rfl) ?q0 (Or.inl ⟨?w0, ?y0⟩) rfl ?r0
  case h0 => (simp only [List.getElem?_toArray, List.getElem?_cons_succ, List.getElem?_cons_zero]; rfl)
  case q0 => exact fun _ _ _ h => h
  case w0 => rfl
  case y0 => (intro W; go_simp; first | done | with_reducible rfl)
  simp only [Act.put, List.setIfInBounds_toArray, List.set_cons_zero, List.set_cons_succ]
  refine pure_ (i := 1) (oi := ?o1) (v := ?v1) #[true, true, false, false, false, false, false, false, false, false, false] ?h1 rfl (by kernel_rfl) ?q1 (Or.inl ⟨?w1, ?y1⟩) rfl ?r1
  case h1 => (simp only [List.getElem?_toArray, List.getElem?_cons_succ, List.getElem?_cons_zero]; rfl)
  case q1 => exact fun _ _ _ h => h
  case w1 => rfl
  case y1 => (intro W; go_simp; first | done | with_reducible rfl)
  simp only [Act.put, List.setIfInBounds_toArray, List.set_cons_zero, List.set_cons_succ]
  refine pure_ (i := 3) (oi := ?o2) (v := ?v2) #[true, true, false, true, false, false, false, false, false, false, false] ?h2 rfl (by kernel_rfl) ?q2 (Or.inl ⟨?w2, ?y2⟩) rfl ?r2
  case h2 => (simp only [List.getElem?_toArray, List.getElem?_cons_succ, List.getElem?_cons_zero]; rfl)
  case q2 => exact fun _ _ _ h => h
  case w2 => rfl
  case y2 => (intro W; go_simp; first | done | with_reducible rfl)
  simp only [Act.put, List.setIfInBounds_toArray, List.set_cons_zero, List.set_cons_succ]
  refine pure_ (i := 4) (oi := ?o3) (v := ?v3) #[true, true, false, true, true, false, false, false, false, false, false] ?h3 rfl (by kernel_rfl) ?q3 (Or.inl ⟨?w3, ?y3⟩) rfl ?r3
  case h3 => (simp only [List.getElem?_toArray, List.getElem?_cons_succ, List.getElem?_cons_zero]; rfl)
  case q3 => exact fun _ _ _ h => h
  case w3 => rfl
  case y3 => (intro W; go_simp; first | done | with_reducible rfl)
  simp only [Act.put, List.setIfInBounds_toArray, List.set_cons_zero, List.set_cons_succ]
  refine wpAnyLast_ready (rs := [2]) (by kernel_rfl) (by simp) ?_
  refine AllReadyL.cons (o := ?o4) ?h4 (by simp) (fun K hK => ?s4) ?m4
  case h4 => (simp only [List.getElem?_toArray, List.getElem?_cons_succ, List.getElem?_cons_zero]; rfl)
  case m4 => exact AllReadyL.nil
  go_simp
  go_at_call 8
  refine (F.bits_Canon.calls 2 _ _ _ W1 hcan).mono ?_
  rintro en W2 ⟨rfl, ho⟩
  replace ho := Only.of_below ho
  refine hK.out _ _ (hHeld.trans ho) (fun hHeldN => ?_)
  clear hK K hHeld ho
  have hHeld := hHeldN
  clear hHeldN
  simp only [Act.put, List.setIfInBounds_toArray, List.set_cons_zero, List.set_cons_succ]
  refine pure_ (i := 5) (oi := ?o5) (v := ?v5) #[true, true, true, true, true, true, false, false, false, false, false] ?h5 rfl (by kernel_rfl) ?q5 (Or.inl ⟨?w5, ?y5⟩) rfl ?r5
  case h5 => (simp only [List.getElem?_toArray, List.getElem?_cons_succ, List.getElem?_cons_zero]; rfl)
  case q5 => exact fun _ _ _ h => h
  case w5 => rfl
  case y5 => (intro W; go_simp; first | done | with_reducible rfl)
  simp only [Act.put, List.setIfInBounds_toArray, List.set_cons_zero, List.set_cons_succ]
  refine pure_ (i := 6) (oi := ?o6) (v := ?v6) #[true, true, true, true, true, true, true, false, false, false, false] ?h6 rfl (by kernel_rfl) ?q6 (Or.inl ⟨?w6, ?y6⟩) rfl ?r6
  case h6 => (simp only [List.getElem?_toArray, List.getElem?_cons_succ, List.getElem?_cons_zero]; rfl)
  case q6 => exact fun _ _ _ h => h
  case w6 => rfl
  case y6 => (intro W; go_simp; first | done | with_reducible rfl)
  simp only [Act.put, List.setIfInBounds_toArray, List.set_cons_zero, List.set_cons_succ]
  refine pure_ (i := 9) (oi := ?o7) (v := ?v7) #[true, true, true, true, true, true, true, false, false, true, false] ?h7 rfl (by kernel_rfl) ?q7 (Or.inl ⟨?w7, ?y7⟩) rfl ?r7
  case h7 => (simp only [List.getElem?_toArray, List.getElem?_cons_succ, List.getElem?_cons_zero]; rfl)
  case q7 => exact fun _ _ _ h => h
  case w7 => rfl
  case y7 => (intro W; go_simp; first | done | with_reducible rfl)
  simp only [Act.put, List.setIfInBounds_toArray, List.set_cons_zero, List.set_cons_succ]
  refine wpAnyLast_take (i := 7) (oi := ?o8) (v := ?v8) ?h8 (by kernel_rfl) (by kernel_rfl) (by kernel_rfl) (by kernel_rfl) (by kernel_rfl) ?q8 (Or.inl ⟨?w8, ?y8⟩) hHeld ?r8
  case h8 => (simp only [List.getElem?_toArray, List.getElem?_cons_succ, List.getElem?_cons_zero]; rfl)
  case q8 => exact fun _ _ _ h => h
  case w8 => rfl
  case y8 => (intro W hSw; have q7 := HB2.out _ hSw; go_simp; first | done | with_reducible rfl)
  simp only [Act.put, List.setIfInBounds_toArray, List.set_cons_zero, List.set_cons_succ]
  refine pure_ (i := 8) (oi := ?o9) (v := ?v9) #[true, true, true, true, true, true, true, true, true, true, false] ?h9 rfl (by kernel_rfl) ?q9 (Or.inl ⟨?w9, ?y9⟩) rfl ?r9
  case h9 => (simp only [List.getElem?_toArray, List.getElem?_cons_succ, List.getElem?_cons_zero]; rfl)
  case q9 => exact fun _ _ _ h => h
  case w9 => rfl
  case y9 => (intro W; go_simp; first | done | with_reducible rfl)
  simp only [Act.put, List.setIfInBounds_toArray, List.set_cons_zero, List.set_cons_succ]
  refine pure_ (i := 10) (oi := ?o10) (v := ?v10) #[true, true, true, true, true, true, true, true, true, true, true] ?h10 rfl (by kernel_rfl) ?q10 (Or.inl ⟨?w10, ?y10⟩) rfl ?r10
  case h10 => (simp only [List.getElem?_toArray, List.getElem?_cons_succ, List.getElem?_cons_zero]; rfl)
  case q10 => exact fun _ _ _ h => h
  case w10 => rfl
  case y10 => (intro W; go_simp; first | done | with_reducible rfl)
  simp only [Act.put, List.setIfInBounds_toArray, List.set_cons_zero, List.set_cons_succ]
  refine done_ (by kernel_rfl) ?_
  go_wp2_with fail
  go_ret2
  exact ⟨rfl, (HO.out.trans HOJ.out).trans hHeld⟩
set_option linter.unusedVariables false in
set_option linter.unusedSimpArgs false in
set_option maxRecDepth 100000 in
set_option maxHeartbeats 8000000 in
theorem to_z32 (gq : Nat) (oq : Option Nat) (e : Int) (v fid : Nat) (cn : Int) (w : World) (hq : IsInt w gq oq 0) (he0 : -2000000 ≤ e) (he1 : e ≤ 2000000) (hv : v = 0) (hcan : F.bits_Canon.f 2 (wrap64 v) 32 = some cn) :
    Calls Tryz.prog 47 #[.agg #[.pointer (some ⟨gq, 0, none⟩), .int .i64 e, .bool false], .int .i64 32, .agg #[.func (.func fid) #[] #[]]] w fun en w' => en = .returned (.tuple #[.int .i64 cn, .bool false]) ∧ Only w w' (fun _ => False) := by
  obtain ⟨wA, hwA, h1, hoA, hsA⟩ : ∃ wA, wA = ((w.alloc (.cells #[.pointer (some ⟨gq, 0, none⟩), .int .i64 e, .bool false] 51)).alloc (.cells #[.func (.func fid) #[] #[]] 91)) ∧ wA.heap[w.heap.size]? = some (.cells #[.pointer (some ⟨gq, 0, none⟩), .int .i64 e, .bool false] 51 (0, 0)) ∧ Only w wA (fun _ => False) ∧ w.heap.size + 1 < wA.heap.size :=
    ⟨_, rfl, heap_two' w _ _, ((Only.refl w (fun _ => False)).alloc _).alloc _, by simp⟩
  have hqA := hq.only hoA (fun h => h) (fun _ _ h => h)
  obtain ⟨wB, hwB, hA, hB, hoB⟩ : ∃ wB, wB = (wA.alloc (.cells #[.bool false, .slice none 0 0] 70)).alloc (.cells #[.bool false, .slice none 0 0] 70) ∧ IsInt wB wA.heap.size none 0 ∧ IsInt wB (wA.heap.size + 1) none 0 ∧ Only wA wB (fun _ => False) :=
    ⟨_, rfl, (isInt_alloc wA).alloc_ _, by simpa using isInt_alloc (wA.alloc (.cells #[.bool false, .slice none 0 0] 70)), ((Only.refl wA (fun _ => False)).alloc _).alloc _⟩
  have hbx : ∀ W, Only wA W (fun _ => False) → W.cell? ⟨w.heap.size, 0, none⟩ = some (.pointer (some ⟨gq, 0, none⟩)) ∧ W.cell? ⟨w.heap.size, 1, none⟩ = some (.int .i64 e) ∧ W.cell? ⟨w.heap.size, 2, none⟩ = some (.bool false) := fun W hW => by
    have a := (hW.kept _ (blk_lt h1) (fun h => h)).trans h1
    exact ⟨blk_cell a 0, blk_cell a 1, blk_cell a 2⟩
  have HBX := Lib.hid hbx
  have hFq : Fits ((Int.natAbs 0 : Nat) : Int) := Fits.of (k := 60) (by decide) (by decide)
  have HQ := Lib.hid (And.intro hqA hFq)
  have HO := Lib.hid hoA
  have hlq : gq < wA.heap.size := hqA.lt
  have HLQ := Lib.hid hlq
  have HSA := Lib.hid hsA
  have hew : IntKind.i64.wrap (e - 1) = e - 1 := by rw [IntKind.wrap_i64]; omega
  have hm : min (max (e - 1) (-4194304)) 4194304 = e - 1 := by omega
  have HC := Lib.hid hcan
  clear hbx hqA hFq hoA hlq hsA h1 hq hcan 
  go_enter Tryz.func47, Tryz.ntmps47
  go_upto_region 1 with (fail)
  rw [← hwA]
  clear hwA
  obtain ⟨c0, c1, c2⟩ := HBX.out _ (((Only.refl wA (fun _ => False)).alloc (.cells #[.bool false, .slice none 0 0] 70)).alloc (.cells #[.bool false, .slice none 0 0] 70))
  go_wp2_with fail
  rw [← hwB]
  clear hwB c0 c1 c2
  refine (abs_int (wA.heap.size + 1) gq none oq 0 0 wB hB (HQ.out.1.only hoB (fun h => h) (fun _ _ h => h)) HQ.out.2 (by have := HLQ.out; omega)).mono ?_
  rintro en wC ⟨rfl, hP⟩
  have hAC : IsInt wC wA.heap.size none 0 := by
    obtain ⟨_, _, ho, _⟩ := hP
    exact hA.keep hB ho (by omega) (fun b h => by cases h)
  obtain ⟨⟨oB, hBC, _, _⟩, hoC⟩ := New.put (B := wA.heap.size) rfl hoB (Nat.le_succ _) (fun b h => by cases h) hP
  clear hP hA hB hoB
  obtain ⟨c0, c1, c2⟩ := HBX.out wC hoC
  go_wp2_with fail
  refine (lsh_int wA.heap.size (wA.heap.size + 1) none oB 0 (Int.natAbs 0) 1 wC hAC hBC (by simpa using HQ.out.2) (by decide) (by decide)).mono ?_
  rintro en wD ⟨rfl, hP⟩
  obtain ⟨⟨oA, hAD, _, hoAb⟩, hoD⟩ := New.put (B := wA.heap.size) rfl hoC (Nat.le_refl _) (fun b h => by cases h) hP
  clear hP hBC hAC hoC c0 c1 c2
  obtain ⟨c0, c1, c2⟩ := HBX.out wD hoD
  go_upto_region 4 with (fail)
  go_wp2_with fail
  refine (sign_int gq oq 0 wD (HQ.out.1.only hoD (fun h => h) (fun _ _ h => h))).mono ?_
  rintro en w' ⟨rfl, hw⟩
  rw [hw]
  clear hw w'
  have hoF := hoD
  have hAF : IsInt wD wA.heap.size oA 0 := hAD
  clear hAD
  go_wp2_with fail
  refine (setInt_zero wD.heap.size wA.heap.size oA _ (heap_alloc_new wD _) (hAF.alloc_ _)).mono ?_
  rintro en wH ⟨rfl, hfH, hoG⟩
  have hoH : Only wA wH (fun _ => False) := (hoF.alloc _).step hoG (by rintro i hi rfl; have := hoF.base.size; omega)
  clear hAF hoG c0 c1 c2
  obtain ⟨c0, c1, c2⟩ := HBX.out wH hoH
  go_wp2_with fail
  refine (setMantExp_zero wD.heap.size _ _ _ (e - 1) _ _ wH hfH).mono ?_
  rintro en w' ⟨rfl, hw⟩
  rw [hw]
  clear hw w'
  go_wp2_with fail
  refine (float32_zero wD.heap.size _ _ _ _ wH hfH).mono ?_
  rintro en w' ⟨rfl, hw⟩
  rw [hw]
  clear hw w' hfH
  have HOJ := Lib.hid hoH
  subst hv
  have hcan := HC.out
  have ho0 : (FloatKind.f32.format.order 0 0 != some .eq) = false := by decide +kernel
  go_wp2_with fail
  refine (of32_num 0 wH ho0).mono ?_
  rintro en w' ⟨rfl, hw⟩
  rw [← hw]
  clear hw w'
  have hw0 : wrap64 ((0 : Nat) : Int) = 0 := by decide +kernel
  have HB2 : Hid (∀ W, Only wH W (fun _ => False) → W.cell? ⟨w.heap.size, 2, none⟩ = some (.bool false)) := Lib.hid (fun W hW => (HBX.out _ (HOJ.out.trans hW)).2.2)
  clear HBX
  go_upto_region 16 with (fail)
  refine start_ (S := (fun W => Only wH W (fun _ => False))) (ds := ([] : List Nat)) #[false, false, false, false, false, false, false, false, false, false, false] (by kernel_rfl) rfl rfl ?_ (fun hHeld => ?_)
  · exact (Only.refl wH _).drew
  generalize wH.drew = W1 at *
  refine pure_ (i := 0) (oi := ?o0) (v := ?v0) #[true, false, false, false, false, false, false, false, false, false, false] ?h0 rfl (by kernel_rfl) ?q0 (Or.inl ⟨?w0, ?y0⟩) rfl ?r0
  case h0 => (simp only [List.getElem?_toArray, List.getElem?_cons_succ, List.getElem?_cons_zero]; rfl)
  case q0 => exact fun _ _ _ h => h
  case w0 => rfl
  case y0 => (intro W; go_simp; first | done | with_reducible rfl)
  simp only [Act.put, List.setIfInBounds_toArray, List.set_cons_zero, List.set_cons_succ]
  refine pure_ (i := 1) (oi := ?o1) (v := ?v1) #[true, true, false, false, false, false, false, false, false, false, false] ?h1 rfl (by kernel_rfl) ?q1 (Or.inl ⟨?w1, ?y1⟩) rfl ?r1
  case h1 => (simp only [List.getElem?_toArray, List.getElem?_cons_succ, List.getElem?_cons_zero]; rfl)
  case q1 => exact fun _ _ _ h => h
  case w1 => rfl
  case y1 => (intro W; go_simp; first | done | with_reducible rfl)
  simp only [Act.put, List.setIfInBounds_toArray, List.set_cons_zero, List.set_cons_succ]
  refine pure_ (i := 3) (oi := ?o2) (v := ?v2) #[true, true, false, true, false, false, false, false, false, false, false] ?h2 rfl (by kernel_rfl) ?q2 (Or.inl ⟨?w2, ?y2⟩) rfl ?r2
  case h2 => (simp only [List.getElem?_toArray, List.getElem?_cons_succ, List.getElem?_cons_zero]; rfl)
  case q2 => exact fun _ _ _ h => h
  case w2 => rfl
  case y2 => (intro W; go_simp; first | done | with_reducible rfl)
  simp only [Act.put, List.setIfInBounds_toArray, List.set_cons_zero, List.set_cons_succ]
  refine pure_ (i := 4) (oi := ?o3) (v := ?v3) #[true, true, false, true, true, false, false, false, false, false, false] ?h3 rfl (by kernel_rfl) ?q3 (Or.inl ⟨?w3, ?y3⟩) rfl ?r3
  case h3 => (simp only [List.getElem?_toArray, List.getElem?_cons_succ, List.getElem?_cons_zero]; rfl)
  case q3 => exact fun _ _ _ h => h
  case w3 => rfl
  case y3 => (intro W; go_simp; first | done | with_reducible rfl)
  simp only [Act.put, List.setIfInBounds_toArray, List.set_cons_zero, List.set_cons_succ]
  refine wpAnyLast_ready (rs := [2]) (by kernel_rfl) (by simp) ?_
  refine AllReadyL.cons (o := ?o4) ?h4 (by simp) (fun K hK => ?s4) ?m4
  case h4 => (simp only [List.getElem?_toArray, List.getElem?_cons_succ, List.getElem?_cons_zero]; rfl)
  case m4 => exact AllReadyL.nil
  go_simp
  go_at_call 8
  refine (F.bits_Canon.calls 2 _ _ _ W1 hcan).mono ?_
  rintro en W2 ⟨rfl, ho⟩
  replace ho := Only.of_below ho
  refine hK.out _ _ (hHeld.trans ho) (fun hHeldN => ?_)
  clear hK K hHeld ho
  have hHeld := hHeldN
  clear hHeldN
  simp only [Act.put, List.setIfInBounds_toArray, List.set_cons_zero, List.set_cons_succ]
  refine pure_ (i := 5) (oi := ?o5) (v := ?v5) #[true, true, true, true, true, true, false, false, false, false, false] ?h5 rfl (by kernel_rfl) ?q5 (Or.inl ⟨?w5, ?y5⟩) rfl ?r5
  case h5 => (simp only [List.getElem?_toArray, List.getElem?_cons_succ, List.getElem?_cons_zero]; rfl)
  case q5 => exact fun _ _ _ h => h
  case w5 => rfl
  case y5 => (intro W; go_simp; first | done | with_reducible rfl)
  simp only [Act.put, List.setIfInBounds_toArray, List.set_cons_zero, List.set_cons_succ]
  refine pure_ (i := 6) (oi := ?o6) (v := ?v6) #[true, true, true, true, true, true, true, false, false, false, false] ?h6 rfl (by kernel_rfl) ?q6 (Or.inl ⟨?w6, ?y6⟩) rfl ?r6
  case h6 => (simp only [List.getElem?_toArray, List.getElem?_cons_succ, List.getElem?_cons_zero]; rfl)
  case q6 => exact fun _ _ _ h => h
  case w6 => rfl
  case y6 => (intro W; go_simp; first | done | with_reducible rfl)
  simp only [Act.put, List.setIfInBounds_toArray, List.set_cons_zero, List.set_cons_succ]
  refine pure_ (i := 9) (oi := ?o7) (v := ?v7) #[true, true, true, true, true, true, true, false, false, true, false] ?h7 rfl (by kernel_rfl) ?q7 (Or.inl ⟨?w7, ?y7⟩) rfl ?r7
  case h7 => (simp only [List.getElem?_toArray, List.getElem?_cons_succ, List.getElem?_cons_zero]; rfl)
  case q7 => exact fun _ _ _ h => h
  case w7 => rfl
  case y7 => (intro W; go_simp; first | done | with_reducible rfl)
  simp only [Act.put, List.setIfInBounds_toArray, List.set_cons_zero, List.set_cons_succ]
  refine wpAnyLast_take (i := 7) (oi := ?o8) (v := ?v8) ?h8 (by kernel_rfl) (by kernel_rfl) (by kernel_rfl) (by kernel_rfl) (by kernel_rfl) ?q8 (Or.inl ⟨?w8, ?y8⟩) hHeld ?r8
  case h8 => (simp only [List.getElem?_toArray, List.getElem?_cons_succ, List.getElem?_cons_zero]; rfl)
  case q8 => exact fun _ _ _ h => h
  case w8 => rfl
  case y8 => (intro W hSw; have q7 := HB2.out _ hSw; go_simp; first | done | with_reducible rfl)
  simp only [Act.put, List.setIfInBounds_toArray, List.set_cons_zero, List.set_cons_succ]
  refine pure_ (i := 8) (oi := ?o9) (v := ?v9) #[true, true, true, true, true, true, true, true, true, true, false] ?h9 rfl (by kernel_rfl) ?q9 (Or.inl ⟨?w9, ?y9⟩) rfl ?r9
  case h9 => (simp only [List.getElem?_toArray, List.getElem?_cons_succ, List.getElem?_cons_zero]; rfl)
  case q9 => exact fun _ _ _ h => h
  case w9 => rfl
  case y9 => (intro W; go_simp; first | done | with_reducible rfl)
  simp only [Act.put, List.setIfInBounds_toArray, List.set_cons_zero, List.set_cons_succ]
  refine pure_ (i := 10) (oi := ?o10) (v := ?v10) #[true, true, true, true, true, true, true, true, true, true, true] ?h10 rfl (by kernel_rfl) ?q10 (Or.inl ⟨?w10, ?y10⟩) rfl ?r10
  case h10 => (simp only [List.getElem?_toArray, List.getElem?_cons_succ, List.getElem?_cons_zero]; rfl)
  case q10 => exact fun _ _ _ h => h
  case w10 => rfl
  case y10 => (intro W; go_simp; first | done | with_reducible rfl)
  simp only [Act.put, List.setIfInBounds_toArray, List.set_cons_zero, List.set_cons_succ]
  refine done_ (by kernel_rfl) ?_
  go_wp2_with fail
  go_ret2
  exact ⟨rfl, (HO.out.trans HOJ.out).trans hHeld⟩
set_option linter.unusedVariables false in
set_option linter.unusedSimpArgs false in
set_option maxRecDepth 100000 in
set_option maxHeartbeats 8000000 in
theorem to_x64 (gq : Nat) (oq : Option Nat) (z e : Int) (v fid : Nat) (cn : Int) (w : World) (hq : IsInt w gq oq z) (he0 : -2000000 ≤ e) (he1 : e ≤ 2000000) (hz : z ≠ 0) (hzb : Int.natAbs z < 1152921504606846976) (hfl : Fl64 z e v) (hord : (FloatKind.f64.format.order v v != some .eq) = false) (hcan : F.bits_Canon.f 2 (wrap64 v) 64 = some cn) :
    Calls Tryz.prog 47 #[.agg #[.pointer (some ⟨gq, 0, none⟩), .int .i64 e, .bool false], .int .i64 64, .agg #[.func (.func fid) #[] #[]]] w fun en w' => en = .returned (.tuple #[.int .i64 cn, .bool false]) ∧ Only w w' (fun _ => False) := by
  obtain ⟨wA, hwA, h1, hoA, hsA⟩ : ∃ wA, wA = ((w.alloc (.cells #[.pointer (some ⟨gq, 0, none⟩), .int .i64 e, .bool false] 51)).alloc (.cells #[.func (.func fid) #[] #[]] 91)) ∧ wA.heap[w.heap.size]? = some (.cells #[.pointer (some ⟨gq, 0, none⟩), .int .i64 e, .bool false] 51 (0, 0)) ∧ Only w wA (fun _ => False) ∧ w.heap.size + 1 < wA.heap.size :=
    ⟨_, rfl, heap_two' w _ _, ((Only.refl w (fun _ => False)).alloc _).alloc _, by simp⟩
  have hqA := hq.only hoA (fun h => h) (fun _ _ h => h)
  obtain ⟨wB, hwB, hA, hB, hoB⟩ : ∃ wB, wB = (wA.alloc (.cells #[.bool false, .slice none 0 0] 70)).alloc (.cells #[.bool false, .slice none 0 0] 70) ∧ IsInt wB wA.heap.size none 0 ∧ IsInt wB (wA.heap.size + 1) none 0 ∧ Only wA wB (fun _ => False) :=
    ⟨_, rfl, (isInt_alloc wA).alloc_ _, by simpa using isInt_alloc (wA.alloc (.cells #[.bool false, .slice none 0 0] 70)), ((Only.refl wA (fun _ => False)).alloc _).alloc _⟩
  have hbx : ∀ W, Only wA W (fun _ => False) → W.cell? ⟨w.heap.size, 0, none⟩ = some (.pointer (some ⟨gq, 0, none⟩)) ∧ W.cell? ⟨w.heap.size, 1, none⟩ = some (.int .i64 e) ∧ W.cell? ⟨w.heap.size, 2, none⟩ = some (.bool false) := fun W hW => by
    have a := (hW.kept _ (blk_lt h1) (fun h => h)).trans h1
    exact ⟨blk_cell a 0, blk_cell a 1, blk_cell a 2⟩
  have HBX := Lib.hid hbx
  have hFq : Fits ((Int.natAbs z : Nat) : Int) := Fits.of (k := 60) (by rw [show (2 : Int) ^ 60 = 1152921504606846976 by decide]; omega) (by decide)
  have HQ := Lib.hid (And.intro hqA hFq)
  have HO := Lib.hid hoA
  have hlq : gq < wA.heap.size := hqA.lt
  have HLQ := Lib.hid hlq
  have HSA := Lib.hid hsA
  have hew : IntKind.i64.wrap (e - 1) = e - 1 := by rw [IntKind.wrap_i64]; omega
  have hm : min (max (e - 1) (-4194304)) 4194304 = e - 1 := by omega
  have HC := Lib.hid hcan
  have HFL := Lib.hid (And.intro hfl hord)
  clear hbx hqA hFq hoA hlq hsA h1 hq hcan hfl hord
  go_enter Tryz.func47, Tryz.ntmps47
  go_upto_region 1 with (fail)
  rw [← hwA]
  clear hwA
  obtain ⟨c0, c1, c2⟩ := HBX.out _ (((Only.refl wA (fun _ => False)).alloc (.cells #[.bool false, .slice none 0 0] 70)).alloc (.cells #[.bool false, .slice none 0 0] 70))
  go_wp2_with fail
  rw [← hwB]
  clear hwB c0 c1 c2
  refine (abs_int (wA.heap.size + 1) gq none oq 0 z wB hB (HQ.out.1.only hoB (fun h => h) (fun _ _ h => h)) HQ.out.2 (by have := HLQ.out; omega)).mono ?_
  rintro en wC ⟨rfl, hP⟩
  have hAC : IsInt wC wA.heap.size none 0 := by
    obtain ⟨_, _, ho, _⟩ := hP
    exact hA.keep hB ho (by omega) (fun b h => by cases h)
  obtain ⟨⟨oB, hBC, _, _⟩, hoC⟩ := New.put (B := wA.heap.size) rfl hoB (Nat.le_succ _) (fun b h => by cases h) hP
  clear hP hA hB hoB
  obtain ⟨c0, c1, c2⟩ := HBX.out wC hoC
  go_wp2_with fail
  refine (lsh_int wA.heap.size (wA.heap.size + 1) none oB 0 (Int.natAbs z) 1 wC hAC hBC (by simpa using HQ.out.2) (by decide) (by decide)).mono ?_
  rintro en wD ⟨rfl, hP⟩
  obtain ⟨⟨oA, hAD, _, hoAb⟩, hoD⟩ := New.put (B := wA.heap.size) rfl hoC (Nat.le_refl _) (fun b h => by cases h) hP
  clear hP hBC hAC hoC c0 c1 c2
  obtain ⟨c0, c1, c2⟩ := HBX.out wD hoD
  go_upto_region 4 with (fail)
  go_wp2_with fail
  refine (sign_int gq oq z wD (HQ.out.1.only hoD (fun h => h) (fun _ _ h => h))).mono ?_
  rintro en w' ⟨rfl, hw⟩
  rw [hw]
  clear hw w'
  have hsd := sign_neg z
  go_upto_if 33 with (fail)
  go_cut [] (fun wx => Only wA wx (fun _ => False) ∧ ∃ o, IsInt wx wA.heap.size o (2 * z))
  case first =>
    by_cases hneg : z < 0
    · have hsd2 : decide (z < 0) = true := by rw [decide_eq_true_eq]; exact hneg
      go_wp2_with fail
      refine (neg_int wA.heap.size oA _ wD hAD).mono ?_
      rintro en wF ⟨rfl, hP⟩
      obtain ⟨⟨oF, hAF, _, _⟩, hoF⟩ := New.put (B := wA.heap.size) rfl hoD (Nat.le_refl _) hoAb hP
      go_wp2_with fail
      go_meet
      exact ⟨hoF, oF, by rw [show 2 * z = -(((Int.natAbs z : Nat) : Int) * 2 ^ 1) by omega]; exact hAF⟩
    · have hsd2 : decide (z < 0) = false := by rw [decide_eq_false_iff_not]; exact hneg
      go_wp2_with fail
      go_meet
      exact ⟨hoD, oA, by rw [show 2 * z = ((Int.natAbs z : Nat) : Int) * 2 ^ 1 by omega]; exact hAD⟩
  case rest =>
  obtain ⟨hoF, oF, hAF⟩ := hcut
  clear hoD hAD hoAb c0 c1 c2 hsd
  go_wp2_with fail
  refine (setInt_any wc.heap.size wA.heap.size oF (2 * z) _ (heap_alloc_new wc _) (hAF.alloc_ _) (by omega) (Fits.of (k := 62) (by rw [show (2 : Int) ^ 62 = 4611686018427387904 by decide]; omega) (by decide))).mono ?_
  rintro en wH ⟨rfl, ⟨b, c, m, k, ys, hfH, hbH, hmant, hwhole, hbl, hk0, hk2, hkm, hkm2, hnum, hbb⟩, hoG⟩
  obtain ⟨hk64, hE0, hE1, hex, hvv⟩ := HFL.out.1 k hbl
  obtain rfl : m = 1 := by have := hmant.1; omega
  have hT : ys.getD 0 0 = (Int.natAbs (2 * z) : Int) * 2 ^ (64 - k) := by
    have : num (fun i => ys.getD i 0) 1 = ys.getD 0 0 := by simp [num]
    rw [← this]; exact hnum
  rw [Int.add_zero] at hfH
  have hsF := hoF.base.size
  have hbb2 : wA.heap.size ≤ b := by simp at hbb; omega
  have hoH : Only wA wH (fun _ => False) := (hoF.alloc _).step hoG (by rintro i hi rfl; omega)
  have HN := Lib.hid (And.intro hT (And.intro hex (And.intro hvv (And.intro hmant hwhole))))
  obtain ⟨p, hp⟩ : ∃ p, p = max k 64 := ⟨_, rfl⟩
  have hpr : 64 ≤ p ∧ p < 4294967296 := by omega
  rw [← hp] at hfH
  have HP := Lib.hid hp
  clear hAF hoG hbb hT hex hvv hmant hwhole hnum hbl hp
  obtain ⟨c0, c1, c2⟩ := HBX.out wH hoH
  go_wp2_with fail
  refine (setMantExp_any wc.heap.size b c 1 p ys 0 k (e - 1) _ wH hfH hbH HN.out.2.2.2.1 (by rw [HP.out]; exact HN.out.2.2.2.2) (by omega) (by omega) (by omega) (by omega)).mono ?_
  rintro en wI ⟨rfl, hfI, hbI, hoI0⟩
  have hoI : Only wA wI (fun _ => False) := hoH.step hoI0 (by rintro i hi (rfl | rfl) <;> omega)
  clear hfH hbH hoI0 c0 c1 c2 hm hoH hoF
  go_wp2_with fail
  refine (float64_exact wc.heap.size b c p ys (k + (e - 1)) _ _ wI hfI hbI HN.out.2.2.2.1 hpr.1 hpr.2 HN.out.1 hE0 hE1 HN.out.2.1).mono ?_
  rintro en wJ ⟨v', rfl, hoJ0, hv'⟩
  obtain rfl : v' = v := by have := HN.out.2.2.1; omega
  have hoJ := hoI.trans hoJ0
  have HOJ := Lib.hid hoJ
  clear hfI hbI hoJ0 hoI hsF hbb2 hv'
  have hcan := HC.out
  go_wp2_with fail
  refine (of_num v' wJ HFL.out.2).mono ?_
  rintro en w' ⟨rfl, hw⟩
  rw [← hw]
  clear hw w'
  have HB2 : Hid (∀ W, Only wJ W (fun _ => False) → W.cell? ⟨w.heap.size, 2, none⟩ = some (.bool false)) := Lib.hid (fun W hW => (HBX.out _ (HOJ.out.trans hW)).2.2)
  clear HBX
  go_upto_region 16 with (fail)
  refine start_ (S := (fun W => Only wJ W (fun _ => False))) (ds := ([] : List Nat)) #[false, false, false, false, false, false, false, false, false, false, false] (by kernel_rfl) rfl rfl ?_ (fun hHeld => ?_)
  · exact (Only.refl wJ _).drew
  generalize wJ.drew = W1 at *
  refine pure_ (i := 0) (oi := ?o0) (v := ?v0) #[true, false, false, false, false, false, false, false, false, false, false] ?h0 rfl (by kernel_rfl) ?q0 (Or.inl ⟨?w0, ?y0⟩) rfl ?r0
  case h0 => (simp only [List.getElem?_toArray, List.getElem?_cons_succ, List.getElem?_cons_zero]; rfl)
  case q0 => exact fun _ _ _ h => h
  case w0 => rfl
  case y0 => (intro W; go_simp; first | done | with_reducible rfl)
  simp only [Act.put, List.setIfInBounds_toArray, List.set_cons_zero, List.set_cons_succ]
  refine pure_ (i := 1) (oi := ?o1) (v := ?v1) #[true, true, false, false, false, false, false, false, false, false, false] ?h1 rfl (by kernel_rfl) ?q1 (Or.inl ⟨?w1, ?y1⟩) rfl ?r1
  case h1 => (simp only [List.getElem?_toArray, List.getElem?_cons_succ, List.getElem?_cons_zero]; rfl)
  case q1 => exact fun _ _ _ h => h
  case w1 => rfl
  case y1 => (intro W; go_simp; first | done | with_reducible rfl)
  simp only [Act.put, List.setIfInBounds_toArray, List.set_cons_zero, List.set_cons_succ]
  refine pure_ (i := 3) (oi := ?o2) (v := ?v2) #[true, true, false, true, false, false, false, false, false, false, false] ?h2 rfl (by kernel_rfl) ?q2 (Or.inl ⟨?w2, ?y2⟩) rfl ?r2
  case h2 => (simp only [List.getElem?_toArray, List.getElem?_cons_succ, List.getElem?_cons_zero]; rfl)
  case q2 => exact fun _ _ _ h => h
  case w2 => rfl
  case y2 => (intro W; go_simp; first | done | with_reducible rfl)
  simp only [Act.put, List.setIfInBounds_toArray, List.set_cons_zero, List.set_cons_succ]
  refine pure_ (i := 4) (oi := ?o3) (v := ?v3) #[true, true, false, true, true, false, false, false, false, false, false] ?h3 rfl (by kernel_rfl) ?q3 (Or.inl ⟨?w3, ?y3⟩) rfl ?r3
  case h3 => (simp only [List.getElem?_toArray, List.getElem?_cons_succ, List.getElem?_cons_zero]; rfl)
  case q3 => exact fun _ _ _ h => h
  case w3 => rfl
  case y3 => (intro W; go_simp; first | done | with_reducible rfl)
  simp only [Act.put, List.setIfInBounds_toArray, List.set_cons_zero, List.set_cons_succ]
  refine wpAnyLast_ready (rs := [2]) (by kernel_rfl) (by simp) ?_
  refine AllReadyL.cons (o := ?o4) ?h4 (by simp) (fun K hK => ?s4) ?m4
  case h4 => (simp only [List.getElem?_toArray, List.getElem?_cons_succ, List.getElem?_cons_zero]; rfl)
  case m4 => exact AllReadyL.nil
  go_simp
  go_at_call 8
  refine (F.bits_Canon.calls 2 _ _ _ W1 hcan).mono ?_
  rintro en W2 ⟨rfl, ho⟩
  replace ho := Only.of_below ho
  refine hK.out _ _ (hHeld.trans ho) (fun hHeldN => ?_)
  clear hK K hHeld ho
  have hHeld := hHeldN
  clear hHeldN
  simp only [Act.put, List.setIfInBounds_toArray, List.set_cons_zero, List.set_cons_succ]
  refine pure_ (i := 5) (oi := ?o5) (v := ?v5) #[true, true, true, true, true, true, false, false, false, false, false] ?h5 rfl (by kernel_rfl) ?q5 (Or.inl ⟨?w5, ?y5⟩) rfl ?r5
  case h5 => (simp only [List.getElem?_toArray, List.getElem?_cons_succ, List.getElem?_cons_zero]; rfl)
  case q5 => exact fun _ _ _ h => h
  case w5 => rfl
  case y5 => (intro W; go_simp; first | done | with_reducible rfl)
  simp only [Act.put, List.setIfInBounds_toArray, List.set_cons_zero, List.set_cons_succ]
  refine pure_ (i := 6) (oi := ?o6) (v := ?v6) #[true, true, true, true, true, true, true, false, false, false, false] ?h6 rfl (by kernel_rfl) ?q6 (Or.inl ⟨?w6, ?y6⟩) rfl ?r6
  case h6 => (simp only [List.getElem?_toArray, List.getElem?_cons_succ, List.getElem?_cons_zero]; rfl)
  case q6 => exact fun _ _ _ h => h
  case w6 => rfl
  case y6 => (intro W; go_simp; first | done | with_reducible rfl)
  simp only [Act.put, List.setIfInBounds_toArray, List.set_cons_zero, List.set_cons_succ]
  refine pure_ (i := 9) (oi := ?o7) (v := ?v7) #[true, true, true, true, true, true, true, false, false, true, false] ?h7 rfl (by kernel_rfl) ?q7 (Or.inl ⟨?w7, ?y7⟩) rfl ?r7
  case h7 => (simp only [List.getElem?_toArray, List.getElem?_cons_succ, List.getElem?_cons_zero]; rfl)
  case q7 => exact fun _ _ _ h => h
  case w7 => rfl
  case y7 => (intro W; go_simp; first | done | with_reducible rfl)
  simp only [Act.put, List.setIfInBounds_toArray, List.set_cons_zero, List.set_cons_succ]
  refine wpAnyLast_take (i := 7) (oi := ?o8) (v := ?v8) ?h8 (by kernel_rfl) (by kernel_rfl) (by kernel_rfl) (by kernel_rfl) (by kernel_rfl) ?q8 (Or.inl ⟨?w8, ?y8⟩) hHeld ?r8
  case h8 => (simp only [List.getElem?_toArray, List.getElem?_cons_succ, List.getElem?_cons_zero]; rfl)
  case q8 => exact fun _ _ _ h => h
  case w8 => rfl
  case y8 => (intro W hSw; have q7 := HB2.out _ hSw; go_simp; first | done | with_reducible rfl)
  simp only [Act.put, List.setIfInBounds_toArray, List.set_cons_zero, List.set_cons_succ]
  refine pure_ (i := 8) (oi := ?o9) (v := ?v9) #[true, true, true, true, true, true, true, true, true, true, false] ?h9 rfl (by kernel_rfl) ?q9 (Or.inl ⟨?w9, ?y9⟩) rfl ?r9
  case h9 => (simp only [List.getElem?_toArray, List.getElem?_cons_succ, List.getElem?_cons_zero]; rfl)
  case q9 => exact fun _ _ _ h => h
  case w9 => rfl
  case y9 => (intro W; go_simp; first | done | with_reducible rfl)
  simp only [Act.put, List.setIfInBounds_toArray, List.set_cons_zero, List.set_cons_succ]
  refine pure_ (i := 10) (oi := ?o10) (v := ?v10) #[true, true, true, true, true, true, true, true, true, true, true] ?h10 rfl (by kernel_rfl) ?q10 (Or.inl ⟨?w10, ?y10⟩) rfl ?r10
  case h10 => (simp only [List.getElem?_toArray, List.getElem?_cons_succ, List.getElem?_cons_zero]; rfl)
  case q10 => exact fun _ _ _ h => h
  case w10 => rfl
  case y10 => (intro W; go_simp; first | done | with_reducible rfl)
  simp only [Act.put, List.setIfInBounds_toArray, List.set_cons_zero, List.set_cons_succ]
  refine done_ (by kernel_rfl) ?_
  go_wp2_with fail
  go_ret2
  exact ⟨rfl, (HO.out.trans HOJ.out).trans hHeld⟩
set_option linter.unusedVariables false in
set_option linter.unusedSimpArgs false in
set_option maxRecDepth 100000 in
set_option maxHeartbeats 8000000 in
theorem to_x32 (gq : Nat) (oq : Option Nat) (z e : Int) (v fid : Nat) (cn : Int) (w : World) (hq : IsInt w gq oq z) (he0 : -2000000 ≤ e) (he1 : e ≤ 2000000) (hz : z ≠ 0) (hzb : Int.natAbs z < 1152921504606846976) (hfl : Fl32 z e v) (hord : (FloatKind.f32.format.order v v != some .eq) = false) (hcan : F.bits_Canon.f 2 (wrap64 v) 32 = some cn) :
    Calls Tryz.prog 47 #[.agg #[.pointer (some ⟨gq, 0, none⟩), .int .i64 e, .bool false], .int .i64 32, .agg #[.func (.func fid) #[] #[]]] w fun en w' => en = .returned (.tuple #[.int .i64 cn, .bool false]) ∧ Only w w' (fun _ => False) := by
  obtain ⟨wA, hwA, h1, hoA, hsA⟩ : ∃ wA, wA = ((w.alloc (.cells #[.pointer (some ⟨gq, 0, none⟩), .int .i64 e, .bool false] 51)).alloc (.cells #[.func (.func fid) #[] #[]] 91)) ∧ wA.heap[w.heap.size]? = some (.cells #[.pointer (some ⟨gq, 0, none⟩), .int .i64 e, .bool false] 51 (0, 0)) ∧ Only w wA (fun _ => False) ∧ w.heap.size + 1 < wA.heap.size :=
    ⟨_, rfl, heap_two' w _ _, ((Only.refl w (fun _ => False)).alloc _).alloc _, by simp⟩
  have hqA := hq.only hoA (fun h => h) (fun _ _ h => h)
  obtain ⟨wB, hwB, hA, hB, hoB⟩ : ∃ wB, wB = (wA.alloc (.cells #[.bool false, .slice none 0 0] 70)).alloc (.cells #[.bool false, .slice none 0 0] 70) ∧ IsInt wB wA.heap.size none 0 ∧ IsInt wB (wA.heap.size + 1) none 0 ∧ Only wA wB (fun _ => False) :=
    ⟨_, rfl, (isInt_alloc wA).alloc_ _, by simpa using isInt_alloc (wA.alloc (.cells #[.bool false, .slice none 0 0] 70)), ((Only.refl wA (fun _ => False)).alloc _).alloc _⟩
  have hbx : ∀ W, Only wA W (fun _ => False) → W.cell? ⟨w.heap.size, 0, none⟩ = some (.pointer (some ⟨gq, 0, none⟩)) ∧ W.cell? ⟨w.heap.size, 1, none⟩ = some (.int .i64 e) ∧ W.cell? ⟨w.heap.size, 2, none⟩ = some (.bool false) := fun W hW => by
    have a := (hW.kept _ (blk_lt h1) (fun h => h)).trans h1
    exact ⟨blk_cell a 0, blk_cell a 1, blk_cell a 2⟩
  have HBX := Lib.hid hbx
  have hFq : Fits ((Int.natAbs z : Nat) : Int) := Fits.of (k := 60) (by rw [show (2 : Int) ^ 60 = 1152921504606846976 by decide]; omega) (by decide)
  have HQ := Lib.hid (And.intro hqA hFq)
  have HO := Lib.hid hoA
  have hlq : gq < wA.heap.size := hqA.lt
  have HLQ := Lib.hid hlq
  have HSA := Lib.hid hsA
  have hew : IntKind.i64.wrap (e - 1) = e - 1 := by rw [IntKind.wrap_i64]; omega
  have hm : min (max (e - 1) (-4194304)) 4194304 = e - 1 := by omega
  have HC := Lib.hid hcan
  have HFL := Lib.hid (And.intro hfl hord)
  clear hbx hqA hFq hoA hlq hsA h1 hq hcan hfl hord
  go_enter Tryz.func47, Tryz.ntmps47
  go_upto_region 1 with (fail)
  rw [← hwA]
  clear hwA
  obtain ⟨c0, c1, c2⟩ := HBX.out _ (((Only.refl wA (fun _ => False)).alloc (.cells #[.bool false, .slice none 0 0] 70)).alloc (.cells #[.bool false, .slice none 0 0] 70))
  go_wp2_with fail
  rw [← hwB]
  clear hwB c0 c1 c2
  refine (abs_int (wA.heap.size + 1) gq none oq 0 z wB hB (HQ.out.1.only hoB (fun h => h) (fun _ _ h => h)) HQ.out.2 (by have := HLQ.out; omega)).mono ?_
  rintro en wC ⟨rfl, hP⟩
  have hAC : IsInt wC wA.heap.size none 0 := by
    obtain ⟨_, _, ho, _⟩ := hP
    exact hA.keep hB ho (by omega) (fun b h => by cases h)
  obtain ⟨⟨oB, hBC, _, _⟩, hoC⟩ := New.put (B := wA.heap.size) rfl hoB (Nat.le_succ _) (fun b h => by cases h) hP
  clear hP hA hB hoB
  obtain ⟨c0, c1, c2⟩ := HBX.out wC hoC
  go_wp2_with fail
  refine (lsh_int wA.heap.size (wA.heap.size + 1) none oB 0 (Int.natAbs z) 1 wC hAC hBC (by simpa using HQ.out.2) (by decide) (by decide)).mono ?_
  rintro en wD ⟨rfl, hP⟩
  obtain ⟨⟨oA, hAD, _, hoAb⟩, hoD⟩ := New.put (B := wA.heap.size) rfl hoC (Nat.le_refl _) (fun b h => by cases h) hP
  clear hP hBC hAC hoC c0 c1 c2
  obtain ⟨c0, c1, c2⟩ := HBX.out wD hoD
  go_upto_region 4 with (fail)
  go_wp2_with fail
  refine (sign_int gq oq z wD (HQ.out.1.only hoD (fun h => h) (fun _ _ h => h))).mono ?_
  rintro en w' ⟨rfl, hw⟩
  rw [hw]
  clear hw w'
  have hsd := sign_neg z
  go_upto_if 33 with (fail)
  go_cut [] (fun wx => Only wA wx (fun _ => False) ∧ ∃ o, IsInt wx wA.heap.size o (2 * z))
  case first =>
    by_cases hneg : z < 0
    · have hsd2 : decide (z < 0) = true := by rw [decide_eq_true_eq]; exact hneg
      go_wp2_with fail
      refine (neg_int wA.heap.size oA _ wD hAD).mono ?_
      rintro en wF ⟨rfl, hP⟩
      obtain ⟨⟨oF, hAF, _, _⟩, hoF⟩ := New.put (B := wA.heap.size) rfl hoD (Nat.le_refl _) hoAb hP
      go_wp2_with fail
      go_meet
      exact ⟨hoF, oF, by rw [show 2 * z = -(((Int.natAbs z : Nat) : Int) * 2 ^ 1) by omega]; exact hAF⟩
    · have hsd2 : decide (z < 0) = false := by rw [decide_eq_false_iff_not]; exact hneg
      go_wp2_with fail
      go_meet
      exact ⟨hoD, oA, by rw [show 2 * z = ((Int.natAbs z : Nat) : Int) * 2 ^ 1 by omega]; exact hAD⟩
  case rest =>
  obtain ⟨hoF, oF, hAF⟩ := hcut
  clear hoD hAD hoAb c0 c1 c2 hsd
  go_wp2_with fail
  refine (setInt_any wc.heap.size wA.heap.size oF (2 * z) _ (heap_alloc_new wc _) (hAF.alloc_ _) (by omega) (Fits.of (k := 62) (by rw [show (2 : Int) ^ 62 = 4611686018427387904 by decide]; omega) (by decide))).mono ?_
  rintro en wH ⟨rfl, ⟨b, c, m, k, ys, hfH, hbH, hmant, hwhole, hbl, hk0, hk2, hkm, hkm2, hnum, hbb⟩, hoG⟩
  obtain ⟨hk64, hE0, hE1, hex, hvv⟩ := HFL.out.1 k hbl
  obtain rfl : m = 1 := by have := hmant.1; omega
  have hT : ys.getD 0 0 = (Int.natAbs (2 * z) : Int) * 2 ^ (64 - k) := by
    have : num (fun i => ys.getD i 0) 1 = ys.getD 0 0 := by simp [num]
    rw [← this]; exact hnum
  rw [Int.add_zero] at hfH
  have hsF := hoF.base.size
  have hbb2 : wA.heap.size ≤ b := by simp at hbb; omega
  have hoH : Only wA wH (fun _ => False) := (hoF.alloc _).step hoG (by rintro i hi rfl; omega)
  have HN := Lib.hid (And.intro hT (And.intro hex (And.intro hvv (And.intro hmant hwhole))))
  obtain ⟨p, hp⟩ : ∃ p, p = max k 64 := ⟨_, rfl⟩
  have hpr : 64 ≤ p ∧ p < 4294967296 := by omega
  rw [← hp] at hfH
  have HP := Lib.hid hp
  clear hAF hoG hbb hT hex hvv hmant hwhole hnum hbl hp
  obtain ⟨c0, c1, c2⟩ := HBX.out wH hoH
  go_wp2_with fail
  refine (setMantExp_any wc.heap.size b c 1 p ys 0 k (e - 1) _ wH hfH hbH HN.out.2.2.2.1 (by rw [HP.out]; exact HN.out.2.2.2.2) (by omega) (by omega) (by omega) (by omega)).mono ?_
  rintro en wI ⟨rfl, hfI, hbI, hoI0⟩
  have hoI : Only wA wI (fun _ => False) := hoH.step hoI0 (by rintro i hi (rfl | rfl) <;> omega)
  clear hfH hbH hoI0 c0 c1 c2 hm hoH hoF
  go_wp2_with fail
  refine (float32_exact wc.heap.size b c p ys (k + (e - 1)) _ _ wI hfI hbI HN.out.2.2.2.1 hpr.1 hpr.2 HN.out.1 hE0 hE1 HN.out.2.1).mono ?_
  rintro en wJ ⟨v', rfl, hoJ0, hv'⟩
  obtain rfl : v' = v := by have := HN.out.2.2.1; omega
  have hoJ := hoI.trans hoJ0
  have HOJ := Lib.hid hoJ
  clear hfI hbI hoJ0 hoI hsF hbb2 hv'
  have hcan := HC.out
  go_wp2_with fail
  refine (of32_num v' wJ HFL.out.2).mono ?_
  rintro en w' ⟨rfl, hw⟩
  rw [← hw]
  clear hw w'
  have HB2 : Hid (∀ W, Only wJ W (fun _ => False) → W.cell? ⟨w.heap.size, 2, none⟩ = some (.bool false)) := Lib.hid (fun W hW => (HBX.out _ (HOJ.out.trans hW)).2.2)
  clear HBX
  go_upto_region 16 with (fail)
  refine start_ (S := (fun W => Only wJ W (fun _ => False))) (ds := ([] : List Nat)) #[false, false, false, false, false, false, false, false, false, false, false] (by kernel_rfl) rfl rfl ?_ (fun hHeld => ?_)
  · exact (Only.refl wJ _).drew
  generalize wJ.drew = W1 at *
  refine pure_ (i := 0) (oi := ?o0) (v := ?v0) #[true, false, false, false, false, false, false, false, false, false, false] ?h0 rfl (by kernel_rfl) ?q0 (Or.inl ⟨?w0, ?y0⟩) rfl ?r0
  case h0 => (simp only [List.getElem?_toArray, List.getElem?_cons_succ, List.getElem?_cons_zero]; rfl)
  case q0 => exact fun _ _ _ h => h
  case w0 => rfl
  case y0 => (intro W; go_simp; first | done | with_reducible rfl)
  simp only [Act.put, List.setIfInBounds_toArray, List.set_cons_zero, List.set_cons_succ]
  refine pure_ (i := 1) (oi := ?o1) (v := ?v1) #[true, true, false, false, false, false, false, false, false, false, false] ?h1 rfl (by kernel_rfl) ?q1 (Or.inl ⟨?w1, ?y1⟩) rfl ?r1
  case h1 => (simp only [List.getElem?_toArray, List.getElem?_cons_succ, List.getElem?_cons_zero]; rfl)
  case q1 => exact fun _ _ _ h => h
  case w1 => rfl
  case y1 => (intro W; go_simp; first | done | with_reducible rfl)
  simp only [Act.put, List.setIfInBounds_toArray, List.set_cons_zero, List.set_cons_succ]
  refine pure_ (i := 3) (oi := ?o2) (v := ?v2) #[true, true, false, true, false, false, false, false, false, false, false] ?h2 rfl (by kernel_rfl) ?q2 (Or.inl ⟨?w2, ?y2⟩) rfl ?r2
  case h2 => (simp only [List.getElem?_toArray, List.getElem?_cons_succ, List.getElem?_cons_zero]; rfl)
  case q2 => exact fun _ _ _ h => h
  case w2 => rfl
  case y2 => (intro W; go_simp; first | done | with_reducible rfl)
  simp only [Act.put, List.setIfInBounds_toArray, List.set_cons_zero, List.set_cons_succ]
  refine pure_ (i := 4) (oi := ?o3) (v := ?v3) #[true, true, false, true, true, false, false, false, false, false, false] ?h3 rfl (by kernel_rfl) ?q3 (Or.inl ⟨?w3, ?y3⟩) rfl ?r3
  case h3 => (simp only [List.getElem?_toArray, List.getElem?_cons_succ, List.getElem?_cons_zero]; rfl)
  case q3 => exact fun _ _ _ h => h
  case w3 => rfl
  case y3 => (intro W; go_simp; first | done | with_reducible rfl)
  simp only [Act.put, List.setIfInBounds_toArray, List.set_cons_zero, List.set_cons_succ]
  refine wpAnyLast_ready (rs := [2]) (by kernel_rfl) (by simp) ?_
  refine AllReadyL.cons (o := ?o4) ?h4 (by simp) (fun K hK => ?s4) ?m4
  case h4 => (simp only [List.getElem?_toArray, List.getElem?_cons_succ, List.getElem?_cons_zero]; rfl)
  case m4 => exact AllReadyL.nil
  go_simp
  go_at_call 8
  refine (F.bits_Canon.calls 2 _ _ _ W1 hcan).mono ?_
  rintro en W2 ⟨rfl, ho⟩
  replace ho := Only.of_below ho
  refine hK.out _ _ (hHeld.trans ho) (fun hHeldN => ?_)
  clear hK K hHeld ho
  have hHeld := hHeldN
  clear hHeldN
  simp only [Act.put, List.setIfInBounds_toArray, List.set_cons_zero, List.set_cons_succ]
  refine pure_ (i := 5) (oi := ?o5) (v := ?v5) #[true, true, true, true, true, true, false, false, false, false, false] ?h5 rfl (by kernel_rfl) ?q5 (Or.inl ⟨?w5, ?y5⟩) rfl ?r5
  case h5 => (simp only [List.getElem?_toArray, List.getElem?_cons_succ, List.getElem?_cons_zero]; rfl)
  case q5 => exact fun _ _ _ h => h
  case w5 => rfl
  case y5 => (intro W; go_simp; first | done | with_reducible rfl)
  simp only [Act.put, List.setIfInBounds_toArray, List.set_cons_zero, List.set_cons_succ]
  refine pure_ (i := 6) (oi := ?o6) (v := ?v6) #[true, true, true, true, true, true, true, false, false, false, false] ?h6 rfl (by kernel_rfl) ?q6 (Or.inl ⟨?w6, ?y6⟩) rfl ?r6
  case h6 => (simp only [List.getElem?_toArray, List.getElem?_cons_succ, List.getElem?_cons_zero]; rfl)
  case q6 => exact fun _ _ _ h => h
  case w6 => rfl
  case y6 => (intro W; go_simp; first | done | with_reducible rfl)
  simp only [Act.put, List.setIfInBounds_toArray, List.set_cons_zero, List.set_cons_succ]
  refine pure_ (i := 9) (oi := ?o7) (v := ?v7) #[true, true, true, true, true, true, true, false, false, true, false] ?h7 rfl (by kernel_rfl) ?q7 (Or.inl ⟨?w7, ?y7⟩) rfl ?r7
  case h7 => (simp only [List.getElem?_toArray, List.getElem?_cons_succ, List.getElem?_cons_zero]; rfl)
  case q7 => exact fun _ _ _ h => h
  case w7 => rfl
  case y7 => (intro W; go_simp; first | done | with_reducible rfl)
  simp only [Act.put, List.setIfInBounds_toArray, List.set_cons_zero, List.set_cons_succ]
  refine wpAnyLast_take (i := 7) (oi := ?o8) (v := ?v8) ?h8 (by kernel_rfl) (by kernel_rfl) (by kernel_rfl) (by kernel_rfl) (by kernel_rfl) ?q8 (Or.inl ⟨?w8, ?y8⟩) hHeld ?r8
  case h8 => (simp only [List.getElem?_toArray, List.getElem?_cons_succ, List.getElem?_cons_zero]; rfl)
  case q8 => exact fun _ _ _ h => h
  case w8 => rfl
  case y8 => (intro W hSw; have q7 := HB2.out _ hSw; go_simp; first | done | with_reducible rfl)
  simp only [Act.put, List.setIfInBounds_toArray, List.set_cons_zero, List.set_cons_succ]
  refine pure_ (i := 8) (oi := ?o9) (v := ?v9) #[true, true, true, true, true, true, true, true, true, true, false] ?h9 rfl (by kernel_rfl) ?q9 (Or.inl ⟨?w9, ?y9⟩) rfl ?r9
  case h9 => (simp only [List.getElem?_toArray, List.getElem?_cons_succ, List.getElem?_cons_zero]; rfl)
  case q9 => exact fun _ _ _ h => h
  case w9 => rfl
  case y9 => (intro W; go_simp; first | done | with_reducible rfl)
  simp only [Act.put, List.setIfInBounds_toArray, List.set_cons_zero, List.set_cons_succ]
  refine pure_ (i := 10) (oi := ?o10) (v := ?v10) #[true, true, true, true, true, true, true, true, true, true, true] ?h10 rfl (by kernel_rfl) ?q10 (Or.inl ⟨?w10, ?y10⟩) rfl ?r10
  case h10 => (simp only [List.getElem?_toArray, List.getElem?_cons_succ, List.getElem?_cons_zero]; rfl)
  case q10 => exact fun _ _ _ h => h
  case w10 => rfl
  case y10 => (intro W; go_simp; first | done | with_reducible rfl)
  simp only [Act.put, List.setIfInBounds_toArray, List.set_cons_zero, List.set_cons_succ]
  refine done_ (by kernel_rfl) ?_
  go_wp2_with fail
  go_ret2
  exact ⟨rfl, (HO.out.trans HOJ.out).trans hHeld⟩
end Go.Proofs.YtgbpglojbgicjaaGreatFmt
namespace Go.Proofs.YtgbpglojbgicjaaGreatFmt
open Go.RowKit Go.Proofs.YtgbpglojbgicjaaGreatFmtW.PrintWords
theorem way_first (f1 f2 f3 : Value) (w : World) : (Instr.index 92 (.agg #[f1, f2, f3]) (.int .i64 0)).run Tryz.prog w = .ok (.agg #[f1]) w := by
  have h : (Tryz.prog.info? 91).map (fun i => i.size) = some 1 := by kernel_rfl
  obtain ⟨j, hj, h2⟩ := Option.map_eq_some_iff.1 h
  simp [Instr.index, asIntOf, run_underlying Tryz.underlying92, part, sizeOf, typeInfo, hj, h2]
theorem results_round {fn : Func} {p r q : Tmp} (h : fn.results = #[.tmp p, .tmp r, .cell q 25]) (tmps : Array Value) (w : World) (E : Nat) (a b : Value) (n : Int)
    (hp : tmps.getD p undef = a) (hr : tmps.getD r undef = b) (hq : tmps.getD q undef = .pointer (some ⟨E, 0, none⟩)) (hv : w.cell? ⟨E, 0, none⟩ = some (.int .i64 n)) :
    (results fn tmps).run Tryz.prog w = .ok (.tuple #[a, b, .int .i64 n]) w := by
  have hp' : tmps[p]?.getD undef = a := by simpa using hp
  have hr' : tmps[r]?.getD undef = b := by simpa using hr
  have hq' : tmps[q]?.getD undef = .pointer (some ⟨E, 0, none⟩) := by simpa using hq
  simp [results, h, hp', hr', hq', asAddr, go_sem, hv]
theorem round_door {fn : Func} {p r q : Tmp} (h : fn.results = #[.tmp p, .tmp r, .cell q 25]) (tmps : Array Value) (w : World) (E : Nat) (a b : Value) (n : Int) (R : Ending → World → Prop)
    (hp : tmps.getD p undef = a) (hr : tmps.getD r undef = b) (hq : tmps.getD q undef = .pointer (some ⟨E, 0, none⟩)) (hE : w.cell? ⟨E, 0, none⟩ = some (.int .i64 n))
    (hR : R (.returned (.tuple #[a, b, .int .i64 n])) w) :
    Leaves Tryz.prog fn tmps R [{ target := .fn (.func 39) #[], args := #[.pointer (some ⟨E, 0, none⟩)] }] .returning w := by
  refine leaves_cons (f := 39) (args := #[.pointer (some ⟨E, 0, none⟩)]) (by simp) (by simp [go_sem]) ?_
  refine (caught_idle ⟨E, 0, none⟩ w).mono ?_
  rintro e u' w' ⟨rfl, rfl, rfl⟩
  exact ⟨_, results_round h tmps _ E _ _ n hp hr hq hE, hR⟩
set_option maxRecDepth 100000 in
set_option maxHeartbeats 8000000 in
theorem rounded_13 (b : Nat) (A A' : Option Addr) (c c' : Nat) (w : World) (hb : w.heap[b]? = some (.cells #[.bool false, .slice A 1 c, .int .i64 0, .bool false, .slice A' 1 c', .int .i64 0] 24 (0, 0))) (hr : ReadsInt w .i64 A 1 [1]) (hc : 1 ≤ c) (hr' : ReadsInt w .i64 A' 1 [3]) (hc' : 1 ≤ c') :
    Calls Tryz.prog 18 #[.int .i64 64, .int .i64 0, .slice (some ⟨b, 0, none⟩) 2 2, .func (.func 44) #[] #[]] w fun en w' => en = .returned (.tuple #[.int .i64 4599676419421066581, .bool true, .int .i64 0]) ∧ Only w w' (fun _ => False) := by
  obtain ⟨w1, hw1, hE, ho1⟩ : ∃ w1, w1 = w.alloc (.cells #[.int .i64 0] 25) ∧ w1.heap[w.heap.size]? = some (.cells #[.int .i64 0] 25 (0, 0)) ∧ Only w w1 (fun _ => False) := ⟨_, rfl, heap_alloc_new w _, (Only.refl w _).alloc _⟩
  have HOP := Lib.hid (open2_ok b false false A A' c c' [1] [3] 0 0 w1 ((ho1.kept _ (blk_lt hb) (fun h => h)).trans hb) (reads_only hr ho1 (fun _ _ h => h)) hc (by decide) (reads_only hr' ho1 (fun _ _ h => h)) hc' (by decide))
  have HE := Lib.hid (And.intro hE ho1)
  clear hb hr hr' hE ho1
  go_enter_defers Tryz.func18, Tryz.ntmps18
  go_upto_region 1 with (fail)
  rw [← hw1]
  clear hw1
  go_wp2_with fail
  refine HOP.out.mono ?_
  rintro en w2 ⟨rfl, ho2, g, g', m, hout, hm, ⟨o, hi, _⟩, ⟨o', hi', _⟩⟩
  have hi : IsInt w2 g o 1 := hi
  have hi' : IsInt w2 g' o' 3 := hi'
  go_wp2_with fail
  refine (quot1_13 w1.heap.size g g' o o' w2 hout hi hi').mono ?_
  rintro en w3 ⟨gq, oq, rfl, hq, ho3⟩
  clear hi hi' hout hm
  go_wp2_with fail
  refine (ways_calls w3).mono ?_
  rintro en w4 ⟨rfl, ho4⟩
  have hway := fun w => way_first (.func (.func 74) #[] #[]) (.func (.func 75) #[] #[]) (.func (.func 77) #[] #[]) w
  go_wp2_with fail
  refine (to_lit gq oq w4 (hq.only ho4 (fun h => h) (fun _ _ h => h))).mono ?_
  rintro en w5 ⟨rfl, ho5⟩
  obtain ⟨hE, ho1⟩ := HE.out
  have ho15 := ((ho2.trans ho3).trans ho4).trans ho5
  have hE5 := (ho15.kept _ (blk_lt hE) (fun h => h)).trans hE
  have e0 : w5.cell? ⟨w.heap.size, 0, none⟩ = some (.int .i64 0) := blk_cell hE5 0
  have fe0 := blk_frozen hE5 0
  have HF := Lib.hid (And.intro hE5 (ho1.trans ho15))
  clear hq ho2 ho3 ho4 ho5 hE ho1 ho15 hE5 HOP HE
  go_wp2_with fail
  have hE6 := blk_set HF.out.1 0 (.int .i64 0)
  refine round_door rfl _ _ w.heap.size _ _ 0 _ rfl rfl rfl (by simpa using blk_cell hE6 0) ⟨rfl, ?_⟩
  exact HF.out.2.set (.inl (Nat.le_refl _)) _
set_option maxRecDepth 100000 in
set_option maxHeartbeats 8000000 in
theorem quot_13 (A A' : Option Addr) (c c' : Nat) (w : World) (hr : ReadsInt w .i64 A 1 [1]) (hc : 1 ≤ c) (hr' : ReadsInt w .i64 A' 1 [3]) (hc' : 1 ≤ c') :
    Calls Tryz.prog 16 #[.agg #[.bool false, .slice A 1 c, .int .i64 0], .agg #[.bool false, .slice A' 1 c', .int .i64 0], .int .i64 64, .int .i64 0] w fun en w' => en = .returned (.tuple #[.int .i64 4599676419421066581, .bool true, .int .i64 0]) ∧ Only w w' (fun _ => False) := by
  have HR := Lib.hid (And.intro hr hr')
  clear hr hr'
  go_enter Tryz.func16, Tryz.ntmps16
  go_wp2_with fail
  have hb := heap_alloc_new ((w.alloc (.cells #[.bool false, .slice A 1 c, .int .i64 0] 24)).alloc (.cells #[.bool false, .slice A' 1 c', .int .i64 0] 24)) (.cells #[.bool false, .slice A 1 c, .int .i64 0, .bool false, .slice A' 1 c', .int .i64 0] 24)
  have ho := (((Only.refl w (fun _ => False)).alloc (.cells #[.bool false, .slice A 1 c, .int .i64 0] 24)).alloc (.cells #[.bool false, .slice A' 1 c', .int .i64 0] 24)).alloc (.cells #[.bool false, .slice A 1 c, .int .i64 0, .bool false, .slice A' 1 c', .int .i64 0] 24)
  refine (rounded_13 (w.heap.size + 1 + 1) A A' c c' _ (by simpa using hb) (reads_only HR.out.1 ho (fun _ _ h => h)) hc (reads_only HR.out.2 ho (fun _ _ h => h)) hc').mono ?_
  rintro en w' ⟨rfl, ho'⟩
  have HO := Lib.hid (ho.trans ho')
  clear hb ho ho'
  go_wp2_with fail
  go_ret3
  exact ⟨rfl, HO.out⟩
end Go.Proofs.YtgbpglojbgicjaaGreatFmt
namespace Go.Proofs.YtgbpglojbgicjaaGreatFmt
open Go.RowKit Go.Proofs.YtgbpglojbgicjaaGreatFmtW.PrintWords
theorem Digs.tail {d : Int} {ds : List Int} (h : Digs (d :: ds)) : 0 ≤ d ∧ d < 1073741824 ∧ Digs ds := ⟨(h d List.mem_cons_self).1, (h d List.mem_cons_self).2, fun x hx => h x (List.mem_cons_of_mem _ hx)⟩
theorem val_inj : ∀ (ds es : List Int), Digs ds → Digs es → ds.length = es.length → val ds = val es → ds = es
  | [], [], _, _, _, _ => rfl
  | [], _ :: _, _, _, h, _ => by simp at h
  | _ :: _, [], _, _, h, _ => by simp at h
  | d :: ds, e :: es, h1, h2, h3, h4 => by
    obtain ⟨a, b, c⟩ := h1.tail
    obtain ⟨a', b', c'⟩ := h2.tail
    simp only [val] at h4
    obtain rfl : d = e := by omega
    rw [val_inj ds es c c' (by simpa using h3) (by omega)]
theorem val_low : ∀ (ds : List Int), Nm ds → 0 < ds.length → 2 ^ (30 * (ds.length - 1)) ≤ val ds
  | [], _, h => by simp at h
  | [d], h, _ => by
    have h1 := h.2 (by simp)
    obtain ⟨a, b, _⟩ := h.1.tail
    simp [val] at *
    omega
  | d :: e :: ds, h, _ => by
    obtain ⟨a, b, c⟩ := h.1.tail
    have h1 := val_low (e :: ds) ⟨c, fun _ => by simpa using h.2 (by simp)⟩ (by simp)
    rw [val, show 30 * ((d :: e :: ds).length - 1) = 30 + 30 * ((e :: ds).length - 1) by simp; omega, Int.pow_add]
    have e30 : (2 : Int) ^ 30 = 1073741824 := by decide
    rw [e30]
    generalize (2 : Int) ^ (30 * ((e :: ds).length - 1)) = P at *
    omega
theorem len_le {ds es : List Int} (h1 : Nm ds) (h2 : Nm es) (h : val ds = val es) : ds.length ≤ es.length := by
  by_cases h0 : 0 < ds.length
  · have a := val_low ds h1 h0
    have b := (val_range es h2.1).2
    rw [← h] at b
    have := pow_lt (Int.lt_of_le_of_lt a b)
    omega
  · omega
theorem nm_inj {ds es : List Int} (h1 : Nm ds) (h2 : Nm es) (h : val ds = val es) : ds = es :=
  val_inj ds es h1.1 h2.1 (Nat.le_antisymm (len_le h1 h2 h) (len_le h2 h1 h.symm)) h
theorem val_odd (ds : List Int) (h : ds.getD 0 0 % 2 = 1) : val ds % 2 = 1 := by
  cases ds with
  | nil => simp at h
  | cons d ds =>
    have h : d % 2 = 1 := h
    simp only [val]
    omega
theorem odd_shift {x q : Int} {t : Nat} (h : x = q * 2 ^ t) (hx : x % 2 = 1) : t = 0 ∧ q = x := by
  cases t with
  | zero => simp at h; exact ⟨rfl, h.symm⟩
  | succ t =>
    exfalso
    rw [Int.pow_succ, ← Int.mul_assoc] at h
    omega
theorem blen_digs {ds : List Int} (h : Digs ds) (hl : ds.length ≤ 2000) {k : Nat} (hk : BLen (val ds) k) : k ≤ 60000 := by
  by_cases h0 : 0 < k
  · have a := hk.2 h0
    have b := (val_range ds h).2
    have := pow_lt (Int.lt_of_le_of_lt a b)
    omega
  · omega
theorem sval_neg (neg : Bool) {ds : List Int} (_ : Digs ds) (h0 : 0 < val ds) : decide (sval neg ds < 0) = neg := by
  cases neg <;> simp [sval] <;> omega
theorem sval_neg' (neg : Bool) {ds : List Int} (_ : Digs ds) (h0 : 0 < val ds) : decide (-sval neg ds < 0) = !neg := by
  cases neg <;> simp [sval] <;> omega
def Same1 (w : World) (neg : Bool) (ds : List Int) (e : Int) (en : Ending) (w' : World) : Prop :=
  ∃ v, en = .returned (.tuple #[.agg #[.bool neg, v, .int .i64 e], .int .i64 0]) ∧ w'.ownsRow w.heap.size 3 1 v ds.length (nums .i64 ds)
theorem ans_same {w w' : World} {z e : Int} {en : Ending} {ds : List Int} (h : Ans w z e en w') (hv : ((Int.natAbs z : Nat) : Int) = val ds) (hn : Nm ds) (hl : ds.length ≤ 2000) (hl0 : 0 < ds.length) (ho : ds.getD 0 0 % 2 = 1) :
    Only w w' (fun _ => False) ∧ (if -1048576 ≤ e ∧ e ≤ 1048576 then Same1 w (decide (z < 0)) ds e en w' else en = errNum 2) := by
  obtain ⟨hw, h | h⟩ := h
  · have := val_odd ds ho
    rw [← hv] at this
    omega
  · obtain ⟨hz, t, k, q, a, b, c, d, h⟩ := h
    have hod := val_odd ds ho
    rw [hv] at a
    obtain ⟨rfl, rfl⟩ := odd_shift a hod
    have hk := blen_digs hn.1 hl d
    refine ⟨hw, ?_⟩
    rw [Int.natCast_zero, Int.add_zero] at h
    rcases h with ⟨h1, rfl⟩ | ⟨_, h1, h2, v, es, rfl, hown, hval, hnm⟩
    · rw [if_neg (by omega)]
    · rw [if_pos ⟨h1, h2⟩]
      obtain rfl := nm_inj hnm hn hval
      exact ⟨v, rfl, hown⟩
end Go.Proofs.YtgbpglojbgicjaaGreatFmt
namespace Go.Proofs.YtgbpglojbgicjaaGreatFmt
open Go.RowKit Go.Proofs.YtgbpglojbgicjaaGreatFmtW.PrintWords
theorem zero_cells (k : Nat) : Builtin.zeroCells (Value.int .i64 0).cells k = (List.replicate k (Value.int .i64 0)).toArray := by
  apply Array.ext
  · simp [Builtin.zeroCells, Value.cells]
  · intro i h1 h2
    simp [Builtin.zeroCells, Value.cells, Nat.mod_one]
theorem nums_zeros (k : Nat) : List.replicate k (Value.int .i64 0) = nums .i64 (List.replicate k 0) := by simp [nums]
theorem append_zeros (base : Nat) (v : Value) (n k : Nat) (xs : List Value) (ty : TypeId) (w : World) (h0 : 0 < k) (hk : n + k ≤ 1000000) (hown : w.ownsRow base 3 1 v n xs) (hb : base ≤ w.heap.size) :
    ∃ v' w', (Builtin.append_ #[22, 3] ty #[v, .int .i64 k]).run Tryz.prog w = .ok v' w' ∧ w'.ownsRow base 3 1 v' (n + k) (xs ++ nums .i64 (List.replicate k 0)) ∧ w.grownBy w' v.ownBlock ∧ (v'.ownBlock = v.ownBlock ∨ v'.ownBlock = some w.heap.size) ∧ w'.ownsRow base 3 1 v n xs := by
  have kept : ∀ w' : World, (∀ b, b < w.heap.size → w'.heap[b]? = w.heap[b]?) → w'.ownsRow base 3 1 v n xs := fun w' h => own_move hown (fun b hb => h b (own_lt hown b hb))
  obtain ⟨i, hi, hf⟩ := Option.map_eq_some_iff.1 int3
  simp only [Prod.mk.injEq] at hf
  obtain ⟨hz, hs, hby⟩ := hf
  have hmx : maxLen = 9223372036854775807 := by decide
  have hlen : (xs ++ nums .i64 (List.replicate k 0)).length = (n + k) * 1 := by rw [List.length_append, hown.1]; simp [nums]
  have fresh : ∀ old : Nat, (old = 0 ∧ xs = [] ∨ True) → old < n + k → n ≤ old → (w.drew.alloc (.cells (xs.toArray ++ Builtin.zeroCells (Value.int .i64 0).cells k ++ Builtin.zeroCells (Value.int .i64 0).cells (grownCap w (n + k) old 3 - (n + k))) 3)).ownsRow base 3 1 (.slice (some ⟨w.heap.size, 0, none⟩) (n + k) (grownCap w (n + k) old 3)) (n + k) (xs ++ nums .i64 (List.replicate k 0)) := by
    intro old _ h1 h2
    have hge := grownCap_ge w (n + k) old 3
    refine ⟨hlen, .inr ⟨w.heap.size, _, _, rfl, hb, heap_alloc_new w.drew _, hge, grownCap_le_maxLen w (n + k) old _ (by omega), ?_, ?_⟩⟩
    · have := hown.1
      simp only [Array.size_append, List.size_toArray, size_zeroCells, Value.cells, this]
      simp
      omega
    · simp only [Array.toList_append, List.append_assoc, zero_cells]
      rw [← List.append_assoc, ← hlen, nums_zeros]
      exact List.take_left
  rcases hown.2 with ⟨rfl, rfl⟩ | ⟨g, cap, cur, rfl, hbg, hg, hnc, hcm, hcs, htake⟩
  · obtain rfl : xs = [] := List.eq_nil_of_length_eq_zero (by simpa using hown.1)
    have hr := Lib.run_append_nil_zeros (P := Tryz.prog) w 22 3 ty 3 i _ .i64 .i64 Tryz.underlying22 Tryz.underlying3 hi hz k h0 (by omega) (by omega) (by rw [hby]; omega)
    have hfr := fresh 0 (.inr trivial) (by omega) (by omega)
    simp only [Nat.zero_add, List.nil_append, Array.empty_append] at hfr ⊢
    exact ⟨_, _, hr, hfr, ⟨rfl, rfl, rfl, by simp, fun b hb _ => heap_alloc_old w.drew _ hb⟩, .inr rfl, own_nil _ _ _ _⟩
  · by_cases hroom : n + k ≤ cap
    · have hst := run_storeCells_at Tryz.prog g n 3 (nums .i64 (List.replicate k 0)) 0 cur w hg (by simp [nums]; omega) (by intro u hu; simp only [nums, List.mem_map] at hu; obtain ⟨q, _, rfl⟩ := hu; rfl)
      simp only [Nat.add_zero] at hst
      have hw : IntKind.i64.wrap (k : Int) = k := by rw [IntKind.wrap_i64]; omega
      have hneg : ¬ ((k : Int) < 0) := by omega
      have hk0 : k ≠ 0 := by omega
      have h48i : ¬ (281474976710656 < (k : Int) * 8) := by omega
      refine ⟨.slice (some ⟨g, 0, none⟩) (n + k) cap, w.setRow g (cur.toList.take n ++ nums .i64 (List.replicate k 0) ++ cur.toList.drop (n + (nums .i64 (List.replicate k 0)).length)).toArray, ?_, ?_, ?_, .inl rfl, ?_⟩
      · simp [Builtin.append_, run_underlying Tryz.underlying22, run_underlying Tryz.underlying3, sizeOf, typeInfo, zeroValue, hi, hz, hs, hby, asInt, asIntOf, hw, hneg, hk0, h48i, hroom, Addr.add_lit, zero_cells, nums_zeros, hst]
      · refine ⟨hlen, .inr ⟨g, cap, _, rfl, hbg, setRow_heap w g cur _ 3 _ hg, hroom, hcm, ?_, ?_⟩⟩
        · simp only [List.size_toArray, List.length_append, List.length_take, List.length_drop, Array.length_toList]
          simp [nums]
          omega
        · rw [Nat.mul_one] at htake
          rw [htake, ← hlen]
          exact List.take_left
      · exact ⟨rfl, rfl, rfl, by simp, fun k _ hk => setRow_other w g k _ (fun e => hk (by simp [Value.ownBlock, e]))⟩
      · refine ⟨hown.1, .inr ⟨g, cap, _, rfl, hbg, setRow_heap w g cur _ 3 _ hg, hnc, hcm, ?_, ?_⟩⟩
        · simp only [List.size_toArray, List.length_append, List.length_take, List.length_drop, Array.length_toList]
          simp [nums]
          omega
        · rw [Nat.mul_one] at htake ⊢
          rw [List.append_assoc, htake]
          have : xs.length = n := by have := hown.1; omega
          rw [← this]
          exact List.take_left
    · have hdr : w.drew.ownsRow base 3 1 (.slice (some ⟨g, 0, none⟩) n cap) n xs := ⟨hown.1, .inr ⟨g, cap, cur, rfl, hbg, hg, hnc, hcm, hcs, htake⟩⟩
      have hold : (Builtin.firstCells i.size n (.slice (some ⟨g, 0, none⟩) n cap)).run Tryz.prog w.drew = .ok xs.toArray w.drew := run_firstCells_some (P := Tryz.prog) w.drew i.size n ⟨g, 0, none⟩ n cap xs (by rw [hs]; exact hown.1) (hdr.cells (g := g) rfl)
      have hr := Lib.run_append_grow_zeros (P := Tryz.prog) w 22 3 ty 3 i _ .i64 .i64 Tryz.underlying22 Tryz.underlying3 hi hz (some ⟨g, 0, none⟩) n cap xs hold k h0 (by omega) (by omega) (by omega) (by rw [hby]; omega) (growslice_fits (by omega) (by rw [hby]; omega))
      exact ⟨_, _, hr, fresh cap (.inr trivial) (by omega) hnc, ⟨rfl, rfl, rfl, by simp, fun b hb _ => heap_alloc_old w.drew _ hb⟩, .inr rfl, kept _ (fun b hb => heap_alloc_old w.drew _ hb)⟩
end Go.Proofs.YtgbpglojbgicjaaGreatFmt
namespace Go.Proofs.YtgbpglojbgicjaaGreatFmt
open Go.RowKit Go.Proofs.YtgbpglojbgicjaaGreatFmtW.PrintWords
theorem reads_lit (w : World) (xs : List Int) (hl : xs.length ≤ 1000) : ReadsInt (w.alloc (.cells (nums .i64 xs).toArray 3)) .i64 (some ⟨w.heap.size, 0, none⟩) xs.length xs := by
  obtain ⟨A, c, h1, h2⟩ := own_reads (own_lit w 0 3 .i64 xs (Nat.zero_le _) (by omega))
  cases h1
  exact h2
theorem own_row_some {w : World} {B n : Nat} {v : Value} {xs : List Value} {e : TypeId} (h : w.ownsRow B e 1 v n xs) (hn : 0 < n) : ∃ g cap, v = .slice (some ⟨g, 0, none⟩) n cap ∧ B ≤ g ∧ n ≤ cap := by
  rcases h.2 with ⟨_, h0⟩ | ⟨g, cap, cur, rfl, hb, _, hc, _⟩
  · omega
  · exact ⟨g, cap, rfl, hb, hc⟩
theorem HB_alloc {w w1 : World} (h : Below w.heap.size w w1) (o : Obj) : Below w.heap.size w (w1.alloc o) := h.alloc h.size o
end Go.Proofs.YtgbpglojbgicjaaGreatFmt
namespace Go.Proofs.YtgbpglojbgicjaaGreatFmt
open Go.RowKit Go.Proofs.YtgbpglojbgicjaaGreatFmtW.PrintWords
theorem stored1 {w : World} {Y : Nat} {x y z : Value} (hY : w.heap[Y]? = some (.cells #[x, y, z] 24 (0, 0))) (a b c : Value) :
    (((w.setCell ⟨Y, 0, none⟩ a).setCell ⟨Y, 1, none⟩ b).setCell ⟨Y, 2, none⟩ c).heap[Y]? = some (.cells #[a, b, c] 24 (0, 0)) ∧ Only w (((w.setCell ⟨Y, 0, none⟩ a).setCell ⟨Y, 1, none⟩ b).setCell ⟨Y, 2, none⟩ c) (fun k => k = Y) := by
  have h1 := blk_set (blk_set (blk_set hY 0 a) 1 b) 2 c
  refine ⟨?_, ?_⟩
  · simpa using h1
  · exact (((Only.refl w (fun k => k = Y)).set (p := ⟨Y, 0, none⟩) (.inr rfl) a).set (p := ⟨Y, 1, none⟩) (.inr rfl) b).set (p := ⟨Y, 2, none⟩) (.inr rfl) c
theorem results_lent {fn : Func} {p q : Tmp} (h : fn.results = #[.tmp p, .cell q 24]) (tmps : Array Value) (w : World) (Y : Nat) (l a b c : Value)
    (hp : tmps.getD p undef = l) (hq : tmps.getD q undef = .pointer (some ⟨Y, 0, none⟩)) (hg : w.heap[Y]? = some (.cells #[a, b, c] 24 (0, 0))) :
    (results fn tmps).run Tryz.prog w = .ok (.tuple #[l, .agg #[a, b, c]]) w := by
  have hp' : tmps[p]?.getD undef = l := by simpa using hp
  have hq' : tmps[q]?.getD undef = .pointer (some ⟨Y, 0, none⟩) := by simpa using hq
  have h0 : w.cell? ⟨Y, 0, none⟩ = some a := blk_cell hg 0
  have h1 : w.cell? ⟨Y, 1, none⟩ = some b := blk_cell hg 1
  have h2 : w.cell? ⟨Y, 2, none⟩ = some c := blk_cell hg 2
  simp [results, h, hp', hq', asAddr, go_sem, h0, h1, h2]
end Go.Proofs.YtgbpglojbgicjaaGreatFmt
