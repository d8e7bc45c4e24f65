/- Part 16 of the walk: RndDD RndAA ExR RndN FBitsNeg. -/
import Derived.Test.YtlfmgdpbjapdjaaGreatFmtBesafterPt12
import Derived.Test.YtlfmgdpbjapdjaaGreatFmtBesafterPt15
import Derived.Deep.DeepCutAuto
import Derived.Test.YtlfmgdpbjapdjaaGreatFmtBesafterPt07
import Derived.Test.YtlfmgdpbjapdjaaGreatFmtBesafterPt08
namespace Go.Proofs.YtlfmgdpbjapdjaaGreatFmtBesafter
open Go.RowKit Go.Proofs.YtlfmgdpbjapdjaaGreatFmtBesafterW.PrintWords Go.Proofs.YtlfmgdpbjapdjaaGreatFmtBesafterW.PrintLast
theorem not_nan64 (n : Bool) (v r : Nat) (hv : (v : Int) = sg n + r) (hr : r ≤ 9218868437227405312) : (FloatKind.f64.format.order v v != some .eq) = false := by
  refine (Flt.order_self Ieee.double Flt.ok_double v).trans ?_
  unfold Flt.isNaN
  rw [Flt.dfields.1, Flt.dfields.2.1, decide_eq_false_iff_not]
  rcases sg_cases n with h | h <;> rw [h] at hv <;> omega
theorem not_nan32 (n : Bool) (v r : Nat) (hv : (v : Int) = sg2 n + r) (hr : r ≤ 2139095040) : (FloatKind.f32.format.order v v != some .eq) = false := by
  refine (Flt.order_self Ieee.single Flt.ok_single v).trans ?_
  unfold Flt.isNaN
  rw [Flt.sfields.1, Flt.sfields.2.1, decide_eq_false_iff_not]
  cases n <;> simp [sg2] at hv <;> omega
def b64 (n : Bool) (r : Nat) : Int := if n = true then (r : Int) - 9223372036854775808 else r
def b32 (n : Bool) (r : Nat) : Int := if n = true then (r : Int) + 2147483648 else r
theorem b64_of (n : Bool) (v r : Nat) (hv : (v : Int) = sg n + r) (hr : r ≤ 9218868437227405312) : wrap64 (v : Int) = b64 n r := by
  unfold b64 wrap64
  cases n <;> simp [sg] at hv ⊢ <;> omega
theorem b32_of (n : Bool) (v r : Nat) (hv : (v : Int) = sg2 n + r) (hr : r ≤ 2139095040) : wrap64 (v : Int) = b32 n r := by
  unfold b32 wrap64
  cases n <;> simp [sg2] at hv ⊢ <;> omega
theorem b64_I (n : Bool) (r : Nat) (hr : r ≤ 9218868437227405312) : Flt.I64 (b64 n r) := by
  unfold b64 Flt.I64; split <;> omega
theorem b32_I (n : Bool) (r : Nat) (hr : r ≤ 2139095040) : Flt.I64 (b32 n r) := by
  unfold b32 Flt.I64; split <;> omega
theorem Near2.le {B I r : Nat} {x s a : Int} {n : Bool} (h : Near2 B I x s n r a) : r ≤ I := by
  obtain ⟨K, up, ex, _, rfl, _⟩ := h
  omega
def mi (more : Bool) : Int := if more = true then 1 else 0
theorem mi_cases (more : Bool) : mi more = 0 ∨ mi more = 1 := by cases more <;> simp [mi]
set_option linter.unusedVariables false in
set_option linter.unusedSimpArgs false in
set_option maxRecDepth 100000 in
set_option maxHeartbeats 8000000 in
theorem to_any64 (gq : Nat) (oq : Option Nat) (z e : Int) (more : Bool) (fid : Nat) (tf : Int → Bool → Int) (can : Int → Int) (w : World) (hq : IsInt w gq oq z) (hz : z ≠ 0) (he0 : -4000000 ≤ e) (he1 : e ≤ 4000000) (hfit : Fits (2 * Int.natAbs z + 1)) (hen : ∀ (args : Array Value) (w : World), (callFunc fid args).run Tryz.prog w = .ok (.enter fid args) w)
    (HT : ∀ (b : Int) (u : Bool) (W : World), Flt.I64 b → Calls Tryz.prog fid #[.int .i64 b, .int .i64 64, .bool u] W fun en w' => en = .returned (.int .i64 (tf b u)) ∧ Only W w' (fun _ => False)) (hcan : ∀ b, F.bits_Canon.f 2 b 64 = some (can b)) :
    Calls Tryz.prog 39 #[.agg #[.pointer (some ⟨gq, 0, none⟩), .int .i64 e, .bool more], .int .i64 64, .agg #[.func (.func fid) #[] #[]]] w fun en w' => ∃ (r : Nat) (a : Int), Near2 4503599627370496 9218868437227405312 (2 * Int.natAbs z + mi more) (e - 1 + 1074) (decide (z < 0)) r a ∧
      en = .returned (.tuple #[.int .i64 (can (if a = 0 then b64 (decide (z < 0)) r else tf (b64 (decide (z < 0)) r) (a == 1))), .bool (a != 0 || more)]) ∧ Only w w' (fun _ => False) := by
  obtain ⟨wA, hwA, h1, h2, hoA, hsA⟩ : ∃ wA, wA = ((w.alloc (.cells #[.pointer (some ⟨gq, 0, none⟩), .int .i64 e, .bool more] 46)).alloc (.cells #[.func (.func fid) #[] #[]] 78)) ∧ wA.heap[w.heap.size]? = some (.cells #[.pointer (some ⟨gq, 0, none⟩), .int .i64 e, .bool more] 46 (0, 0)) ∧ wA.heap[w.heap.size + 1]? = some (.cells #[.func (.func fid) #[] #[]] 78 (0, 0)) ∧ Only w wA (fun _ => False) ∧ w.heap.size + 1 < wA.heap.size :=
    ⟨_, rfl, heap_two' w _ _, heap_two w _ _, ((Only.refl w (fun _ => False)).alloc _).alloc _, by simp⟩
  have hqA := hq.only hoA (fun h => h) (fun _ _ h => h)
  obtain ⟨wB, hwB, hA, hB, hoB⟩ : ∃ wB, wB = (wA.alloc (.cells #[.bool false, .slice none 0 0] 87)).alloc (.cells #[.bool false, .slice none 0 0] 87) ∧ IsInt wB wA.heap.size none 0 ∧ IsInt wB (wA.heap.size + 1) none 0 ∧ Only wA wB (fun _ => False) :=
    ⟨_, rfl, (isInt_alloc wA).alloc_ _, by simpa using isInt_alloc (wA.alloc (.cells #[.bool false, .slice none 0 0] 87)), ((Only.refl wA (fun _ => False)).alloc _).alloc _⟩
  have hbx : ∀ W, Only wA W (fun _ => False) → W.cell? ⟨w.heap.size, 0, none⟩ = some (.pointer (some ⟨gq, 0, none⟩)) ∧ W.cell? ⟨w.heap.size, 1, none⟩ = some (.int .i64 e) ∧ W.cell? ⟨w.heap.size, 2, none⟩ = some (.bool more) ∧ W.cell? ⟨w.heap.size + 1, 0, none⟩ = some (.func (.func fid) #[] #[]) := fun W hW => by
    have a := (hW.kept _ (blk_lt h1) (fun h => h)).trans h1
    have b := (hW.kept _ (blk_lt h2) (fun h => h)).trans h2
    exact ⟨blk_cell a 0, blk_cell a 1, blk_cell a 2, blk_cell b 0⟩
  have HBX := Lib.hid hbx
  have hF1 : Fits ((Int.natAbs z : Nat) : Int) := hfit.le (by omega)
  have hF2 : Fits ((Int.natAbs (((Int.natAbs z : Nat) : Int) * 2 ^ 1) : Nat) : Int) := hfit.le (by omega)
  have hF3 : Fits (((Int.natAbs z : Nat) : Int) * 2 ^ 1) := hfit.le (by omega)
  have HQ := Lib.hid (And.intro hqA (And.intro hF1 (And.intro hF3 hfit)))
  have HO := Lib.hid hoA
  have hlq : gq < wA.heap.size := hqA.lt
  have HLQ := Lib.hid hlq
  have HSA := Lib.hid hsA
  have hew : IntKind.i64.wrap (e - 1) = e - 1 := by rw [IntKind.wrap_i64]; omega
  have hm : min (max (e - 1) (-4194304)) 4194304 = e - 1 := by omega
  have HC := Lib.hid hcan
  have HTT := Lib.hid HT
  clear hbx hqA hF1 hF2 hF3 hoA hlq hsA h1 h2 hq hcan HT hfit
  go_enter Tryz.func39, Tryz.ntmps39
  go_upto_region 1 with (fail)
  rw [← hwA]
  clear hwA
  obtain ⟨c0, c1, c2, d0⟩ := HBX.out _ (((Only.refl wA (fun _ => False)).alloc (.cells #[.bool false, .slice none 0 0] 87)).alloc (.cells #[.bool false, .slice none 0 0] 87))
  go_wp2_with fail
  rw [← hwB]
  clear hwB c0 c1 c2 d0
  refine (abs_int (wA.heap.size + 1) gq none oq 0 z wB hB (HQ.out.1.only hoB (fun h => h) (fun _ _ h => h)) HQ.out.2.1 (by have := HLQ.out; omega)).mono ?_
  rintro en wC ⟨rfl, hP⟩
  have hAC : IsInt wC wA.heap.size none 0 := by
    obtain ⟨_, _, ho, _⟩ := hP
    exact hA.keep hB ho (by omega) (fun b h => by cases h)
  obtain ⟨⟨oB, hBC, _, _⟩, hoC⟩ := New.put (B := wA.heap.size) rfl hoB (Nat.le_succ _) (fun b h => by cases h) hP
  clear hP hA hB hoB
  obtain ⟨c0, c1, c2, d0⟩ := HBX.out wC (hoC)
  go_wp2_with fail
  refine (lsh_int wA.heap.size (wA.heap.size + 1) none oB 0 (Int.natAbs z) 1 wC hAC hBC (by simpa using HQ.out.2.1) (by decide) (by decide)).mono ?_
  rintro en wD ⟨rfl, hP⟩
  obtain ⟨⟨oA, hAD, _, hoAb⟩, hoD⟩ := New.put (B := wA.heap.size) rfl hoC (Nat.le_refl _) (fun b h => by cases h) hP
  clear hP hBC hAC hoC c0 c1 c2 d0
  obtain ⟨c0, c1, c2, d0⟩ := HBX.out wD (hoD)
  go_upto_if 24 with (fail)
  go_cut [] (fun wx => Only wA wx (fun _ => False) ∧ ∃ o, IsInt wx wA.heap.size o (2 * Int.natAbs z + mi more) ∧ ∀ b, o = some b → wA.heap.size ≤ b)
  case first =>
    cases more
    · go_wp2_with fail
      go_meet
      exact ⟨hoD, oA, by rw [show (2 * Int.natAbs z + mi false : Int) = ((Int.natAbs z : Nat) : Int) * 2 ^ 1 by simp [mi]; omega]; exact hAD, hoAb⟩
    · go_wp2_with fail
      refine (newInt_any 1 wD (by decide) (by decide)).mono ?_
      rintro en wE ⟨g1, rfl, ⟨o1, h1E, _, _⟩, hoE0⟩
      have hAE := hAD.only hoE0 (fun h => h) (fun _ _ h => h)
      have hoE := hoD.trans hoE0
      go_wp2_with fail
      refine (or_int wA.heap.size wA.heap.size g1 oA oA o1 (((Int.natAbs z : Nat) : Int) * 2 ^ 1) (((Int.natAbs z : Nat) : Int) * 2 ^ 1) 1 1 wE hAE hAE h1E (by omega) (by decide) HQ.out.2.2.1 (by decide) (by omega) (by decide)).mono ?_
      rintro en wF ⟨rfl, hP⟩
      obtain ⟨⟨oF, hAF, _, hoFb⟩, hoF⟩ := New.put (B := wA.heap.size) rfl hoE (Nat.le_refl _) hoAb hP
      go_wp2_with fail
      go_meet
      exact ⟨hoF, oF, by rw [show (2 * Int.natAbs z + mi true : Int) = ((Int.natAbs z : Nat) : Int) * 2 ^ 1 + 1 by simp [mi]; omega]; exact hAF, hoFb⟩
  case rest =>
  obtain ⟨hoF, oF, hAF, hoFb⟩ := hcut
  obtain ⟨wG, hwG⟩ : ∃ wG, wG = wc := ⟨_, rfl⟩
  rw [← hwG] at hoF hAF ⊢
  clear hoD hAD hoAb c0 c1 c2 d0 hwG
  obtain ⟨c0, c1, c2, d0⟩ := HBX.out wG hoF
  have hmi := mi_cases more
  go_wp2_with fail
  refine (sign_int gq oq z wG (HQ.out.1.only hoF (fun h => h) (fun _ _ h => h))).mono ?_
  rintro en w' ⟨rfl, hw⟩
  rw [hw]
  clear hw w'
  have hsd := sign_neg z
  obtain ⟨Z, hZ⟩ : ∃ Z : Int, Z = if z < 0 then -(2 * Int.natAbs z + mi more) else 2 * Int.natAbs z + mi more := ⟨_, rfl⟩
  have hZa : (Int.natAbs Z : Int) = 2 * Int.natAbs z + mi more := by rw [hZ]; split <;> omega
  have hZn : decide (Z < 0) = decide (z < 0) := by rw [decide_eq_decide, hZ]; split <;> omega
  have HZ := Lib.hid (And.intro hZa hZn)
  clear hZa hZn
  go_upto_if 33 with (fail)
  go_cut [] (fun wx => Only wA wx (fun _ => False) ∧ ∃ o, IsInt wx wA.heap.size o Z)
  case first =>
    by_cases hneg : z < 0
    · have hsd2 : decide (z < 0) = true := by rw [decide_eq_true_eq]; exact hneg
      rw [if_pos hneg] at hZ
      go_wp2_with fail
      refine (neg_int wA.heap.size oF _ wG hAF).mono ?_
      rintro en wF ⟨rfl, hP⟩
      obtain ⟨⟨oF2, hAF2, _, _⟩, hoF2⟩ := New.put (B := wA.heap.size) rfl hoF (Nat.le_refl _) hoFb hP
      go_wp2_with fail
      go_meet
      exact ⟨hoF2, oF2, by rw [hZ]; exact hAF2⟩
    · have hsd2 : decide (z < 0) = false := by rw [decide_eq_false_iff_not]; exact hneg
      rw [if_neg hneg] at hZ
      go_wp2_with fail
      go_meet
      exact ⟨hoF, oF, by rw [hZ]; exact hAF⟩
  case rest =>
  obtain ⟨hoG0, oG, hAG⟩ := hcut
  clear hoF hAF hoFb c0 c1 c2 d0 hsd hZ
  go_wp2_with fail
  refine (setInt_any wc.heap.size wA.heap.size oG Z _ (heap_alloc_new wc _) (hAG.alloc_ _) (by have := HZ.out.1; omega) (by rw [HZ.out.1]; exact HQ.out.2.2.2.le (by omega))).mono ?_
  rintro en wH ⟨rfl, ⟨b, c, m, k, ys, hfH, hbH, hmant, hwhole, hbl, hk0, hk2, hkm, hkm2, hnum, hbb⟩, hoG⟩
  rw [Int.add_zero] at hfH
  have hsF := hoG0.base.size
  have hbb2 : wA.heap.size ≤ b := by simp at hbb; omega
  have hoH : Only wA wH (fun _ => False) := (hoG0.alloc _).step hoG (by rintro i hi rfl; omega)
  have HN := Lib.hid (And.intro hnum (And.intro hmant hwhole))
  obtain ⟨p, hp⟩ : ∃ p, p = max k 64 := ⟨_, rfl⟩
  have hpr : 64 ≤ p ∧ p < 4294967296 := by omega
  rw [← hp] at hfH
  have HP := Lib.hid hp
  clear hAG hoG hbb hmant hwhole hnum hbl hp
  obtain ⟨c0, c1, c2, d0⟩ := HBX.out wH hoH
  go_wp2_with fail
  refine (setMantExp_any wc.heap.size b c m p ys 0 k (e - 1) _ wH hfH hbH HN.out.2.1 (by rw [HP.out]; exact HN.out.2.2) (by omega) (by omega) (by omega) (by omega)).mono ?_
  rintro en wI ⟨rfl, hfI, hbI, hoI0⟩
  have hoI : Only wA wI (fun _ => False) := hoH.step hoI0 (by rintro i hi (rfl | rfl) <;> omega)
  clear hfH hbH hoI0 c0 c1 c2 d0 hm hoH hoG0
  go_wp2_with fail
  refine (float64_all wc.heap.size b c m p ys (k + (e - 1)) _ wI hfI hbI HN.out.2.1 hpr.1 hpr.2 (by omega) (by omega)).mono ?_
  rintro en wJ ⟨v, r, a, rfl, hv, hnear, hoJ0⟩
  rw [HZ.out.2] at hv hnear
  have hrI := hnear.le
  have hbv := b64_of _ v r hv hrI
  have hnear : Near2 4503599627370496 9218868437227405312 (2 * Int.natAbs z + mi more) (e - 1 + 1074) (decide (z < 0)) r a := by
    rw [HN.out.1, HZ.out.1] at hnear
    obtain ⟨K, up, ex, hK, h1, h2⟩ := hnear
    have hs := hK.shift (64 * m - k) rfl
    rw [show (k + (e - 1) - 64 * (m : Int) + 1074) + ((64 * m - k : Nat) : Int) = e - 1 + 1074 by omega] at hs
    exact ⟨K, up, ex, hs, h1, h2⟩
  have hoJ := hoI.trans hoJ0
  have HOJ := Lib.hid hoJ
  have hord := not_nan64 _ v r hv hrI
  have hI64 := b64_I (decide (z < 0)) r hrI
  clear hfI hbI hoJ0 hoI hsF hbb2 hv
  go_wp2_with fail
  refine (of_num v wJ hord).mono ?_
  rintro en w' ⟨rfl, hw⟩
  rw [← hw]
  clear hw w'
  have HB2 : Hid (∀ W, Only wJ W (fun _ => False) → W.cell? ⟨w.heap.size, 2, none⟩ = some (.bool more)) := Lib.hid (fun W hW => (HBX.out _ (HOJ.out.trans hW)).2.2.1)
  have HV := Lib.hid hbv
  obtain ⟨T, hT⟩ : ∃ T, T = b64 (decide (z < 0)) r := ⟨_, rfl⟩
  rw [hbv, ← hT]
  rw [← hT] at hI64
  by_cases ha : a = 0
  · have hcan := HC.out T
    have ha2 : (a != 0) = false := by rw [ha]; rfl
    have HRES : Hid (Ending.returned (.tuple #[.int .i64 (can T), .bool more]) = .returned (.tuple #[.int .i64 (can (if a = 0 then b64 (decide (z < 0)) r else tf (b64 (decide (z < 0)) r) (a == 1))), .bool (a != 0 || more)])) := Lib.hid (by rw [if_pos ha, ha2, hT]; rfl)
    clear hT hbv
    go_upto_region 16 with (fail)
    refine start_ (S := (fun W => Only wJ W (fun _ => False))) (ds := ([] : List Nat)) #[false, false, false, false, false, false, false, false, false, false, false] (by kernel_rfl) rfl rfl ?_ (fun hHeld => ?_)
    · exact (Only.refl wJ _).drew
    generalize wJ.drew = W1 at *
    refine pure_ (i := 0) (oi := ?o0) (v := ?v0) #[true, false, false, false, false, false, false, false, false, false, false] ?h0 rfl (by kernel_rfl) ?q0 (Or.inl ⟨?w0, ?y0⟩) rfl ?r0
    case h0 => (simp only [ga, gb, gc]; rfl)
    case q0 => exact fun _ _ _ h => h
    case w0 => rfl
    case y0 => (intro W; go_simp; first | done | with_reducible rfl)
    simp only [Act.put, zd, ze, zf]
    refine pure_ (i := 1) (oi := ?o1) (v := ?v1) #[true, true, false, false, false, false, false, false, false, false, false] ?h1 rfl (by kernel_rfl) ?q1 (Or.inl ⟨?w1, ?y1⟩) rfl ?r1
    case h1 => (simp only [ga, gb, gc]; rfl)
    case q1 => exact fun _ _ _ h => h
    case w1 => rfl
    case y1 => (intro W; go_simp; first | done | with_reducible rfl)
    simp only [Act.put, zd, ze, zf]
    refine pure_ (i := 3) (oi := ?o2) (v := ?v2) #[true, true, false, true, false, false, false, false, false, false, false] ?h2 rfl (by kernel_rfl) ?q2 (Or.inl ⟨?w2, ?y2⟩) rfl ?r2
    case h2 => (simp only [ga, gb, gc]; rfl)
    case q2 => exact fun _ _ _ h => h
    case w2 => rfl
    case y2 => (intro W; go_simp; first | done | with_reducible rfl)
    simp only [Act.put, zd, ze, zf]
    refine pure_ (i := 4) (oi := ?o3) (v := ?v3) #[true, true, false, true, true, false, false, false, false, false, false] ?h3 rfl (by kernel_rfl) ?q3 (Or.inl ⟨?w3, ?y3⟩) rfl ?r3
    case h3 => (simp only [ga, gb, gc]; rfl)
    case q3 => exact fun _ _ _ h => h
    case w3 => rfl
    case y3 => (intro W; go_simp; first | done | with_reducible rfl)
    simp only [Act.put, zd, ze, zf]
    refine wpAnyLast_ready (rs := [2]) (by kernel_rfl) (by simp) ?_
    refine AllReadyL.cons (o := ?o4) ?h4 (by simp) (fun K hK => ?s4) ?m4
    case h4 => (simp only [ga, gb, gc]; rfl)
    case m4 => exact AllReadyL.nil
    go_simp
    go_at_call 8
    refine (F.bits_Canon.calls 2 _ _ _ W1 hcan).mono ?_
    rintro en W2 ⟨rfl, ho⟩
    replace ho := Only.of_below ho
    refine hK.out _ _ (hHeld.trans ho) (fun hHeldN => ?_)
    clear hK K hHeld ho
    have hHeld := hHeldN
    clear hHeldN
    simp only [Act.put, zd, ze, zf]
    refine pure_ (i := 5) (oi := ?o5) (v := ?v5) #[true, true, true, true, true, true, false, false, false, false, false] ?h5 rfl (by kernel_rfl) ?q5 (Or.inl ⟨?w5, ?y5⟩) rfl ?r5
    case h5 => (simp only [ga, gb, gc]; rfl)
    case q5 => exact fun _ _ _ h => h
    case w5 => rfl
    case y5 => (intro W; go_simp; first | done | with_reducible rfl)
    simp only [Act.put, zd, ze, zf]
    refine pure_ (i := 6) (oi := ?o6) (v := ?v6) #[true, true, true, true, true, true, true, false, false, false, false] ?h6 rfl (by kernel_rfl) ?q6 (Or.inl ⟨?w6, ?y6⟩) rfl ?r6
    case h6 => (simp only [ga, gb, gc]; rfl)
    case q6 => exact fun _ _ _ h => h
    case w6 => rfl
    case y6 => (intro W; go_simp; first | done | with_reducible rfl)
    simp only [Act.put, zd, ze, zf]
    refine pure_ (i := 9) (oi := ?o7) (v := ?v7) #[true, true, true, true, true, true, true, false, false, true, false] ?h7 rfl (by kernel_rfl) ?q7 (Or.inl ⟨?w7, ?y7⟩) rfl ?r7
    case h7 => (simp only [ga, gb, gc]; rfl)
    case q7 => exact fun _ _ _ h => h
    case w7 => rfl
    case y7 => (intro W; go_simp; first | done | with_reducible rfl)
    simp only [Act.put, zd, ze, zf]
    refine wpAnyLast_take (i := 7) (oi := ?o8) (v := ?v8) ?h8 (by kernel_rfl) (by kernel_rfl) (by kernel_rfl) (by kernel_rfl) (by kernel_rfl) ?q8 (Or.inl ⟨?w8, ?y8⟩) hHeld ?r8
    case h8 => (simp only [ga, gb, gc]; rfl)
    case q8 => exact fun _ _ _ h => h
    case w8 => rfl
    case y8 => (intro W hSw; have q7 := HB2.out _ hSw; go_simp; first | done | with_reducible rfl)
    simp only [Act.put, zd, ze, zf]
    refine pure_ (i := 8) (oi := ?o9) (v := ?v9) #[true, true, true, true, true, true, true, true, true, true, false] ?h9 rfl (by kernel_rfl) ?q9 (Or.inl ⟨?w9, ?y9⟩) rfl ?r9
    case h9 => (simp only [ga, gb, gc]; rfl)
    case q9 => exact fun _ _ _ h => h
    case w9 => rfl
    case y9 => (intro W; go_simp; first | done | with_reducible rfl)
    simp only [Act.put, zd, ze, zf]
    refine pure_ (i := 10) (oi := ?o10) (v := ?v10) #[true, true, true, true, true, true, true, true, true, true, true] ?h10 rfl (by kernel_rfl) ?q10 (Or.inl ⟨?w10, ?y10⟩) rfl ?r10
    case h10 => (simp only [ga, gb, gc]; rfl)
    case q10 => exact fun _ _ _ h => h
    case w10 => rfl
    case y10 => (intro W; go_simp; first | done | with_reducible rfl)
    simp only [Act.put, zd, ze, zf]
    refine done_ (by kernel_rfl) ?_
    go_wp2_with fail
    go_ret2
    exact ⟨r, a, hnear, HRES.out, (HO.out.trans HOJ.out).trans hHeld⟩
  · have hcan := HC.out (tf T (a == 1))
    have ha2 : (a != 0) = true := by rw [bne_iff_ne]; exact ha
    have d0 := (HBX.out _ HOJ.out).2.2.2
    have HRES : Hid (Ending.returned (.tuple #[.int .i64 (can (tf T (a == 1))), .bool true]) = .returned (.tuple #[.int .i64 (can (if a = 0 then b64 (decide (z < 0)) r else tf (b64 (decide (z < 0)) r) (a == 1))), .bool (a != 0 || more)])) := Lib.hid (by rw [if_neg ha, ha2, hT]; rfl)
    clear hT hbv
    go_wp2_with fail
    refine (HTT.out T (a == 1) wJ hI64).mono ?_
    rintro en wK ⟨rfl, hoK⟩
    have HOK := Lib.hid hoK
    clear d0 hoK
    go_upto_region 16 with (fail)
    refine start_ (S := (fun W => Only wK W (fun _ => False))) (ds := ([] : List Nat)) #[false, false, false, false, false, false, false, false, false, false, false] (by kernel_rfl) rfl rfl ?_ (fun hHeld => ?_)
    · exact (Only.refl wK _).drew
    generalize wK.drew = W101 at *
    refine pure_ (i := 0) (oi := ?o100) (v := ?v100) #[true, false, false, false, false, false, false, false, false, false, false] ?h100 rfl (by kernel_rfl) ?q100 (Or.inl ⟨?w100, ?y100⟩) rfl ?r100
    case h100 => (simp only [ga, gb, gc]; rfl)
    case q100 => exact fun _ _ _ h => h
    case w100 => rfl
    case y100 => (intro W; go_simp; first | done | with_reducible rfl)
    simp only [Act.put, zd, ze, zf]
    refine pure_ (i := 1) (oi := ?o101) (v := ?v101) #[true, true, false, false, false, false, false, false, false, false, false] ?h101 rfl (by kernel_rfl) ?q101 (Or.inl ⟨?w101, ?y101⟩) rfl ?r101
    case h101 => (simp only [ga, gb, gc]; rfl)
    case q101 => exact fun _ _ _ h => h
    case w101 => rfl
    case y101 => (intro W; go_simp; first | done | with_reducible rfl)
    simp only [Act.put, zd, ze, zf]
    refine pure_ (i := 3) (oi := ?o102) (v := ?v102) #[true, true, false, true, false, false, false, false, false, false, false] ?h102 rfl (by kernel_rfl) ?q102 (Or.inl ⟨?w102, ?y102⟩) rfl ?r102
    case h102 => (simp only [ga, gb, gc]; rfl)
    case q102 => exact fun _ _ _ h => h
    case w102 => rfl
    case y102 => (intro W; go_simp; first | done | with_reducible rfl)
    simp only [Act.put, zd, ze, zf]
    refine pure_ (i := 4) (oi := ?o103) (v := ?v103) #[true, true, false, true, true, false, false, false, false, false, false] ?h103 rfl (by kernel_rfl) ?q103 (Or.inl ⟨?w103, ?y103⟩) rfl ?r103
    case h103 => (simp only [ga, gb, gc]; rfl)
    case q103 => exact fun _ _ _ h => h
    case w103 => rfl
    case y103 => (intro W; go_simp; first | done | with_reducible rfl)
    simp only [Act.put, zd, ze, zf]
    refine wpAnyLast_ready (rs := [2]) (by kernel_rfl) (by simp) ?_
    refine AllReadyL.cons (o := ?o104) ?h104 (by simp) (fun K hK => ?s104) ?m104
    case h104 => (simp only [ga, gb, gc]; rfl)
    case m104 => exact AllReadyL.nil
    go_simp
    go_at_call 8
    refine (F.bits_Canon.calls 2 _ _ _ W101 hcan).mono ?_
    rintro en W102 ⟨rfl, ho⟩
    replace ho := Only.of_below ho
    refine hK.out _ _ (hHeld.trans ho) (fun hHeldN => ?_)
    clear hK K hHeld ho
    have hHeld := hHeldN
    clear hHeldN
    simp only [Act.put, zd, ze, zf]
    refine pure_ (i := 5) (oi := ?o105) (v := ?v105) #[true, true, true, true, true, true, false, false, false, false, false] ?h105 rfl (by kernel_rfl) ?q105 (Or.inl ⟨?w105, ?y105⟩) rfl ?r105
    case h105 => (simp only [ga, gb, gc]; rfl)
    case q105 => exact fun _ _ _ h => h
    case w105 => rfl
    case y105 => (intro W; go_simp; first | done | with_reducible rfl)
    simp only [Act.put, zd, ze, zf]
    refine pure_ (i := 9) (oi := ?o106) (v := ?v106) #[true, true, true, true, true, true, false, false, false, true, false] ?h106 rfl (by kernel_rfl) ?q106 (Or.inl ⟨?w106, ?y106⟩) rfl ?r106
    case h106 => (simp only [ga, gb, gc]; rfl)
    case q106 => exact fun _ _ _ h => h
    case w106 => rfl
    case y106 => (intro W; go_simp; first | done | with_reducible rfl)
    simp only [Act.put, zd, ze, zf]
    refine pure_ (i := 6) (oi := ?o107) (v := undef) #[true, true, true, true, true, true, true, false, false, true, false] ?h107 rfl (by kernel_rfl) ?q107 (Or.inr ⟨?w107, rfl⟩) rfl ?r107
    case h107 => (simp only [ga, gb, gc]; rfl)
    case q107 => exact fun _ _ _ h => h
    case w107 => rfl
    simp only [Act.put, zd, ze, zf]
    refine pure_ (i := 7) (oi := ?o108) (v := undef) #[true, true, true, true, true, true, true, true, false, true, false] ?h108 rfl (by kernel_rfl) ?q108 (Or.inr ⟨?w108, rfl⟩) rfl ?r108
    case h108 => (simp only [ga, gb, gc]; rfl)
    case q108 => exact fun _ _ _ h => h
    case w108 => rfl
    simp only [Act.put, zd, ze, zf]
    refine pure_ (i := 8) (oi := ?o109) (v := ?v109) #[true, true, true, true, true, true, true, true, true, true, false] ?h109 rfl (by kernel_rfl) ?q109 (Or.inl ⟨?w109, ?y109⟩) rfl ?r109
    case h109 => (simp only [ga, gb, gc]; rfl)
    case q109 => exact fun _ _ _ h => h
    case w109 => rfl
    case y109 => (intro W; go_simp; first | done | with_reducible rfl)
    simp only [Act.put, zd, ze, zf]
    refine pure_ (i := 10) (oi := ?o110) (v := ?v110) #[true, true, true, true, true, true, true, true, true, true, true] ?h110 rfl (by kernel_rfl) ?q110 (Or.inl ⟨?w110, ?y110⟩) rfl ?r110
    case h110 => (simp only [ga, gb, gc]; rfl)
    case q110 => exact fun _ _ _ h => h
    case w110 => rfl
    case y110 => (intro W; go_simp; first | done | with_reducible rfl)
    simp only [Act.put, zd, ze, zf]
    refine done_ (by kernel_rfl) ?_
    go_wp2_with fail
    go_ret2
    exact ⟨r, a, hnear, HRES.out, ((HO.out.trans HOJ.out).trans HOK.out).trans hHeld⟩
set_option linter.unusedVariables false in
set_option linter.unusedSimpArgs false in
set_option maxRecDepth 100000 in
set_option maxHeartbeats 8000000 in
theorem to_any32 (gq : Nat) (oq : Option Nat) (z e : Int) (more : Bool) (fid : Nat) (tf : Int → Bool → Int) (can : Int → Int) (w : World) (hq : IsInt w gq oq z) (hz : z ≠ 0) (he0 : -4000000 ≤ e) (he1 : e ≤ 4000000) (hfit : Fits (2 * Int.natAbs z + 1)) (hen : ∀ (args : Array Value) (w : World), (callFunc fid args).run Tryz.prog w = .ok (.enter fid args) w)
    (HT : ∀ (b : Int) (u : Bool) (W : World), Flt.I64 b → Calls Tryz.prog fid #[.int .i64 b, .int .i64 32, .bool u] W fun en w' => en = .returned (.int .i64 (tf b u)) ∧ Only W w' (fun _ => False)) (hcan : ∀ b, F.bits_Canon.f 2 b 32 = some (can b)) :
    Calls Tryz.prog 39 #[.agg #[.pointer (some ⟨gq, 0, none⟩), .int .i64 e, .bool more], .int .i64 32, .agg #[.func (.func fid) #[] #[]]] w fun en w' => ∃ (r : Nat) (a : Int), Near2 8388608 2139095040 (2 * Int.natAbs z + mi more) (e - 1 + 149) (decide (z < 0)) r a ∧
      en = .returned (.tuple #[.int .i64 (can (if a = 0 then b32 (decide (z < 0)) r else tf (b32 (decide (z < 0)) r) (a == 1))), .bool (a != 0 || more)]) ∧ Only w w' (fun _ => False) := by
  obtain ⟨wA, hwA, h1, h2, hoA, hsA⟩ : ∃ wA, wA = ((w.alloc (.cells #[.pointer (some ⟨gq, 0, none⟩), .int .i64 e, .bool more] 46)).alloc (.cells #[.func (.func fid) #[] #[]] 78)) ∧ wA.heap[w.heap.size]? = some (.cells #[.pointer (some ⟨gq, 0, none⟩), .int .i64 e, .bool more] 46 (0, 0)) ∧ wA.heap[w.heap.size + 1]? = some (.cells #[.func (.func fid) #[] #[]] 78 (0, 0)) ∧ Only w wA (fun _ => False) ∧ w.heap.size + 1 < wA.heap.size :=
    ⟨_, rfl, heap_two' w _ _, heap_two w _ _, ((Only.refl w (fun _ => False)).alloc _).alloc _, by simp⟩
  have hqA := hq.only hoA (fun h => h) (fun _ _ h => h)
  obtain ⟨wB, hwB, hA, hB, hoB⟩ : ∃ wB, wB = (wA.alloc (.cells #[.bool false, .slice none 0 0] 87)).alloc (.cells #[.bool false, .slice none 0 0] 87) ∧ IsInt wB wA.heap.size none 0 ∧ IsInt wB (wA.heap.size + 1) none 0 ∧ Only wA wB (fun _ => False) :=
    ⟨_, rfl, (isInt_alloc wA).alloc_ _, by simpa using isInt_alloc (wA.alloc (.cells #[.bool false, .slice none 0 0] 87)), ((Only.refl wA (fun _ => False)).alloc _).alloc _⟩
  have hbx : ∀ W, Only wA W (fun _ => False) → W.cell? ⟨w.heap.size, 0, none⟩ = some (.pointer (some ⟨gq, 0, none⟩)) ∧ W.cell? ⟨w.heap.size, 1, none⟩ = some (.int .i64 e) ∧ W.cell? ⟨w.heap.size, 2, none⟩ = some (.bool more) ∧ W.cell? ⟨w.heap.size + 1, 0, none⟩ = some (.func (.func fid) #[] #[]) := fun W hW => by
    have a := (hW.kept _ (blk_lt h1) (fun h => h)).trans h1
    have b := (hW.kept _ (blk_lt h2) (fun h => h)).trans h2
    exact ⟨blk_cell a 0, blk_cell a 1, blk_cell a 2, blk_cell b 0⟩
  have HBX := Lib.hid hbx
  have hF1 : Fits ((Int.natAbs z : Nat) : Int) := hfit.le (by omega)
  have hF2 : Fits ((Int.natAbs (((Int.natAbs z : Nat) : Int) * 2 ^ 1) : Nat) : Int) := hfit.le (by omega)
  have hF3 : Fits (((Int.natAbs z : Nat) : Int) * 2 ^ 1) := hfit.le (by omega)
  have HQ := Lib.hid (And.intro hqA (And.intro hF1 (And.intro hF3 hfit)))
  have HO := Lib.hid hoA
  have hlq : gq < wA.heap.size := hqA.lt
  have HLQ := Lib.hid hlq
  have HSA := Lib.hid hsA
  have hew : IntKind.i64.wrap (e - 1) = e - 1 := by rw [IntKind.wrap_i64]; omega
  have hm : min (max (e - 1) (-4194304)) 4194304 = e - 1 := by omega
  have HC := Lib.hid hcan
  have HTT := Lib.hid HT
  clear hbx hqA hF1 hF2 hF3 hoA hlq hsA h1 h2 hq hcan HT hfit
  go_enter Tryz.func39, Tryz.ntmps39
  go_upto_region 1 with (fail)
  rw [← hwA]
  clear hwA
  obtain ⟨c0, c1, c2, d0⟩ := HBX.out _ (((Only.refl wA (fun _ => False)).alloc (.cells #[.bool false, .slice none 0 0] 87)).alloc (.cells #[.bool false, .slice none 0 0] 87))
  go_wp2_with fail
  rw [← hwB]
  clear hwB c0 c1 c2 d0
  refine (abs_int (wA.heap.size + 1) gq none oq 0 z wB hB (HQ.out.1.only hoB (fun h => h) (fun _ _ h => h)) HQ.out.2.1 (by have := HLQ.out; omega)).mono ?_
  rintro en wC ⟨rfl, hP⟩
  have hAC : IsInt wC wA.heap.size none 0 := by
    obtain ⟨_, _, ho, _⟩ := hP
    exact hA.keep hB ho (by omega) (fun b h => by cases h)
  obtain ⟨⟨oB, hBC, _, _⟩, hoC⟩ := New.put (B := wA.heap.size) rfl hoB (Nat.le_succ _) (fun b h => by cases h) hP
  clear hP hA hB hoB
  obtain ⟨c0, c1, c2, d0⟩ := HBX.out wC (hoC)
  go_wp2_with fail
  refine (lsh_int wA.heap.size (wA.heap.size + 1) none oB 0 (Int.natAbs z) 1 wC hAC hBC (by simpa using HQ.out.2.1) (by decide) (by decide)).mono ?_
  rintro en wD ⟨rfl, hP⟩
  obtain ⟨⟨oA, hAD, _, hoAb⟩, hoD⟩ := New.put (B := wA.heap.size) rfl hoC (Nat.le_refl _) (fun b h => by cases h) hP
  clear hP hBC hAC hoC c0 c1 c2 d0
  obtain ⟨c0, c1, c2, d0⟩ := HBX.out wD (hoD)
  go_upto_if 24 with (fail)
  go_cut [] (fun wx => Only wA wx (fun _ => False) ∧ ∃ o, IsInt wx wA.heap.size o (2 * Int.natAbs z + mi more) ∧ ∀ b, o = some b → wA.heap.size ≤ b)
  case first =>
    cases more
    · go_wp2_with fail
      go_meet
      exact ⟨hoD, oA, by rw [show (2 * Int.natAbs z + mi false : Int) = ((Int.natAbs z : Nat) : Int) * 2 ^ 1 by simp [mi]; omega]; exact hAD, hoAb⟩
    · go_wp2_with fail
      refine (newInt_any 1 wD (by decide) (by decide)).mono ?_
      rintro en wE ⟨g1, rfl, ⟨o1, h1E, _, _⟩, hoE0⟩
      have hAE := hAD.only hoE0 (fun h => h) (fun _ _ h => h)
      have hoE := hoD.trans hoE0
      go_wp2_with fail
      refine (or_int wA.heap.size wA.heap.size g1 oA oA o1 (((Int.natAbs z : Nat) : Int) * 2 ^ 1) (((Int.natAbs z : Nat) : Int) * 2 ^ 1) 1 1 wE hAE hAE h1E (by omega) (by decide) HQ.out.2.2.1 (by decide) (by omega) (by decide)).mono ?_
      rintro en wF ⟨rfl, hP⟩
      obtain ⟨⟨oF, hAF, _, hoFb⟩, hoF⟩ := New.put (B := wA.heap.size) rfl hoE (Nat.le_refl _) hoAb hP
      go_wp2_with fail
      go_meet
      exact ⟨hoF, oF, by rw [show (2 * Int.natAbs z + mi true : Int) = ((Int.natAbs z : Nat) : Int) * 2 ^ 1 + 1 by simp [mi]; omega]; exact hAF, hoFb⟩
  case rest =>
  obtain ⟨hoF, oF, hAF, hoFb⟩ := hcut
  obtain ⟨wG, hwG⟩ : ∃ wG, wG = wc := ⟨_, rfl⟩
  rw [← hwG] at hoF hAF ⊢
  clear hoD hAD hoAb c0 c1 c2 d0 hwG
  obtain ⟨c0, c1, c2, d0⟩ := HBX.out wG hoF
  have hmi := mi_cases more
  go_wp2_with fail
  refine (sign_int gq oq z wG (HQ.out.1.only hoF (fun h => h) (fun _ _ h => h))).mono ?_
  rintro en w' ⟨rfl, hw⟩
  rw [hw]
  clear hw w'
  have hsd := sign_neg z
  obtain ⟨Z, hZ⟩ : ∃ Z : Int, Z = if z < 0 then -(2 * Int.natAbs z + mi more) else 2 * Int.natAbs z + mi more := ⟨_, rfl⟩
  have hZa : (Int.natAbs Z : Int) = 2 * Int.natAbs z + mi more := by rw [hZ]; split <;> omega
  have hZn : decide (Z < 0) = decide (z < 0) := by rw [decide_eq_decide, hZ]; split <;> omega
  have HZ := Lib.hid (And.intro hZa hZn)
  clear hZa hZn
  go_upto_if 33 with (fail)
  go_cut [] (fun wx => Only wA wx (fun _ => False) ∧ ∃ o, IsInt wx wA.heap.size o Z)
  case first =>
    by_cases hneg : z < 0
    · have hsd2 : decide (z < 0) = true := by rw [decide_eq_true_eq]; exact hneg
      rw [if_pos hneg] at hZ
      go_wp2_with fail
      refine (neg_int wA.heap.size oF _ wG hAF).mono ?_
      rintro en wF ⟨rfl, hP⟩
      obtain ⟨⟨oF2, hAF2, _, _⟩, hoF2⟩ := New.put (B := wA.heap.size) rfl hoF (Nat.le_refl _) hoFb hP
      go_wp2_with fail
      go_meet
      exact ⟨hoF2, oF2, by rw [hZ]; exact hAF2⟩
    · have hsd2 : decide (z < 0) = false := by rw [decide_eq_false_iff_not]; exact hneg
      rw [if_neg hneg] at hZ
      go_wp2_with fail
      go_meet
      exact ⟨hoF, oF, by rw [hZ]; exact hAF⟩
  case rest =>
  obtain ⟨hoG0, oG, hAG⟩ := hcut
  clear hoF hAF hoFb c0 c1 c2 d0 hsd hZ
  go_wp2_with fail
  refine (setInt_any wc.heap.size wA.heap.size oG Z _ (heap_alloc_new wc _) (hAG.alloc_ _) (by have := HZ.out.1; omega) (by rw [HZ.out.1]; exact HQ.out.2.2.2.le (by omega))).mono ?_
  rintro en wH ⟨rfl, ⟨b, c, m, k, ys, hfH, hbH, hmant, hwhole, hbl, hk0, hk2, hkm, hkm2, hnum, hbb⟩, hoG⟩
  rw [Int.add_zero] at hfH
  have hsF := hoG0.base.size
  have hbb2 : wA.heap.size ≤ b := by simp at hbb; omega
  have hoH : Only wA wH (fun _ => False) := (hoG0.alloc _).step hoG (by rintro i hi rfl; omega)
  have HN := Lib.hid (And.intro hnum (And.intro hmant hwhole))
  obtain ⟨p, hp⟩ : ∃ p, p = max k 64 := ⟨_, rfl⟩
  have hpr : 64 ≤ p ∧ p < 4294967296 := by omega
  rw [← hp] at hfH
  have HP := Lib.hid hp
  clear hAG hoG hbb hmant hwhole hnum hbl hp
  obtain ⟨c0, c1, c2, d0⟩ := HBX.out wH hoH
  go_wp2_with fail
  refine (setMantExp_any wc.heap.size b c m p ys 0 k (e - 1) _ wH hfH hbH HN.out.2.1 (by rw [HP.out]; exact HN.out.2.2) (by omega) (by omega) (by omega) (by omega)).mono ?_
  rintro en wI ⟨rfl, hfI, hbI, hoI0⟩
  have hoI : Only wA wI (fun _ => False) := hoH.step hoI0 (by rintro i hi (rfl | rfl) <;> omega)
  clear hfH hbH hoI0 c0 c1 c2 d0 hm hoH hoG0
  go_wp2_with fail
  refine (float32_all wc.heap.size b c m p ys (k + (e - 1)) _ wI hfI hbI HN.out.2.1 hpr.1 hpr.2 (by omega) (by omega)).mono ?_
  rintro en wJ ⟨v, r, a, rfl, hv, hnear, hoJ0⟩
  rw [HZ.out.2] at hv hnear
  have hrI := hnear.le
  have hbv := b32_of _ v r hv hrI
  have hnear : Near2 8388608 2139095040 (2 * Int.natAbs z + mi more) (e - 1 + 149) (decide (z < 0)) r a := by
    rw [HN.out.1, HZ.out.1] at hnear
    obtain ⟨K, up, ex, hK, h1, h2⟩ := hnear
    have hs := hK.shift (64 * m - k) rfl
    rw [show (k + (e - 1) - 64 * (m : Int) + 149) + ((64 * m - k : Nat) : Int) = e - 1 + 149 by omega] at hs
    exact ⟨K, up, ex, hs, h1, h2⟩
  have hoJ := hoI.trans hoJ0
  have HOJ := Lib.hid hoJ
  have hord := not_nan32 _ v r hv hrI
  have hI64 := b32_I (decide (z < 0)) r hrI
  clear hfI hbI hoJ0 hoI hsF hbb2 hv
  go_wp2_with fail
  refine (of32_num v wJ hord).mono ?_
  rintro en w' ⟨rfl, hw⟩
  rw [← hw]
  clear hw w'
  have HB2 : Hid (∀ W, Only wJ W (fun _ => False) → W.cell? ⟨w.heap.size, 2, none⟩ = some (.bool more)) := Lib.hid (fun W hW => (HBX.out _ (HOJ.out.trans hW)).2.2.1)
  have HV := Lib.hid hbv
  obtain ⟨T, hT⟩ : ∃ T, T = b32 (decide (z < 0)) r := ⟨_, rfl⟩
  rw [hbv, ← hT]
  rw [← hT] at hI64
  by_cases ha : a = 0
  · have hcan := HC.out T
    have ha2 : (a != 0) = false := by rw [ha]; rfl
    have HRES : Hid (Ending.returned (.tuple #[.int .i64 (can T), .bool more]) = .returned (.tuple #[.int .i64 (can (if a = 0 then b32 (decide (z < 0)) r else tf (b32 (decide (z < 0)) r) (a == 1))), .bool (a != 0 || more)])) := Lib.hid (by rw [if_pos ha, ha2, hT]; rfl)
    clear hT hbv
    go_upto_region 16 with (fail)
    refine start_ (S := (fun W => Only wJ W (fun _ => False))) (ds := ([] : List Nat)) #[false, false, false, false, false, false, false, false, false, false, false] (by kernel_rfl) rfl rfl ?_ (fun hHeld => ?_)
    · exact (Only.refl wJ _).drew
    generalize wJ.drew = W1 at *
    refine pure_ (i := 0) (oi := ?o0) (v := ?v0) #[true, false, false, false, false, false, false, false, false, false, false] ?h0 rfl (by kernel_rfl) ?q0 (Or.inl ⟨?w0, ?y0⟩) rfl ?r0
    case h0 => (simp only [ga, gb, gc]; rfl)
    case q0 => exact fun _ _ _ h => h
    case w0 => rfl
    case y0 => (intro W; go_simp; first | done | with_reducible rfl)
    simp only [Act.put, zd, ze, zf]
    refine pure_ (i := 1) (oi := ?o1) (v := ?v1) #[true, true, false, false, false, false, false, false, false, false, false] ?h1 rfl (by kernel_rfl) ?q1 (Or.inl ⟨?w1, ?y1⟩) rfl ?r1
    case h1 => (simp only [ga, gb, gc]; rfl)
    case q1 => exact fun _ _ _ h => h
    case w1 => rfl
    case y1 => (intro W; go_simp; first | done | with_reducible rfl)
    simp only [Act.put, zd, ze, zf]
    refine pure_ (i := 3) (oi := ?o2) (v := ?v2) #[true, true, false, true, false, false, false, false, false, false, false] ?h2 rfl (by kernel_rfl) ?q2 (Or.inl ⟨?w2, ?y2⟩) rfl ?r2
    case h2 => (simp only [ga, gb, gc]; rfl)
    case q2 => exact fun _ _ _ h => h
    case w2 => rfl
    case y2 => (intro W; go_simp; first | done | with_reducible rfl)
    simp only [Act.put, zd, ze, zf]
    refine pure_ (i := 4) (oi := ?o3) (v := ?v3) #[true, true, false, true, true, false, false, false, false, false, false] ?h3 rfl (by kernel_rfl) ?q3 (Or.inl ⟨?w3, ?y3⟩) rfl ?r3
    case h3 => (simp only [ga, gb, gc]; rfl)
    case q3 => exact fun _ _ _ h => h
    case w3 => rfl
    case y3 => (intro W; go_simp; first | done | with_reducible rfl)
    simp only [Act.put, zd, ze, zf]
    refine wpAnyLast_ready (rs := [2]) (by kernel_rfl) (by simp) ?_
    refine AllReadyL.cons (o := ?o4) ?h4 (by simp) (fun K hK => ?s4) ?m4
    case h4 => (simp only [ga, gb, gc]; rfl)
    case m4 => exact AllReadyL.nil
    go_simp
    go_at_call 8
    refine (F.bits_Canon.calls 2 _ _ _ W1 hcan).mono ?_
    rintro en W2 ⟨rfl, ho⟩
    replace ho := Only.of_below ho
    refine hK.out _ _ (hHeld.trans ho) (fun hHeldN => ?_)
    clear hK K hHeld ho
    have hHeld := hHeldN
    clear hHeldN
    simp only [Act.put, zd, ze, zf]
    refine pure_ (i := 5) (oi := ?o5) (v := ?v5) #[true, true, true, true, true, true, false, false, false, false, false] ?h5 rfl (by kernel_rfl) ?q5 (Or.inl ⟨?w5, ?y5⟩) rfl ?r5
    case h5 => (simp only [ga, gb, gc]; rfl)
    case q5 => exact fun _ _ _ h => h
    case w5 => rfl
    case y5 => (intro W; go_simp; first | done | with_reducible rfl)
    simp only [Act.put, zd, ze, zf]
    refine pure_ (i := 6) (oi := ?o6) (v := ?v6) #[true, true, true, true, true, true, true, false, false, false, false] ?h6 rfl (by kernel_rfl) ?q6 (Or.inl ⟨?w6, ?y6⟩) rfl ?r6
    case h6 => (simp only [ga, gb, gc]; rfl)
    case q6 => exact fun _ _ _ h => h
    case w6 => rfl
    case y6 => (intro W; go_simp; first | done | with_reducible rfl)
    simp only [Act.put, zd, ze, zf]
    refine pure_ (i := 9) (oi := ?o7) (v := ?v7) #[true, true, true, true, true, true, true, false, false, true, false] ?h7 rfl (by kernel_rfl) ?q7 (Or.inl ⟨?w7, ?y7⟩) rfl ?r7
    case h7 => (simp only [ga, gb, gc]; rfl)
    case q7 => exact fun _ _ _ h => h
    case w7 => rfl
    case y7 => (intro W; go_simp; first | done | with_reducible rfl)
    simp only [Act.put, zd, ze, zf]
    refine wpAnyLast_take (i := 7) (oi := ?o8) (v := ?v8) ?h8 (by kernel_rfl) (by kernel_rfl) (by kernel_rfl) (by kernel_rfl) (by kernel_rfl) ?q8 (Or.inl ⟨?w8, ?y8⟩) hHeld ?r8
    case h8 => (simp only [ga, gb, gc]; rfl)
    case q8 => exact fun _ _ _ h => h
    case w8 => rfl
    case y8 => (intro W hSw; have q7 := HB2.out _ hSw; go_simp; first | done | with_reducible rfl)
    simp only [Act.put, zd, ze, zf]
    refine pure_ (i := 8) (oi := ?o9) (v := ?v9) #[true, true, true, true, true, true, true, true, true, true, false] ?h9 rfl (by kernel_rfl) ?q9 (Or.inl ⟨?w9, ?y9⟩) rfl ?r9
    case h9 => (simp only [ga, gb, gc]; rfl)
    case q9 => exact fun _ _ _ h => h
    case w9 => rfl
    case y9 => (intro W; go_simp; first | done | with_reducible rfl)
    simp only [Act.put, zd, ze, zf]
    refine pure_ (i := 10) (oi := ?o10) (v := ?v10) #[true, true, true, true, true, true, true, true, true, true, true] ?h10 rfl (by kernel_rfl) ?q10 (Or.inl ⟨?w10, ?y10⟩) rfl ?r10
    case h10 => (simp only [ga, gb, gc]; rfl)
    case q10 => exact fun _ _ _ h => h
    case w10 => rfl
    case y10 => (intro W; go_simp; first | done | with_reducible rfl)
    simp only [Act.put, zd, ze, zf]
    refine done_ (by kernel_rfl) ?_
    go_wp2_with fail
    go_ret2
    exact ⟨r, a, hnear, HRES.out, (HO.out.trans HOJ.out).trans hHeld⟩
  · have hcan := HC.out (tf T (a == 1))
    have ha2 : (a != 0) = true := by rw [bne_iff_ne]; exact ha
    have d0 := (HBX.out _ HOJ.out).2.2.2
    have HRES : Hid (Ending.returned (.tuple #[.int .i64 (can (tf T (a == 1))), .bool true]) = .returned (.tuple #[.int .i64 (can (if a = 0 then b32 (decide (z < 0)) r else tf (b32 (decide (z < 0)) r) (a == 1))), .bool (a != 0 || more)])) := Lib.hid (by rw [if_neg ha, ha2, hT]; rfl)
    clear hT hbv
    go_wp2_with fail
    refine (HTT.out T (a == 1) wJ hI64).mono ?_
    rintro en wK ⟨rfl, hoK⟩
    have HOK := Lib.hid hoK
    clear d0 hoK
    go_upto_region 16 with (fail)
    refine start_ (S := (fun W => Only wK W (fun _ => False))) (ds := ([] : List Nat)) #[false, false, false, false, false, false, false, false, false, false, false] (by kernel_rfl) rfl rfl ?_ (fun hHeld => ?_)
    · exact (Only.refl wK _).drew
    generalize wK.drew = W101 at *
    refine pure_ (i := 0) (oi := ?o100) (v := ?v100) #[true, false, false, false, false, false, false, false, false, false, false] ?h100 rfl (by kernel_rfl) ?q100 (Or.inl ⟨?w100, ?y100⟩) rfl ?r100
    case h100 => (simp only [ga, gb, gc]; rfl)
    case q100 => exact fun _ _ _ h => h
    case w100 => rfl
    case y100 => (intro W; go_simp; first | done | with_reducible rfl)
    simp only [Act.put, zd, ze, zf]
    refine pure_ (i := 1) (oi := ?o101) (v := ?v101) #[true, true, false, false, false, false, false, false, false, false, false] ?h101 rfl (by kernel_rfl) ?q101 (Or.inl ⟨?w101, ?y101⟩) rfl ?r101
    case h101 => (simp only [ga, gb, gc]; rfl)
    case q101 => exact fun _ _ _ h => h
    case w101 => rfl
    case y101 => (intro W; go_simp; first | done | with_reducible rfl)
    simp only [Act.put, zd, ze, zf]
    refine pure_ (i := 3) (oi := ?o102) (v := ?v102) #[true, true, false, true, false, false, false, false, false, false, false] ?h102 rfl (by kernel_rfl) ?q102 (Or.inl ⟨?w102, ?y102⟩) rfl ?r102
    case h102 => (simp only [ga, gb, gc]; rfl)
    case q102 => exact fun _ _ _ h => h
    case w102 => rfl
    case y102 => (intro W; go_simp; first | done | with_reducible rfl)
    simp only [Act.put, zd, ze, zf]
    refine pure_ (i := 4) (oi := ?o103) (v := ?v103) #[true, true, false, true, true, false, false, false, false, false, false] ?h103 rfl (by kernel_rfl) ?q103 (Or.inl ⟨?w103, ?y103⟩) rfl ?r103
    case h103 => (simp only [ga, gb, gc]; rfl)
    case q103 => exact fun _ _ _ h => h
    case w103 => rfl
    case y103 => (intro W; go_simp; first | done | with_reducible rfl)
    simp only [Act.put, zd, ze, zf]
    refine wpAnyLast_ready (rs := [2]) (by kernel_rfl) (by simp) ?_
    refine AllReadyL.cons (o := ?o104) ?h104 (by simp) (fun K hK => ?s104) ?m104
    case h104 => (simp only [ga, gb, gc]; rfl)
    case m104 => exact AllReadyL.nil
    go_simp
    go_at_call 8
    refine (F.bits_Canon.calls 2 _ _ _ W101 hcan).mono ?_
    rintro en W102 ⟨rfl, ho⟩
    replace ho := Only.of_below ho
    refine hK.out _ _ (hHeld.trans ho) (fun hHeldN => ?_)
    clear hK K hHeld ho
    have hHeld := hHeldN
    clear hHeldN
    simp only [Act.put, zd, ze, zf]
    refine pure_ (i := 5) (oi := ?o105) (v := ?v105) #[true, true, true, true, true, true, false, false, false, false, false] ?h105 rfl (by kernel_rfl) ?q105 (Or.inl ⟨?w105, ?y105⟩) rfl ?r105
    case h105 => (simp only [ga, gb, gc]; rfl)
    case q105 => exact fun _ _ _ h => h
    case w105 => rfl
    case y105 => (intro W; go_simp; first | done | with_reducible rfl)
    simp only [Act.put, zd, ze, zf]
    refine pure_ (i := 9) (oi := ?o106) (v := ?v106) #[true, true, true, true, true, true, false, false, false, true, false] ?h106 rfl (by kernel_rfl) ?q106 (Or.inl ⟨?w106, ?y106⟩) rfl ?r106
    case h106 => (simp only [ga, gb, gc]; rfl)
    case q106 => exact fun _ _ _ h => h
    case w106 => rfl
    case y106 => (intro W; go_simp; first | done | with_reducible rfl)
    simp only [Act.put, zd, ze, zf]
    refine pure_ (i := 6) (oi := ?o107) (v := undef) #[true, true, true, true, true, true, true, false, false, true, false] ?h107 rfl (by kernel_rfl) ?q107 (Or.inr ⟨?w107, rfl⟩) rfl ?r107
    case h107 => (simp only [ga, gb, gc]; rfl)
    case q107 => exact fun _ _ _ h => h
    case w107 => rfl
    simp only [Act.put, zd, ze, zf]
    refine pure_ (i := 7) (oi := ?o108) (v := undef) #[true, true, true, true, true, true, true, true, false, true, false] ?h108 rfl (by kernel_rfl) ?q108 (Or.inr ⟨?w108, rfl⟩) rfl ?r108
    case h108 => (simp only [ga, gb, gc]; rfl)
    case q108 => exact fun _ _ _ h => h
    case w108 => rfl
    simp only [Act.put, zd, ze, zf]
    refine pure_ (i := 8) (oi := ?o109) (v := ?v109) #[true, true, true, true, true, true, true, true, true, true, false] ?h109 rfl (by kernel_rfl) ?q109 (Or.inl ⟨?w109, ?y109⟩) rfl ?r109
    case h109 => (simp only [ga, gb, gc]; rfl)
    case q109 => exact fun _ _ _ h => h
    case w109 => rfl
    case y109 => (intro W; go_simp; first | done | with_reducible rfl)
    simp only [Act.put, zd, ze, zf]
    refine pure_ (i := 10) (oi := ?o110) (v := ?v110) #[true, true, true, true, true, true, true, true, true, true, true] ?h110 rfl (by kernel_rfl) ?q110 (Or.inl ⟨?w110, ?y110⟩) rfl ?r110
    case h110 => (simp only [ga, gb, gc]; rfl)
    case q110 => exact fun _ _ _ h => h
    case w110 => rfl
    case y110 => (intro W; go_simp; first | done | with_reducible rfl)
    simp only [Act.put, zd, ze, zf]
    refine done_ (by kernel_rfl) ?_
    go_wp2_with fail
    go_ret2
    exact ⟨r, a, hnear, HRES.out, ((HO.out.trans HOJ.out).trans HOK.out).trans hHeld⟩
end Go.Proofs.YtlfmgdpbjapdjaaGreatFmtBesafter
set_option autoImplicit false
set_option maxRecDepth 100000
namespace Go.Proofs.YtlfmgdpbjapdjaaGreatFmtBesafter
open Go.RowKit
theorem down_below (b wd : Int) (w : World) : Calls Tryz.prog 78 #[.int .i64 b, .int .i64 wd, .bool false] w fun e w' => e = .returned (.int .i64 b) ∧ w' = w := by
  go_enter Tryz.func78, Tryz.ntmps78
  go_wp2_with fail
  go_ret
  exact ⟨rfl, rfl⟩
theorem up_above (b wd : Int) (w : World) : Calls Tryz.prog 80 #[.int .i64 b, .int .i64 wd, .bool true] w fun e w' => e = .returned (.int .i64 b) ∧ w' = w := by
  go_enter Tryz.func80, Tryz.ntmps80
  go_wp2_with fail
  go_ret
  exact ⟨rfl, rfl⟩
end Go.Proofs.YtlfmgdpbjapdjaaGreatFmtBesafter
namespace Go.Proofs.YtlfmgdpbjapdjaaGreatFmtBesafter
open Go.RowKit Go.Proofs.YtlfmgdpbjapdjaaGreatFmtBesafterW.PrintWords
theorem way_first (f1 f2 f3 : Value) (w : World) : (Instr.index 79 (.agg #[f1, f2, f3]) (.int .i64 0)).run Tryz.prog w = .ok (.agg #[f1]) w := by
  have h : (Tryz.prog.info? 78).map (fun i => i.size) = some 1 := by kernel_rfl
  obtain ⟨j, hj, h2⟩ := Option.map_eq_some_iff.1 h
  simp [Instr.index, asIntOf, run_underlying Tryz.underlying79, part, sizeOf, typeInfo, hj, h2]
theorem results_round {fn : Func} {p r q : Tmp} (h : fn.results = #[.tmp p, .tmp r, .cell q 26]) (tmps : Array Value) (w : World) (E : Nat) (a b : Value) (n : Int)
    (hp : tmps.getD p undef = a) (hr : tmps.getD r undef = b) (hq : tmps.getD q undef = .pointer (some ⟨E, 0, none⟩)) (hv : w.cell? ⟨E, 0, none⟩ = some (.int .i64 n)) :
    (results fn tmps).run Tryz.prog w = .ok (.tuple #[a, b, .int .i64 n]) w := by
  have hp' : tmps[p]?.getD undef = a := by simpa using hp
  have hr' : tmps[r]?.getD undef = b := by simpa using hr
  have hq' : tmps[q]?.getD undef = .pointer (some ⟨E, 0, none⟩) := by simpa using hq
  simp [results, h, hp', hr', hq', asAddr, go_sem, hv]
theorem round_door {fn : Func} {p r q : Tmp} (h : fn.results = #[.tmp p, .tmp r, .cell q 26]) (tmps : Array Value) (w : World) (E : Nat) (a b : Value) (n : Int) (R : Ending → World → Prop)
    (hp : tmps.getD p undef = a) (hr : tmps.getD r undef = b) (hq : tmps.getD q undef = .pointer (some ⟨E, 0, none⟩)) (hE : w.cell? ⟨E, 0, none⟩ = some (.int .i64 n))
    (hR : R (.returned (.tuple #[a, b, .int .i64 n])) w) :
    Leaves Tryz.prog fn tmps R [{ target := .fn (.func 34) #[], args := #[.pointer (some ⟨E, 0, none⟩)] }] .returning w := by
  refine leaves_cons (f := 34) (args := #[.pointer (some ⟨E, 0, none⟩)]) (by simp) (by simp [go_sem]) ?_
  refine (caught_idle ⟨E, 0, none⟩ w).mono ?_
  rintro e u' w' ⟨rfl, rfl, rfl⟩
  exact ⟨_, results_round h tmps _ E _ _ n hp hr hq hE, hR⟩
set_option maxRecDepth 100000 in
set_option maxHeartbeats 8000000 in
theorem rounded_13 (b : Nat) (A A' : Option Addr) (c c' : Nat) (w : World) (hb : w.heap[b]? = some (.cells #[.bool false, .slice A 1 c, .int .i64 0, .bool false, .slice A' 1 c', .int .i64 0] 24 (0, 0))) (hr : ReadsInt w .i64 A 1 [1]) (hc : 1 ≤ c) (hr' : ReadsInt w .i64 A' 1 [3]) (hc' : 1 ≤ c') :
    Calls Tryz.prog 14 #[.int .i64 64, .int .i64 0, .slice (some ⟨b, 0, none⟩) 2 2, .func (.func 43) #[] #[]] w fun en w' => en = .returned (.tuple #[.int .i64 4599676419421066581, .bool true, .int .i64 0]) ∧ Only w w' (fun _ => False) := by
  obtain ⟨w1, hw1, hE, ho1⟩ : ∃ w1, w1 = w.alloc (.cells #[.int .i64 0] 26) ∧ w1.heap[w.heap.size]? = some (.cells #[.int .i64 0] 26 (0, 0)) ∧ Only w w1 (fun _ => False) := ⟨_, rfl, heap_alloc_new w _, (Only.refl w _).alloc _⟩
  have HOP := Lib.hid (open2_ok b false false A A' c c' [1] [3] 0 0 w1 ((ho1.kept _ (blk_lt hb) (fun h => h)).trans hb) (reads_only hr ho1 (fun _ _ h => h)) hc (by decide) (reads_only hr' ho1 (fun _ _ h => h)) hc' (by decide))
  have HE := Lib.hid (And.intro hE ho1)
  clear hb hr hr' hE ho1
  go_enter_defers Tryz.func14, Tryz.ntmps14
  go_upto_region 1 with (fail)
  rw [← hw1]
  clear hw1
  go_wp2_with fail
  refine HOP.out.mono ?_
  rintro en w2 ⟨rfl, ho2, g, g', m, hout, hm, ⟨o, hi, _⟩, ⟨o', hi', _⟩⟩
  have hi : IsInt w2 g o 1 := hi
  have hi' : IsInt w2 g' o' 3 := hi'
  go_wp2_with fail
  refine (quot1_13 w1.heap.size g g' o o' w2 hout hi hi').mono ?_
  rintro en w3 ⟨gq, oq, rfl, hq, ho3⟩
  clear hi hi' hout hm
  go_wp2_with fail
  refine (ways_calls w3).mono ?_
  rintro en w4 ⟨rfl, ho4⟩
  have hway := fun w => way_first (.func (.func 77) #[] #[]) (.func (.func 78) #[] #[]) (.func (.func 80) #[] #[]) w
  go_wp2_with fail
  refine (to_lit gq oq w4 (hq.only ho4 (fun h => h) (fun _ _ h => h))).mono ?_
  rintro en w5 ⟨rfl, ho5⟩
  obtain ⟨hE, ho1⟩ := HE.out
  have ho15 := ((ho2.trans ho3).trans ho4).trans ho5
  have hE5 := (ho15.kept _ (blk_lt hE) (fun h => h)).trans hE
  have e0 : w5.cell? ⟨w.heap.size, 0, none⟩ = some (.int .i64 0) := blk_cell hE5 0
  have fe0 := blk_frozen hE5 0
  have HF := Lib.hid (And.intro hE5 (ho1.trans ho15))
  clear hq ho2 ho3 ho4 ho5 hE ho1 ho15 hE5 HOP HE
  go_wp2_with fail
  have hE6 := blk_set HF.out.1 0 (.int .i64 0)
  refine round_door rfl _ _ w.heap.size _ _ 0 _ rfl rfl rfl (by simpa using blk_cell hE6 0) ⟨rfl, ?_⟩
  exact HF.out.2.set (.inl (Nat.le_refl _)) _
set_option maxRecDepth 100000 in
set_option maxHeartbeats 8000000 in
theorem quot_13 (A A' : Option Addr) (c c' : Nat) (w : World) (hr : ReadsInt w .i64 A 1 [1]) (hc : 1 ≤ c) (hr' : ReadsInt w .i64 A' 1 [3]) (hc' : 1 ≤ c') :
    Calls Tryz.prog 19 #[.agg #[.bool false, .slice A 1 c, .int .i64 0], .agg #[.bool false, .slice A' 1 c', .int .i64 0], .int .i64 64, .int .i64 0] w fun en w' => en = .returned (.tuple #[.int .i64 4599676419421066581, .bool true, .int .i64 0]) ∧ Only w w' (fun _ => False) := by
  have HR := Lib.hid (And.intro hr hr')
  clear hr hr'
  go_enter Tryz.func19, Tryz.ntmps19
  go_wp2_with fail
  have hb := heap_alloc_new ((w.alloc (.cells #[.bool false, .slice A 1 c, .int .i64 0] 24)).alloc (.cells #[.bool false, .slice A' 1 c', .int .i64 0] 24)) (.cells #[.bool false, .slice A 1 c, .int .i64 0, .bool false, .slice A' 1 c', .int .i64 0] 24)
  have ho := (((Only.refl w (fun _ => False)).alloc (.cells #[.bool false, .slice A 1 c, .int .i64 0] 24)).alloc (.cells #[.bool false, .slice A' 1 c', .int .i64 0] 24)).alloc (.cells #[.bool false, .slice A 1 c, .int .i64 0, .bool false, .slice A' 1 c', .int .i64 0] 24)
  refine (rounded_13 (w.heap.size + 1 + 1) A A' c c' _ (by simpa using hb) (reads_only HR.out.1 ho (fun _ _ h => h)) hc (reads_only HR.out.2 ho (fun _ _ h => h)) hc').mono ?_
  rintro en w' ⟨rfl, ho'⟩
  have HO := Lib.hid (ho.trans ho')
  clear hb ho ho'
  go_wp2_with fail
  go_ret3
  exact ⟨rfl, HO.out⟩
theorem way_at (f1 f2 f3 : Value) (w : World) : (Instr.index 79 (.agg #[f1, f2, f3]) (.int .i64 0)).run Tryz.prog w = .ok (.agg #[f1]) w ∧ (Instr.index 79 (.agg #[f1, f2, f3]) (.int .i64 1)).run Tryz.prog w = .ok (.agg #[f2]) w ∧ (Instr.index 79 (.agg #[f1, f2, f3]) (.int .i64 2)).run Tryz.prog w = .ok (.agg #[f3]) w := by
  have h : (Tryz.prog.info? 78).map (fun i => i.size) = some 1 := by kernel_rfl
  obtain ⟨j, hj, h2⟩ := Option.map_eq_some_iff.1 h
  refine ⟨?_, ?_, ?_⟩ <;> simp [Instr.index, asIntOf, run_underlying Tryz.underlying79, part, sizeOf, typeInfo, hj, h2]
set_option maxRecDepth 100000 in
set_option maxHeartbeats 8000000 in
theorem fix_calls (b g : Nat) (e : Int) (w : World) (hb : w.heap[b]? = some (.cells #[.pointer (some ⟨g, 0, none⟩), .int .i64 e] 44 (0, 0))) :
    Calls Tryz.prog 15 #[.slice (some ⟨b, 0, none⟩) 1 1] w fun en w' => en = .returned (.agg #[.pointer (some ⟨g, 0, none⟩), .int .i64 e, .bool false]) ∧ Only w w' (fun _ => False) := by
  obtain ⟨w1, hw1, h1, ho1⟩ : ∃ w1, w1 = w.alloc (.cells #[.pointer none, .int .i64 0, .bool false] 46) ∧ w1.heap[w.heap.size]? = some (.cells #[.pointer none, .int .i64 0, .bool false] 46 (0, 0)) ∧ Only w w1 (fun _ => False) := ⟨_, rfl, heap_alloc_new w _, (Only.refl w (fun _ => False)).alloc _⟩
  have hb1 := (ho1.kept _ (blk_lt hb) (fun h => h)).trans hb
  have c0 : w1.cell? ⟨b, 0, none⟩ = some (.pointer (some ⟨g, 0, none⟩)) := blk_cell hb1 0
  have c1 : w1.cell? ⟨b, 1, none⟩ = some (.int .i64 e) := blk_cell hb1 1
  have y0 : w1.cell? ⟨w.heap.size, 0, none⟩ = some (.pointer none) := blk_cell h1 0
  have y1 : w1.cell? ⟨w.heap.size, 1, none⟩ = some (.int .i64 0) := blk_cell h1 1
  have y2 : w1.cell? ⟨w.heap.size, 2, none⟩ = some (.bool false) := blk_cell h1 2
  have f0 := blk_frozen h1 0
  have f1 := blk_frozen h1 1
  have f2 := blk_frozen h1 2
  have hs : (((w1.setCell ⟨w.heap.size, 0, none⟩ (.pointer (some ⟨g, 0, none⟩))).setCell ⟨w.heap.size, 1, none⟩ (.int .i64 e)).setCell ⟨w.heap.size, 2, none⟩ (.bool false)).heap[w.heap.size]? = some (.cells #[.pointer (some ⟨g, 0, none⟩), .int .i64 e, .bool false] 46 (0, 0)) ∧ Only w (((w1.setCell ⟨w.heap.size, 0, none⟩ (.pointer (some ⟨g, 0, none⟩))).setCell ⟨w.heap.size, 1, none⟩ (.int .i64 e)).setCell ⟨w.heap.size, 2, none⟩ (.bool false)) (fun _ => False) :=
    ⟨by simpa using blk_set (blk_set (blk_set h1 0 (.pointer (some ⟨g, 0, none⟩))) 1 (.int .i64 e)) 2 (.bool false), ((ho1.set (.inl (Nat.le_refl _)) _).set (.inl (Nat.le_refl _)) _).set (.inl (Nat.le_refl _)) _⟩
  have HS := Lib.hid hs
  clear hb hb1 h1 ho1 hs
  go_enter Tryz.func15, Tryz.ntmps15
  go_upto_region 1 with (fail)
  rw [← hw1]
  clear hw1
  go_wp2_with fail
  exact bodyPost_ret (results_cell_row rfl _ _ w.heap.size 46 #[.pointer (some ⟨g, 0, none⟩), .int .i64 e, .bool false] (0, 0) _ rfl HS.out.1 Tryz.underlying46 rfl (by kernel_rfl)) rfl ⟨rfl, HS.out.2⟩
end Go.Proofs.YtlfmgdpbjapdjaaGreatFmtBesafter
namespace Go.Proofs.YtlfmgdpbjapdjaaGreatFmtBesafter.F
open Go.RowKit Go.Proofs.YtlfmgdpbjapdjaaGreatFmtBesafterW.PrintWords Go.Proofs.YtlfmgdpbjapdjaaGreatFmtBesafterW.PrintLast Go.Proofs.YtlfmgdpbjapdjaaGreatFmtBesafterW.PrintMore
attribute [local go_sem] max2_int min2_int max_two min_two max_three min_three max_four min_four   -- for this text's walks alone
set_option linter.unusedVariables false
set_option linter.unusedSimpArgs false
def bits_Neg.f (k : Nat) (a0 : Int) (a1 : Int) : Option (Int) := (bits_of.f a1).bind fun bt372 => (if bt372.2.2.2.2 = true then ((bits_Class.f k a0 a1).bind fun t378 => (if t378 = 4 then ((bits_nan.f a1).bind fun t379 => (some t379)) else (some (Go.bits .xor .i64 a0 bt372.2.2.2.1)))) else (some 0))
theorem bits_Neg.mono : ∀ a0 a1 k, LeO (bits_Neg.f k a0 a1) (bits_Neg.f (k + 1) a0 a1) := by
  intro a0 a1 k
  unfold bits_Neg.f
  repeat' first
      | (with_reducible exact bits_Class.mono _ _ _)
      | (with_reducible exact LeO.refl _)
      | (with_reducible exact LeO.none _)
      | (with_reducible refine LeO.ite ?_ ?_)
      | (with_reducible refine LeO.bind ?_ (fun _ => ?_))
      | exact bits_Class.mono _ _ _
      | exact LeO.none _
      | refine LeO.ite ?_ ?_
      | refine LeO.bind ?_ (fun _ => ?_)
set_option maxHeartbeats 8000000 in
set_option maxRecDepth 100000 in
theorem bits_Neg.calls (k : Nat) (a0 : Int) (a1 : Int) (r : Int) (w : World) (h : bits_Neg.f k a0 a1 = some r) :
    Calls Tryz.prog 102 #[.int .i64 a0, .int .i64 a1] w fun e w' => e = .returned (.int .i64 r) ∧ Below w.heap.size w w' := by
  have hu95 := Tryz.underlying95
  have HB := Aside0.mk (Below.refl w.heap.size w)
  have H : ((bits_of.f a1).bind fun bt372 => (if bt372.2.2.2.2 = true then ((bits_Class.f k a0 a1).bind fun t378 => (if t378 = 4 then ((bits_nan.f a1).bind fun t379 => (some t379)) else (some (Go.bits .xor .i64 a0 bt372.2.2.2.1)))) else (some 0))) = some r := h
  clear h
  replace H := Option.bind_eq_some_iff.mp H
  obtain ⟨⟨t372, t373, t374, t375, t376⟩, A30, H⟩ := H
  replace H : (if t376 = true then ((bits_Class.f k a0 a1).bind fun t378 => (if t378 = 4 then ((bits_nan.f a1).bind fun t379 => (some t379)) else (some (Go.bits .xor .i64 a0 t375)))) else (some 0)) = some r := H
  have A3 := Aside0.mk A30
  clear A30
  by_cases c4 : t376 = true
  · subst c4
    have H1 : ((bits_Class.f k a0 a1).bind fun t378 => (if t378 = 4 then ((bits_nan.f a1).bind fun t379 => (some t379)) else (some (Go.bits .xor .i64 a0 t375)))) = some r := by rw [if_pos rfl] at H; exact H
    clear H
    have H := H1
    clear H1
    replace H := Option.bind_eq_some_iff.mp H
    obtain ⟨t378, A50, H⟩ := H
    replace H : (if t378 = 4 then ((bits_nan.f a1).bind fun t379 => (some t379)) else (some (Go.bits .xor .i64 a0 t375))) = some r := H
    have A5 := Aside0.mk A50
    clear A50
    by_cases c6 : t378 = 4
    · rw [if_pos c6] at H
      have c6b0 : (t378 == 4) = true := beq_iff_eq.mpr c6
      have c6b1 : (t378 != 4) = false := bne_eq_false_iff_eq.mpr c6
      clear c6
      replace H := Option.bind_eq_some_iff.mp H
      obtain ⟨t379, A70, H⟩ := H
      replace H : (some t379) = some r := H
      have A7 := Aside0.mk A70
      clear A70
      obtain rfl := Option.some.inj H
      go_enter Tryz.func102, Tryz.ntmps102
      go_wp2_with (first | ((with_reducible refine gate_callee (f := 49) rfl ?_); refine goesL_ (some 9) rfl rfl Tryz.func49 (by kernel_rfl) rfl #[.int .i64 a1] rfl (by (try simp only [List.map_toArray, List.map_cons, List.map_nil]); first | done | rfl | (simp only [List.length_drop, List.length_take]; rfl)) ?_; (with_reducible refine (bits_of.calls a1 t372 t373 t374 t375 true _ A3.out).mono ?_); rintro e w8 ⟨rfl, hb⟩; refine ⟨_, rfl, ?_⟩; have n0_ := Aside0.mk (below_step (by repeat (first | (with_reducible first | exact HB.out | apply below_alloc | apply pw_below_drewN | apply below_drew1) | exact HB.out)) hb); clear HB; have HB := n0_; clear n0_; (try clear hb); (try clear hb2); (try clear hk); (try clear hi)) | ((with_reducible refine gate_dst (N := 5) rfl ?_); refine box_event ?hg (N := 5) ?hd (cs := #[.int .i64 0, .int .i64 0, .int .i64 0, .int .i64 0]) (t := 95) ?hr ?_; (case hd => rfl); (case hg => rfl); (case hr => first | (go_simp; done) | (go_simp; rfl)); intro gb377 hg w9 hbox hb; have n0_ := Aside0.mk (below_step (by repeat (first | (with_reducible first | exact HB.out | apply below_alloc | apply pw_below_drewN | apply below_drew1) | exact HB.out)) hb); have n1_ := Aside0.mk (hbox); have n2_ := Aside0.mk ((by rw [hg]; exact (below_size (by repeat (first | (with_reducible first | exact HB.out | apply below_alloc | apply pw_below_drewN | apply below_drew1) | exact HB.out))) : w.heap.size ≤ gb377)); have n3_ := Aside0.mk ((by rw [hg]; exact (below_size (by repeat (first | (with_reducible first | exact HB.out | apply below_alloc | apply pw_below_drewN | apply below_drew1) | exact HB.out))) : w.heap.size ≤ gb377)); clear HB; have HB := n0_; have BK377 := n1_; have GW377 := n2_; have GE377 := n3_; clear n0_ n1_ n2_ n3_; clear hb hbox hg; have hcz10_0 : w9.cell? ⟨gb377, 0, none⟩ = some (.int .i64 0) := (blk_cell BK377.out 0).trans rfl; have hcz10_1 : w9.cell? ⟨gb377, 1, none⟩ = some (.int .i64 0) := (blk_cell BK377.out 1).trans rfl; have hcz10_2 : w9.cell? ⟨gb377, 2, none⟩ = some (.int .i64 0) := (blk_cell BK377.out 2).trans rfl; have hcz10_3 : w9.cell? ⟨gb377, 3, none⟩ = some (.int .i64 0) := (blk_cell BK377.out 3).trans rfl; have hfz10_0 := blk_frozen BK377.out 0; have hfz10_1 := blk_frozen BK377.out 1; have hfz10_2 := blk_frozen BK377.out 2; have hfz10_3 := blk_frozen BK377.out 3) | ((with_reducible refine gate_callee (f := 22) rfl ?_); refine goesL_ (some 16) rfl rfl Tryz.func22 (by kernel_rfl) rfl #[.int .i64 a0, .int .i64 a1] rfl (by (try simp only [List.map_toArray, List.map_cons, List.map_nil]); first | done | rfl | (simp only [List.length_drop, List.length_take]; rfl)) ?_; (with_reducible refine (bits_Class.calls k a0 a1 t378 _ A5.out).mono ?_); rintro e w11 ⟨rfl, hb⟩; refine ⟨_, rfl, ?_⟩; have n0_ := Aside0.mk (blk_below (g := gb377) (o := .cells #[.int .i64 t372, .int .i64 t373, .int .i64 t374, .int .i64 t375] 95 (0, 0)) (by (with_reducible repeat (first | refine blk_drewN ?_ _ | refine blk_drew ?_ | refine blk_alloc ?_ _)); refine blk_put (cs := #[.int .i64 t372, .int .i64 t373, .int .i64 t374, .int .i64 0]) ?_ 3 _ rfl; (with_reducible repeat (first | refine blk_drewN ?_ _ | refine blk_drew ?_ | refine blk_alloc ?_ _)); refine blk_put (cs := #[.int .i64 t372, .int .i64 t373, .int .i64 0, .int .i64 0]) ?_ 2 _ rfl; (with_reducible repeat (first | refine blk_drewN ?_ _ | refine blk_drew ?_ | refine blk_alloc ?_ _)); refine blk_put (cs := #[.int .i64 t372, .int .i64 0, .int .i64 0, .int .i64 0]) ?_ 1 _ rfl; (with_reducible repeat (first | refine blk_drewN ?_ _ | refine blk_drew ?_ | refine blk_alloc ?_ _)); refine blk_put (cs := #[.int .i64 0, .int .i64 0, .int .i64 0, .int .i64 0]) ?_ 0 _ rfl; (with_reducible repeat (first | refine blk_drewN ?_ _ | refine blk_drew ?_ | refine blk_alloc ?_ _)); exact BK377.out) hb); have n1_ := Aside0.mk (below_step (by repeat (first | (with_reducible first | exact HB.out | apply below_alloc | apply pw_below_drewN | apply below_drew1 | refine below_set ?_ GE377.out) | exact HB.out)) hb); clear BK377; clear HB; have BK377 := n0_; have HB := n1_; clear n0_ n1_; (try clear hb); (try clear hb2); (try clear hk); (try clear hi)) | ((with_reducible refine gate_callee (f := 23) rfl ?_); refine goesL_ (some 19) rfl rfl Tryz.func23 (by kernel_rfl) rfl #[.int .i64 a1] rfl (by (try simp only [List.map_toArray, List.map_cons, List.map_nil]); first | done | rfl | (simp only [List.length_drop, List.length_take]; rfl)) ?_; (with_reducible refine (bits_nan.calls a1 t379 _ A7.out).mono ?_); rintro e w' ⟨rfl, ⟨nd, rfl⟩⟩; refine ⟨_, rfl, ?_⟩))
      go_ret
      exact ⟨by first | rfl | (simp [errW_none, errW_some] <;> rfl) | (simp [*, errW_none, errW_some] <;> rfl), by repeat (first | (with_reducible first | exact HB.out | apply below_alloc | apply pw_below_drewN | apply below_drew1 | refine below_set ?_ GE377.out) | exact HB.out)⟩
    · rw [if_neg c6] at H
      have c6b0 : (t378 == 4) = false := beq_eq_false_iff_ne.mpr c6
      have c6b1 : (t378 != 4) = true := bne_iff_ne.mpr c6
      obtain rfl := Option.some.inj H
      go_enter Tryz.func102, Tryz.ntmps102
      go_wp2_with (first | ((with_reducible refine gate_callee (f := 49) rfl ?_); refine goesL_ (some 9) rfl rfl Tryz.func49 (by kernel_rfl) rfl #[.int .i64 a1] rfl (by (try simp only [List.map_toArray, List.map_cons, List.map_nil]); first | done | rfl | (simp only [List.length_drop, List.length_take]; rfl)) ?_; (with_reducible refine (bits_of.calls a1 t372 t373 t374 t375 true _ A3.out).mono ?_); rintro e w12 ⟨rfl, hb⟩; refine ⟨_, rfl, ?_⟩; have n0_ := Aside0.mk (below_step (by repeat (first | (with_reducible first | exact HB.out | apply below_alloc | apply pw_below_drewN | apply below_drew1) | exact HB.out)) hb); clear HB; have HB := n0_; clear n0_; (try clear hb); (try clear hb2); (try clear hk); (try clear hi)) | ((with_reducible refine gate_dst (N := 5) rfl ?_); refine box_event ?hg (N := 5) ?hd (cs := #[.int .i64 0, .int .i64 0, .int .i64 0, .int .i64 0]) (t := 95) ?hr ?_; (case hd => rfl); (case hg => rfl); (case hr => first | (go_simp; done) | (go_simp; rfl)); intro gb377 hg w13 hbox hb; have n0_ := Aside0.mk (below_step (by repeat (first | (with_reducible first | exact HB.out | apply below_alloc | apply pw_below_drewN | apply below_drew1) | exact HB.out)) hb); have n1_ := Aside0.mk (hbox); have n2_ := Aside0.mk ((by rw [hg]; exact (below_size (by repeat (first | (with_reducible first | exact HB.out | apply below_alloc | apply pw_below_drewN | apply below_drew1) | exact HB.out))) : w.heap.size ≤ gb377)); have n3_ := Aside0.mk ((by rw [hg]; exact (below_size (by repeat (first | (with_reducible first | exact HB.out | apply below_alloc | apply pw_below_drewN | apply below_drew1) | exact HB.out))) : w.heap.size ≤ gb377)); clear HB; have HB := n0_; have BK377 := n1_; have GW377 := n2_; have GE377 := n3_; clear n0_ n1_ n2_ n3_; clear hb hbox hg; have hcz14_0 : w13.cell? ⟨gb377, 0, none⟩ = some (.int .i64 0) := (blk_cell BK377.out 0).trans rfl; have hcz14_1 : w13.cell? ⟨gb377, 1, none⟩ = some (.int .i64 0) := (blk_cell BK377.out 1).trans rfl; have hcz14_2 : w13.cell? ⟨gb377, 2, none⟩ = some (.int .i64 0) := (blk_cell BK377.out 2).trans rfl; have hcz14_3 : w13.cell? ⟨gb377, 3, none⟩ = some (.int .i64 0) := (blk_cell BK377.out 3).trans rfl; have hfz14_0 := blk_frozen BK377.out 0; have hfz14_1 := blk_frozen BK377.out 1; have hfz14_2 := blk_frozen BK377.out 2; have hfz14_3 := blk_frozen BK377.out 3) | ((with_reducible refine gate_callee (f := 22) rfl ?_); refine goesL_ (some 16) rfl rfl Tryz.func22 (by kernel_rfl) rfl #[.int .i64 a0, .int .i64 a1] rfl (by (try simp only [List.map_toArray, List.map_cons, List.map_nil]); first | done | rfl | (simp only [List.length_drop, List.length_take]; rfl)) ?_; (with_reducible refine (bits_Class.calls k a0 a1 t378 _ A5.out).mono ?_); rintro e w15 ⟨rfl, hb⟩; refine ⟨_, rfl, ?_⟩; have n0_ := Aside0.mk (blk_below (g := gb377) (o := .cells #[.int .i64 t372, .int .i64 t373, .int .i64 t374, .int .i64 t375] 95 (0, 0)) (by (with_reducible repeat (first | refine blk_drewN ?_ _ | refine blk_drew ?_ | refine blk_alloc ?_ _)); refine blk_put (cs := #[.int .i64 t372, .int .i64 t373, .int .i64 t374, .int .i64 0]) ?_ 3 _ rfl; (with_reducible repeat (first | refine blk_drewN ?_ _ | refine blk_drew ?_ | refine blk_alloc ?_ _)); refine blk_put (cs := #[.int .i64 t372, .int .i64 t373, .int .i64 0, .int .i64 0]) ?_ 2 _ rfl; (with_reducible repeat (first | refine blk_drewN ?_ _ | refine blk_drew ?_ | refine blk_alloc ?_ _)); refine blk_put (cs := #[.int .i64 t372, .int .i64 0, .int .i64 0, .int .i64 0]) ?_ 1 _ rfl; (with_reducible repeat (first | refine blk_drewN ?_ _ | refine blk_drew ?_ | refine blk_alloc ?_ _)); refine blk_put (cs := #[.int .i64 0, .int .i64 0, .int .i64 0, .int .i64 0]) ?_ 0 _ rfl; (with_reducible repeat (first | refine blk_drewN ?_ _ | refine blk_drew ?_ | refine blk_alloc ?_ _)); exact BK377.out) hb); have n1_ := Aside0.mk (below_step (by repeat (first | (with_reducible first | exact HB.out | apply below_alloc | apply pw_below_drewN | apply below_drew1 | refine below_set ?_ GE377.out) | exact HB.out)) hb); clear BK377; clear HB; have BK377 := n0_; have HB := n1_; clear n0_ n1_; (try clear hb); (try clear hb2); (try clear hk); (try clear hi); have hcz16_0 : w15.cell? ⟨gb377, 0, none⟩ = some (.int .i64 t372) := (blk_cell BK377.out 0).trans rfl; have hcz16_1 : w15.cell? ⟨gb377, 1, none⟩ = some (.int .i64 t373) := (blk_cell BK377.out 1).trans rfl; have hcz16_2 : w15.cell? ⟨gb377, 2, none⟩ = some (.int .i64 t374) := (blk_cell BK377.out 2).trans rfl; have hcz16_3 : w15.cell? ⟨gb377, 3, none⟩ = some (.int .i64 t375) := (blk_cell BK377.out 3).trans rfl; have hfz16_0 := blk_frozen BK377.out 0; have hfz16_1 := blk_frozen BK377.out 1; have hfz16_2 := blk_frozen BK377.out 2; have hfz16_3 := blk_frozen BK377.out 3))
      go_ret
      exact ⟨by first | rfl | (simp [errW_none, errW_some] <;> rfl) | (simp [*, errW_none, errW_some] <;> rfl), by repeat (first | (with_reducible first | exact HB.out | apply below_alloc | apply pw_below_drewN | apply below_drew1 | refine below_set ?_ GE377.out) | exact HB.out)⟩
  · replace c4 := Bool.eq_false_iff.mpr c4
    subst c4
    have H1 : (some 0) = some r := by rw [if_neg (show ¬ (false = true) by decide)] at H; exact H
    clear H
    have H := H1
    clear H1
    obtain rfl := Option.some.inj H
    go_enter Tryz.func102, Tryz.ntmps102
    go_wp2_with (first | ((with_reducible refine gate_callee (f := 49) rfl ?_); refine goesL_ (some 9) rfl rfl Tryz.func49 (by kernel_rfl) rfl #[.int .i64 a1] rfl (by (try simp only [List.map_toArray, List.map_cons, List.map_nil]); first | done | rfl | (simp only [List.length_drop, List.length_take]; rfl)) ?_; (with_reducible refine (bits_of.calls a1 t372 t373 t374 t375 false _ A3.out).mono ?_); rintro e w17 ⟨rfl, hb⟩; refine ⟨_, rfl, ?_⟩; have n0_ := Aside0.mk (below_step (by repeat (first | (with_reducible first | exact HB.out | apply below_alloc | apply pw_below_drewN | apply below_drew1) | exact HB.out)) hb); clear HB; have HB := n0_; clear n0_; (try clear hb); (try clear hb2); (try clear hk); (try clear hi)) | ((with_reducible refine gate_dst (N := 5) rfl ?_); refine box_event ?hg (N := 5) ?hd (cs := #[.int .i64 0, .int .i64 0, .int .i64 0, .int .i64 0]) (t := 95) ?hr ?_; (case hd => rfl); (case hg => rfl); (case hr => first | (go_simp; done) | (go_simp; rfl)); intro gb377 hg w18 hbox hb; have n0_ := Aside0.mk (below_step (by repeat (first | (with_reducible first | exact HB.out | apply below_alloc | apply pw_below_drewN | apply below_drew1) | exact HB.out)) hb); have n1_ := Aside0.mk (hbox); have n2_ := Aside0.mk ((by rw [hg]; exact (below_size (by repeat (first | (with_reducible first | exact HB.out | apply below_alloc | apply pw_below_drewN | apply below_drew1) | exact HB.out))) : w.heap.size ≤ gb377)); have n3_ := Aside0.mk ((by rw [hg]; exact (below_size (by repeat (first | (with_reducible first | exact HB.out | apply below_alloc | apply pw_below_drewN | apply below_drew1) | exact HB.out))) : w.heap.size ≤ gb377)); clear HB; have HB := n0_; have BK377 := n1_; have GW377 := n2_; have GE377 := n3_; clear n0_ n1_ n2_ n3_; clear hb hbox hg; have hcz19_0 : w18.cell? ⟨gb377, 0, none⟩ = some (.int .i64 0) := (blk_cell BK377.out 0).trans rfl; have hcz19_1 : w18.cell? ⟨gb377, 1, none⟩ = some (.int .i64 0) := (blk_cell BK377.out 1).trans rfl; have hcz19_2 : w18.cell? ⟨gb377, 2, none⟩ = some (.int .i64 0) := (blk_cell BK377.out 2).trans rfl; have hcz19_3 : w18.cell? ⟨gb377, 3, none⟩ = some (.int .i64 0) := (blk_cell BK377.out 3).trans rfl; have hfz19_0 := blk_frozen BK377.out 0; have hfz19_1 := blk_frozen BK377.out 1; have hfz19_2 := blk_frozen BK377.out 2; have hfz19_3 := blk_frozen BK377.out 3))
    go_ret
    exact ⟨by first | rfl | (simp [errW_none, errW_some] <;> rfl) | (simp [*, errW_none, errW_some] <;> rfl), by repeat (first | (with_reducible first | exact HB.out | apply below_alloc | apply pw_below_drewN | apply below_drew1 | refine below_set ?_ GE377.out) | exact HB.out)⟩
end Go.Proofs.YtlfmgdpbjapdjaaGreatFmtBesafter.F
