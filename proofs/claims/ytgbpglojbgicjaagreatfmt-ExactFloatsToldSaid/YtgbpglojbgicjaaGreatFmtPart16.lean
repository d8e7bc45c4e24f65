/- Part 16 of the walk: LawE. -/
import Derived.Test.YtgbpglojbgicjaaGreatFmtPart15
import Derived.Test.YtgbpglojbgicjaaGreatFmtPart14
import Derived.Test.YtgbpglojbgicjaaGreatFmtPart10
namespace Go.Proofs.YtgbpglojbgicjaaGreatFmt
open Go.RowKit Go.Proofs.YtgbpglojbgicjaaGreatFmtW.PrintWords Go.Proofs.YtgbpglojbgicjaaGreatFmtW.PrintLast
theorem odd_two {x q q0 : Int} {t t0 : Nat} (h : x = q * 2 ^ t) (h0 : x = q0 * 2 ^ t0) (hq : q % 2 = 1) (hq0 : q0 % 2 = 1) : t = t0 ∧ q = q0 := by
  have key : ∀ (a b : Int) (s d : Nat), a * 2 ^ s = b * 2 ^ (s + d) → a % 2 = 1 → a = b * 2 ^ d := by
    intro a b s d h _
    rw [Int.pow_add, Int.mul_comm (2 ^ s), ← Int.mul_assoc] at h
    exact Int.eq_of_mul_eq_mul_right (Int.ne_of_gt (Int.pow_pos (by decide))) h
  rcases Nat.le_total t t0 with hle | hle
  · obtain ⟨d, rfl⟩ : ∃ d, t0 = t + d := ⟨t0 - t, by omega⟩
    obtain ⟨rfl, rfl⟩ := odd_shift (key q q0 t d (h ▸ h0) hq) hq
    exact ⟨rfl, rfl⟩
  · obtain ⟨d, rfl⟩ : ∃ d, t = t0 + d := ⟨t - t0, by omega⟩
    obtain ⟨rfl, rfl⟩ := odd_shift (key q0 q t0 d (h0 ▸ h) hq0) hq0
    exact ⟨rfl, rfl⟩
theorem own_read1 {w : World} {B : Nat} {v : Value} {ds : List Int} (h : w.ownsRow B 3 1 v ds.length (nums .i64 ds)) (h0 : 0 < ds.length) : ∃ A c, v = .slice A ds.length c ∧ ReadsInt w .i64 A ds.length ds ∧ ds.length ≤ c := by
  obtain ⟨A, c, rfl, hr⟩ := own_reads h
  obtain ⟨g, cap, e, _, hc⟩ := own_row_some h h0
  cases e
  exact ⟨_, _, rfl, hr, hc⟩
theorem ans_lit {w w' : World} {z e q0 : Int} {t0 : Nat} {en : Ending} {ds0 : List Int} {b : Bool} {f : Int} {n : Nat} (h : Ans w z e en w') (hz : ((Int.natAbs z : Nat) : Int) = q0 * 2 ^ t0) (ho : q0 % 2 = 1) (hq : 0 < q0) (hv : val ds0 = q0) (hn : Nm ds0) (hl : ds0.length ≤ 2000) (hl0 : 0 < ds0.length) (h1 : -1048576 ≤ f) (h2 : f ≤ 1048576) (hb : decide (z < 0) = b) (hf : e + t0 = f) (hln : ds0.length = n) :
    Only w w' (fun _ => False) ∧ ∃ A c, en = .returned (.tuple #[.agg #[.bool b, .slice A n c, .int .i64 f], .int .i64 0]) ∧ w'.ownsRow w.heap.size 3 1 (.slice A n c) n (nums .i64 ds0) ∧ ReadsInt w' .i64 A n ds0 ∧ n ≤ c := by
  subst hb hf hln
  obtain ⟨hw, h | ⟨hz0, t, k, q, a, b, c, d, h⟩⟩ := h
  · have : (0 : Int) < q0 * 2 ^ t0 := Int.mul_pos hq (Int.pow_pos (by decide))
    omega
  · obtain ⟨rfl, rfl⟩ := odd_two a hz b ho
    refine ⟨hw, ?_⟩
    rcases h with ⟨h3, _⟩ | ⟨_, _, _, v, es, rfl, hown, hval, hnm⟩
    · have := blen_digs hn.1 hl (hv ▸ d)
      omega
    · obtain rfl := nm_inj hnm hn (hval.trans hv.symm)
      obtain ⟨A, c, rfl, hr, hc⟩ := own_read1 hown hl0
      exact ⟨A, c, rfl, hown, hr, hc⟩
theorem int_lit {w w' : World} {n : Int} {en : Ending} (h : IntAns w n en w') (ho : n % 2 = 1) (hn : 0 < n) (hn2 : n < 1073741824) :
    Only w w' (fun _ => False) ∧ ∃ A c, en = .returned (.agg #[.bool false, .slice A 1 c, .int .i64 0]) ∧ ReadsInt w' .i64 A 1 [n] ∧ 1 ≤ c := by
  obtain ⟨hw, h | ⟨hz0, t, q, a, b, c, d, A, ds, cp, rfl, hown, hval, hnm⟩⟩ := h
  · omega
  · have hz : ((Int.natAbs n : Nat) : Int) = n * 2 ^ 0 := by rw [natAbs_nonneg (by omega)]; simp
    obtain ⟨rfl, rfl⟩ := odd_two a hz b ho
    have hN : Nm [q] := ⟨fun x hx => by simp at hx; omega, fun _ => by simp; omega⟩
    obtain rfl := nm_inj hnm hN (hval.trans (by simp [val]))
    obtain ⟨A', c', e, hr, hc⟩ := own_read1 hown (by simp)
    cases e
    refine ⟨hw, A, cp, ?_, hr, hc⟩
    rw [decide_eq_false (by omega)]
    rfl
theorem same_num (neg : Bool) (ds : List Int) (e : Int) (neg' : Bool) (ds' : List Int) (e' : Int) (A A' : Option Addr) (c c' : Nat) (b : Bool) (k : Nat) (w : World) (hr : ReadsInt w .i64 A ds.length ds) (hc : ds.length ≤ c) (hr' : ReadsInt w .i64 A' ds'.length ds') (hc' : ds'.length ≤ c') (h : F.pupillaw2_SameNum.f k neg ds e neg' ds' e' = some b) :
    Calls Tryz.prog 6 #[.agg #[.bool neg, .slice A ds.length c, .int .i64 e], .agg #[.bool neg', .slice A' ds'.length c', .int .i64 e']] w fun en w' => en = .returned (.bool b) ∧ Only w w' (fun _ => False) :=
  (F.pupillaw2_SameNum.calls k neg A c ds e neg' A' c' ds' e' b w (kd_ints hr) hc (kd_ints hr') hc' h).mono fun _ _ ⟨h1, h2⟩ => ⟨h1, Only.of_below h2⟩
theorem nm_1 (d : Int) (h0 : 0 < d) (h1 : d < 1073741824) : Nm [d] := ⟨fun x hx => by simp at hx; omega, fun _ => by simp; omega⟩
theorem own_reads1 {w : World} {B n : Nat} {A : Option Addr} {c : Nat} {ds : List Int} (h : w.ownsRow B 3 1 (.slice A n c) n (nums .i64 ds)) : ReadsInt w .i64 A n ds := by
  obtain ⟨A', c', e, hr⟩ := own_reads h
  cases e
  exact hr
set_option linter.unusedVariables false in
set_option linter.unusedSimpArgs false in
set_option maxRecDepth 100000 in
set_option maxHeartbeats 8000000 in
theorem alive_calls (w : World) (hT : Tab w) : Calls Tryz.prog 5 #[] w fun en w' => en = .returned (.bool true) ∧ Only w w' (fun _ => False) := by
  have HT : Hid (∀ W, Only w W (fun _ => False) → Tab W) := Lib.hid (fun W h => hT.only h)
  go_enter Tryz.func5, Tryz.ntmps5
  go_wp2_with fail
  have hoa := (Only.refl w (fun _ => False)).alloc (.cells (nums .i64 [6]).toArray 3)
  refine (make_ok true (some ⟨w.heap.size, 0, none⟩) 1 [6] (-1) _ (reads_lit w [6] (by decide)) (by decide) (HT.out _ hoa) (fun x hx => by simp at hx; omega) (by decide)).mono ?_
  rintro en w1 h1
  obtain ⟨ho1, A1, c1, rfl, hown1, hr1, hc1⟩ := ans_lit (q0 := 3) (t0 := 1) (ds0 := [3]) (b := true) (f := 0) (n := 1) h1 (by decide) (by decide) (by decide) (by decide) (nm_1 3 (by decide) (by decide)) (by decide) (by decide) (by decide) (by decide) (by decide) (by decide) rfl
  replace ho1 := hoa.trans ho1
  clear h1 hoa hown1
  go_wp2_with fail
  have hX := heap_alloc_new w1 (.cells #[.bool true, .slice A1 1 c1, .int .i64 0] 24)
  have hoX := ho1.alloc (.cells #[.bool true, .slice A1 1 c1, .int .i64 0] 24)
  have hr2 := reads_only hr1 ((Only.refl w1 (fun _ => False)).alloc (.cells #[.bool true, .slice A1 1 c1, .int .i64 0] 24)) (fun _ _ h => h)
  clear hr1 ho1
  generalize w1.alloc (.cells #[.bool true, .slice A1 1 c1, .int .i64 0] 24) = w2 at *
  generalize w1.heap.size = X at *
  have hk : ∀ W, Only w2 W (fun _ => False) → W.cell? ⟨X, 0, none⟩ = some (.bool true) ∧ W.cell? ⟨X, 1, none⟩ = some (.slice A1 1 c1) ∧ W.cell? ⟨X, 2, none⟩ = some (.int .i64 0) := fun W hW => by
    have a := (hW.kept _ (blk_lt hX) (fun h => h)).trans hX
    exact ⟨blk_cell a 0, blk_cell a 1, blk_cell a 2⟩
  have HK := Lib.hid hk
  have H2 := Lib.hid (And.intro hoX hr2)
  clear hk hX hoX hr2
  go_cut [3, 4] (fun v3 v4 wc => ∃ Y A3 c3, v3 = .pointer (some ⟨Y, 0, none⟩) ∧ v4 = .int .i64 0 ∧ wc.heap[Y]? = some (.cells #[.bool true, .slice A3 1 c3, .int .i64 1] 24 (0, 0)) ∧ wc.ownsRow 0 3 1 (.slice A3 1 c3) 1 (nums .i64 [1]) ∧ 1 ≤ c3 ∧ Only w2 wc (fun _ => False))
  case rest =>
    obtain ⟨Y, A3, c3, rfl, rfl, hY, hown, hc3, ho⟩ := hcut
    obtain ⟨hoX, hr2⟩ := H2.out
    go_wp2_with fail
    refine (int_calls 1 wc (by decide) (by decide) (HT.out _ (hoX.trans ho))).mono ?_
    rintro en w4 hI
    obtain ⟨ho4, A4, c4, rfl, hr4, hc4⟩ := int_lit hI (by decide) (by decide) (by decide)
    clear hI
    go_wp2_with fail
    refine (int_calls 3 w4 (by decide) (by decide) (HT.out _ ((hoX.trans ho).trans ho4))).mono ?_
    rintro en w5 hI
    obtain ⟨ho5, A5, c5, rfl, hr5, hc5⟩ := int_lit hI (by decide) (by decide) (by decide)
    clear hI
    go_wp2_with fail
    refine (quot_13 A4 A5 c4 c5 w5 (reads_only hr4 ho5 (fun _ _ h => h)) hc4 hr5 hc5).mono ?_
    rintro en w6 ⟨rfl, ho6⟩
    have ho46 := (ho4.trans ho5).trans ho6
    have ho26 := ho.trans ho46
    have hb6 : ∀ W, Only w6 W (fun _ => False) → (W.cell? ⟨X, 0, none⟩ = some (.bool true) ∧ W.cell? ⟨X, 1, none⟩ = some (.slice A1 1 c1) ∧ W.cell? ⟨X, 2, none⟩ = some (.int .i64 0)) ∧ (W.cell? ⟨Y, 0, none⟩ = some (.bool true) ∧ W.cell? ⟨Y, 1, none⟩ = some (.slice A3 1 c3) ∧ W.cell? ⟨Y, 2, none⟩ = some (.int .i64 1)) ∧ ReadsInt W .i64 A1 1 [3] ∧ ReadsInt W .i64 A3 1 [1] ∧ Only w W (fun _ => False) := fun W hW => by
      have a := ((ho46.trans hW).kept _ (blk_lt hY) (fun h => h)).trans hY
      exact ⟨HK.out W (ho26.trans hW), ⟨blk_cell a 0, blk_cell a 1, blk_cell a 2⟩, reads_only hr2 (ho26.trans hW) (fun _ _ h => h), reads_only (own_reads1 hown) (ho46.trans hW) (fun _ _ h => h), (hoX.trans ho26).trans hW⟩
    have H6 := Lib.hid hb6
    clear hb6 hY hown ho ho4 ho5 ho6 ho46 ho26 hr4 hr5 hoX hr2 HK H2 HT
    obtain ⟨⟨q0, q1, q2⟩, _⟩ := H6.out w6 (Only.refl _ _)
    go_wp2_with fail
    have ho7 := (Only.refl w6 (fun _ => False)).alloc (.cells (nums .i64 [3]).toArray 3)
    refine (same_num true [3] 0 true [3] 0 A1 (some ⟨w6.heap.size, 0, none⟩) c1 1 true 5 _ (H6.out _ ho7).2.2.1 hc1 (reads_lit w6 [3] (by decide)) (by decide) (by decide +kernel)).mono ?_
    rintro en w7 ⟨rfl, ho7'⟩
    replace ho7 := ho7.trans ho7'
    obtain ⟨_, ⟨q0, q1, q2⟩, _⟩ := H6.out w7 ho7
    go_wp2_with fail
    have ho8 := ho7.alloc (.cells (nums .i64 [1]).toArray 3)
    refine (same_num true [1] 1 true [1] 1 A3 (some ⟨w7.heap.size, 0, none⟩) c3 1 true 5 _ (H6.out _ ho8).2.2.2.1 hc3 (reads_lit w7 [1] (by decide)) (by decide) (by decide +kernel)).mono ?_
    rintro en w9 ⟨rfl, ho9⟩
    have HF := Lib.hid (H6.out _ (ho8.trans ho9)).2.2.2.2
    clear q0 q1 q2 ho7 ho7' ho8 ho9
    go_wp2_with fail
    go_ret
    exact ⟨rfl, HF.out⟩
  case first =>
    refine start_ (S := (fun W => Only w2 W (fun _ => False))) (ds := ([] : List Nat)) #[false, false, false, false, false, false, false, false, false] (by kernel_rfl) rfl rfl ?_ (fun hHeld => ?_)
    · exact (Only.refl w2 _).drew
    generalize w2.drew = W1 at *
    refine wpAnyLast_take (i := 0) (oi := ?o0) (v := ?v0) ?h0 (by kernel_rfl) (by kernel_rfl) (by kernel_rfl) (by kernel_rfl) (by kernel_rfl) ?q0 (Or.inl ⟨?w0, ?y0⟩) hHeld ?r0
    case h0 => (simp only [List.getElem?_toArray, List.getElem?_cons_succ, List.getElem?_cons_zero]; rfl)
    case q0 => exact fun _ _ _ h => h
    case w0 => rfl
    case y0 => (intro W hSw; obtain ⟨q0, q1, q2⟩ := HK.out _ hSw; go_simp; first | done | with_reducible rfl)
    simp only [Act.put, List.setIfInBounds_toArray, List.set_cons_zero, List.set_cons_succ]
    refine wpAnyLast_ready (rs := [1, 6]) (by kernel_rfl) (by simp) ?_
    refine AllReadyL.cons (o := ?o1) ?h1 (by simp) (fun K hK => ?s1) ?m1
    case h1 => (simp only [List.getElem?_toArray, List.getElem?_cons_succ, List.getElem?_cons_zero]; rfl)
    case s1 =>
      go_simp
      go_at_call 15
      refine (int_calls 1 W1 (by decide) (by decide) (HT.out _ (H2.out.1.trans hHeld))).mono ?_
      rintro en W2 hI
      obtain ⟨hoI, AI, cI, rfl, hrI, hcI⟩ := int_lit hI (by decide) (by decide) (by decide)
      refine hK.out _ _ (hHeld.trans hoI) (fun hHeldN => ?_)
      clear hK K hHeld
      have hHeld := hHeldN
      clear hHeldN
      clear hI hoI
      simp only [Act.put, List.setIfInBounds_toArray, List.set_cons_zero, List.set_cons_succ]
      refine wpAnyLast_ready (rs := [2, 6]) (by kernel_rfl) (by simp) ?_
      refine AllReadyL.cons (o := ?o2) ?h2 (by simp) (fun K hK => ?s2) ?m2
      case h2 => (simp only [List.getElem?_toArray, List.getElem?_cons_succ, List.getElem?_cons_zero]; rfl)
      case s2 =>
        go_simp
        go_at_call 14
        refine (add_31 A1 AI c1 cI W2 (reads_only H2.out.2 hHeld (fun _ _ h => h)) hc1 hrI hcI (HT.out _ (H2.out.1.trans hHeld))).mono ?_
        rintro en W3 hI
        obtain ⟨hoI, A3, c3, rfl, hownA, _, hc3⟩ := ans_lit (q0 := 1) (t0 := 1) (ds0 := [1]) (b := true) (f := 1) (n := 1) hI (by decide) (by decide) (by decide) (by decide) (nm_1 1 (by decide) (by decide)) (by decide) (by decide) (by decide) (by decide) (by decide) (by decide) rfl
        refine hK.out _ _ (hHeld.trans hoI) (fun hHeldN => ?_)
        clear hK K hHeld
        have hHeld := hHeldN
        clear hHeldN
        clear hI hoI hrI
        simp only [Act.put, List.setIfInBounds_toArray, List.set_cons_zero, List.set_cons_succ]
        refine pure_ (i := 3) (oi := ?o3) (v := ?v3) #[true, true, true, true, false, false, false, false, false] ?h3 rfl (by kernel_rfl) ?q3 (Or.inl ⟨?w3, ?y3⟩) rfl ?r3
        case h3 => (simp only [List.getElem?_toArray, List.getElem?_cons_succ, List.getElem?_cons_zero]; rfl)
        case q3 => exact fun _ _ _ h => h
        case w3 => rfl
        case y3 => (intro W; go_simp; first | done | with_reducible rfl)
        simp only [Act.put, List.setIfInBounds_toArray, List.set_cons_zero, List.set_cons_succ]
        refine pure_ (i := 4) (oi := ?o4) (v := ?v4) #[true, true, true, true, true, false, false, false, false] ?h4 rfl (by kernel_rfl) ?q4 (Or.inl ⟨?w4, ?y4⟩) rfl ?r4
        case h4 => (simp only [List.getElem?_toArray, List.getElem?_cons_succ, List.getElem?_cons_zero]; rfl)
        case q4 => exact fun _ _ _ h => h
        case w4 => rfl
        case y4 => (intro W; go_simp; first | done | with_reducible rfl)
        simp only [Act.put, List.setIfInBounds_toArray, List.set_cons_zero, List.set_cons_succ]
        refine pure_ (i := 5) (oi := ?o5) (v := ?v5) #[true, true, true, true, true, true, false, false, false] ?h5 rfl (by kernel_rfl) ?q5 (Or.inl ⟨?w5, ?y5⟩) rfl ?r5
        case h5 => (simp only [List.getElem?_toArray, List.getElem?_cons_succ, List.getElem?_cons_zero]; rfl)
        case q5 => exact fun _ _ _ h => h
        case w5 => rfl
        case y5 => (intro W; go_simp; first | done | with_reducible rfl)
        simp only [Act.put, List.setIfInBounds_toArray, List.set_cons_zero, List.set_cons_succ]
        refine wpAnyLast_ready (rs := [6]) (by kernel_rfl) (by simp) ?_
        refine AllReadyL.cons (o := ?o6) ?h6 (by simp) (fun K hK => ?s6) ?m6
        case h6 => (simp only [List.getElem?_toArray, List.getElem?_cons_succ, List.getElem?_cons_zero]; rfl)
        case m6 => exact AllReadyL.nil
        go_simp
        have hY := heap_alloc_new W3 (.cells #[.bool false, .slice none 0 0, .int .i64 0] 24)
        have hoY := (Only.refl W3 (fun _ => False)).alloc (.cells #[.bool false, .slice none 0 0, .int .i64 0] 24)
        have hYs := hHeld.base.size
        replace hownA := pw_own_below hownA (hoY.below (Nat.le_refl _) (fun _ h => h.elim))
        refine hK.out _ _ (hHeld.alloc _) (fun hHeldN => ?_)
        clear hK K hHeld
        have hHeld := hHeldN
        clear hHeldN
        clear hoY
        simp only [Act.put, List.setIfInBounds_toArray, List.set_cons_zero, List.set_cons_succ]
        generalize W3.heap.size = Y at *
        generalize W3.alloc (.cells #[.bool false, .slice none 0 0, .int .i64 0] 24) = W4 at *
        refine wpAnyLast_ready (rs := [7]) (by kernel_rfl) (by simp) ?_
        refine AllReadyL.cons (o := ?o7) ?h7 (by simp) (fun K hK => ?s7) ?m7
        case h7 => (simp only [List.getElem?_toArray, List.getElem?_cons_succ, List.getElem?_cons_zero]; rfl)
        case m7 => exact AllReadyL.nil
        have y0 : W4.cell? ⟨Y, 0, none⟩ = some (.bool false) := blk_cell hY 0
        have y1 : W4.cell? ⟨Y, 1, none⟩ = some (.slice none 0 0) := blk_cell hY 1
        have y2 : W4.cell? ⟨Y, 2, none⟩ = some (.int .i64 0) := blk_cell hY 2
        have f0 := blk_frozen hY 0
        have f1 := blk_frozen hY 1
        have f2 := blk_frozen hY 2
        go_simp
        refine hK.out _ _ (((hHeld.set (p := ⟨Y, 0, none⟩) (.inl hYs) _).set (p := ⟨Y, 1, none⟩) (.inl hYs) _).set (p := ⟨Y, 2, none⟩) (.inl hYs) _) (fun hHeldN => ?_)
        clear hK K y0 y1 y2 f0 f1 f2
        simp only [Act.put, List.setIfInBounds_toArray, List.set_cons_zero, List.set_cons_succ]
        refine pure_ (i := 8) (oi := ?o8) (v := ?v8) #[true, true, true, true, true, true, true, true, true] ?h8 rfl (by kernel_rfl) ?q8 (Or.inl ⟨?w8, ?y8⟩) rfl ?r8
        case h8 => (simp only [List.getElem?_toArray, List.getElem?_cons_succ, List.getElem?_cons_zero]; rfl)
        case q8 => exact fun _ _ _ h => h
        case w8 => rfl
        case y8 => (intro W; go_simp; first | done | with_reducible rfl)
        simp only [Act.put, List.setIfInBounds_toArray, List.set_cons_zero, List.set_cons_succ]
        refine done_ (by kernel_rfl) ?_
        obtain ⟨s1, s2⟩ := stored1 hY (.bool true) (.slice A3 1 c3) (.int .i64 1)
        have hown9 := own_weaken (own_other_num hownA hY s2) (Nat.zero_le _)
        go_wp2_with fail
        go_meet
        case rel => exact ⟨Y, A3, c3, rfl, rfl, s1, hown9, hc3, hHeldN⟩
      refine AllReadyL.cons (o := ?o9) ?h9 (by simp) (fun K hK => ?s9) ?m9
      case h9 => (simp only [List.getElem?_toArray, List.getElem?_cons_succ, List.getElem?_cons_zero]; rfl)
      case m9 => exact AllReadyL.nil
      case s9 =>
        go_simp
        have hY := heap_alloc_new W2 (.cells #[.bool false, .slice none 0 0, .int .i64 0] 24)
        have hoY := (Only.refl W2 (fun _ => False)).alloc (.cells #[.bool false, .slice none 0 0, .int .i64 0] 24)
        have hYs := hHeld.base.size
        replace hrI := reads_only hrI hoY (fun _ _ h => h)
        refine hK.out _ _ (hHeld.alloc _) (fun hHeldN => ?_)
        clear hK K hHeld
        have hHeld := hHeldN
        clear hHeldN
        clear hoY
        simp only [Act.put, List.setIfInBounds_toArray, List.set_cons_zero, List.set_cons_succ]
        generalize W2.heap.size = Y at *
        generalize W2.alloc (.cells #[.bool false, .slice none 0 0, .int .i64 0] 24) = W5 at *
        refine wpAnyLast_ready (rs := [2]) (by kernel_rfl) (by simp) ?_
        refine AllReadyL.cons (o := ?o10) ?h10 (by simp) (fun K hK => ?s10) ?m10
        case h10 => (simp only [List.getElem?_toArray, List.getElem?_cons_succ, List.getElem?_cons_zero]; rfl)
        case m10 => exact AllReadyL.nil
        go_simp
        go_at_call 14
        refine (add_31 A1 AI c1 cI W5 (reads_only H2.out.2 hHeld (fun _ _ h => h)) hc1 hrI hcI (HT.out _ (H2.out.1.trans hHeld))).mono ?_
        rintro en W6 hI
        obtain ⟨hoI, A3, c3, rfl, hownA, _, hc3⟩ := ans_lit (q0 := 1) (t0 := 1) (ds0 := [1]) (b := true) (f := 1) (n := 1) hI (by decide) (by decide) (by decide) (by decide) (nm_1 1 (by decide) (by decide)) (by decide) (by decide) (by decide) (by decide) (by decide) (by decide) rfl
        replace hY := (hoI.kept _ (blk_lt hY) (fun h => h)).trans hY
        refine hK.out _ _ (hHeld.trans hoI) (fun hHeldN => ?_)
        clear hK K hHeld
        have hHeld := hHeldN
        clear hHeldN
        clear hI hoI hrI
        simp only [Act.put, List.setIfInBounds_toArray, List.set_cons_zero, List.set_cons_succ]
        refine pure_ (i := 3) (oi := ?o11) (v := ?v11) #[true, true, true, true, false, false, true, false, false] ?h11 rfl (by kernel_rfl) ?q11 (Or.inl ⟨?w11, ?y11⟩) rfl ?r11
        case h11 => (simp only [List.getElem?_toArray, List.getElem?_cons_succ, List.getElem?_cons_zero]; rfl)
        case q11 => exact fun _ _ _ h => h
        case w11 => rfl
        case y11 => (intro W; go_simp; first | done | with_reducible rfl)
        simp only [Act.put, List.setIfInBounds_toArray, List.set_cons_zero, List.set_cons_succ]
        refine pure_ (i := 4) (oi := ?o12) (v := ?v12) #[true, true, true, true, true, false, true, false, false] ?h12 rfl (by kernel_rfl) ?q12 (Or.inl ⟨?w12, ?y12⟩) rfl ?r12
        case h12 => (simp only [List.getElem?_toArray, List.getElem?_cons_succ, List.getElem?_cons_zero]; rfl)
        case q12 => exact fun _ _ _ h => h
        case w12 => rfl
        case y12 => (intro W; go_simp; first | done | with_reducible rfl)
        simp only [Act.put, List.setIfInBounds_toArray, List.set_cons_zero, List.set_cons_succ]
        refine pure_ (i := 5) (oi := ?o13) (v := ?v13) #[true, true, true, true, true, true, true, false, false] ?h13 rfl (by kernel_rfl) ?q13 (Or.inl ⟨?w13, ?y13⟩) rfl ?r13
        case h13 => (simp only [List.getElem?_toArray, List.getElem?_cons_succ, List.getElem?_cons_zero]; rfl)
        case q13 => exact fun _ _ _ h => h
        case w13 => rfl
        case y13 => (intro W; go_simp; first | done | with_reducible rfl)
        simp only [Act.put, List.setIfInBounds_toArray, List.set_cons_zero, List.set_cons_succ]
        refine wpAnyLast_ready (rs := [7]) (by kernel_rfl) (by simp) ?_
        refine AllReadyL.cons (o := ?o14) ?h14 (by simp) (fun K hK => ?s14) ?m14
        case h14 => (simp only [List.getElem?_toArray, List.getElem?_cons_succ, List.getElem?_cons_zero]; rfl)
        case m14 => exact AllReadyL.nil
        have y0 : W6.cell? ⟨Y, 0, none⟩ = some (.bool false) := blk_cell hY 0
        have y1 : W6.cell? ⟨Y, 1, none⟩ = some (.slice none 0 0) := blk_cell hY 1
        have y2 : W6.cell? ⟨Y, 2, none⟩ = some (.int .i64 0) := blk_cell hY 2
        have f0 := blk_frozen hY 0
        have f1 := blk_frozen hY 1
        have f2 := blk_frozen hY 2
        go_simp
        refine hK.out _ _ (((hHeld.set (p := ⟨Y, 0, none⟩) (.inl hYs) _).set (p := ⟨Y, 1, none⟩) (.inl hYs) _).set (p := ⟨Y, 2, none⟩) (.inl hYs) _) (fun hHeldN => ?_)
        clear hK K y0 y1 y2 f0 f1 f2
        simp only [Act.put, List.setIfInBounds_toArray, List.set_cons_zero, List.set_cons_succ]
        refine pure_ (i := 8) (oi := ?o15) (v := ?v15) #[true, true, true, true, true, true, true, true, true] ?h15 rfl (by kernel_rfl) ?q15 (Or.inl ⟨?w15, ?y15⟩) rfl ?r15
        case h15 => (simp only [List.getElem?_toArray, List.getElem?_cons_succ, List.getElem?_cons_zero]; rfl)
        case q15 => exact fun _ _ _ h => h
        case w15 => rfl
        case y15 => (intro W; go_simp; first | done | with_reducible rfl)
        simp only [Act.put, List.setIfInBounds_toArray, List.set_cons_zero, List.set_cons_succ]
        refine done_ (by kernel_rfl) ?_
        obtain ⟨s1, s2⟩ := stored1 hY (.bool true) (.slice A3 1 c3) (.int .i64 1)
        have hown9 := own_weaken (own_other_num hownA hY s2) (Nat.zero_le _)
        go_wp2_with fail
        go_meet
        case rel => exact ⟨Y, A3, c3, rfl, rfl, s1, hown9, hc3, hHeldN⟩
    refine AllReadyL.cons (o := ?o16) ?h16 (by simp) (fun K hK => ?s16) ?m16
    case h16 => (simp only [List.getElem?_toArray, List.getElem?_cons_succ, List.getElem?_cons_zero]; rfl)
    case m16 => exact AllReadyL.nil
    case s16 =>
      go_simp
      have hY := heap_alloc_new W1 (.cells #[.bool false, .slice none 0 0, .int .i64 0] 24)
      have hoY := (Only.refl W1 (fun _ => False)).alloc (.cells #[.bool false, .slice none 0 0, .int .i64 0] 24)
      have hYs := hHeld.base.size
      refine hK.out _ _ (hHeld.alloc _) (fun hHeldN => ?_)
      clear hK K hHeld
      have hHeld := hHeldN
      clear hHeldN
      clear hoY
      simp only [Act.put, List.setIfInBounds_toArray, List.set_cons_zero, List.set_cons_succ]
      generalize W1.heap.size = Y at *
      generalize W1.alloc (.cells #[.bool false, .slice none 0 0, .int .i64 0] 24) = W7 at *
      refine wpAnyLast_ready (rs := [1]) (by kernel_rfl) (by simp) ?_
      refine AllReadyL.cons (o := ?o17) ?h17 (by simp) (fun K hK => ?s17) ?m17
      case h17 => (simp only [List.getElem?_toArray, List.getElem?_cons_succ, List.getElem?_cons_zero]; rfl)
      case m17 => exact AllReadyL.nil
      go_simp
      go_at_call 15
      refine (int_calls 1 W7 (by decide) (by decide) (HT.out _ (H2.out.1.trans hHeld))).mono ?_
      rintro en W8 hI
      obtain ⟨hoI, AI, cI, rfl, hrI, hcI⟩ := int_lit hI (by decide) (by decide) (by decide)
      replace hY := (hoI.kept _ (blk_lt hY) (fun h => h)).trans hY
      refine hK.out _ _ (hHeld.trans hoI) (fun hHeldN => ?_)
      clear hK K hHeld
      have hHeld := hHeldN
      clear hHeldN
      clear hI hoI
      simp only [Act.put, List.setIfInBounds_toArray, List.set_cons_zero, List.set_cons_succ]
      refine wpAnyLast_ready (rs := [2]) (by kernel_rfl) (by simp) ?_
      refine AllReadyL.cons (o := ?o18) ?h18 (by simp) (fun K hK => ?s18) ?m18
      case h18 => (simp only [List.getElem?_toArray, List.getElem?_cons_succ, List.getElem?_cons_zero]; rfl)
      case m18 => exact AllReadyL.nil
      go_simp
      go_at_call 14
      refine (add_31 A1 AI c1 cI W8 (reads_only H2.out.2 hHeld (fun _ _ h => h)) hc1 hrI hcI (HT.out _ (H2.out.1.trans hHeld))).mono ?_
      rintro en W9 hI
      obtain ⟨hoI, A3, c3, rfl, hownA, _, hc3⟩ := ans_lit (q0 := 1) (t0 := 1) (ds0 := [1]) (b := true) (f := 1) (n := 1) hI (by decide) (by decide) (by decide) (by decide) (nm_1 1 (by decide) (by decide)) (by decide) (by decide) (by decide) (by decide) (by decide) (by decide) rfl
      replace hY := (hoI.kept _ (blk_lt hY) (fun h => h)).trans hY
      refine hK.out _ _ (hHeld.trans hoI) (fun hHeldN => ?_)
      clear hK K hHeld
      have hHeld := hHeldN
      clear hHeldN
      clear hI hoI hrI
      simp only [Act.put, List.setIfInBounds_toArray, List.set_cons_zero, List.set_cons_succ]
      refine pure_ (i := 3) (oi := ?o19) (v := ?v19) #[true, true, true, true, false, false, true, false, false] ?h19 rfl (by kernel_rfl) ?q19 (Or.inl ⟨?w19, ?y19⟩) rfl ?r19
      case h19 => (simp only [List.getElem?_toArray, List.getElem?_cons_succ, List.getElem?_cons_zero]; rfl)
      case q19 => exact fun _ _ _ h => h
      case w19 => rfl
      case y19 => (intro W; go_simp; first | done | with_reducible rfl)
      simp only [Act.put, List.setIfInBounds_toArray, List.set_cons_zero, List.set_cons_succ]
      refine pure_ (i := 4) (oi := ?o20) (v := ?v20) #[true, true, true, true, true, false, true, false, false] ?h20 rfl (by kernel_rfl) ?q20 (Or.inl ⟨?w20, ?y20⟩) rfl ?r20
      case h20 => (simp only [List.getElem?_toArray, List.getElem?_cons_succ, List.getElem?_cons_zero]; rfl)
      case q20 => exact fun _ _ _ h => h
      case w20 => rfl
      case y20 => (intro W; go_simp; first | done | with_reducible rfl)
      simp only [Act.put, List.setIfInBounds_toArray, List.set_cons_zero, List.set_cons_succ]
      refine pure_ (i := 5) (oi := ?o21) (v := ?v21) #[true, true, true, true, true, true, true, false, false] ?h21 rfl (by kernel_rfl) ?q21 (Or.inl ⟨?w21, ?y21⟩) rfl ?r21
      case h21 => (simp only [List.getElem?_toArray, List.getElem?_cons_succ, List.getElem?_cons_zero]; rfl)
      case q21 => exact fun _ _ _ h => h
      case w21 => rfl
      case y21 => (intro W; go_simp; first | done | with_reducible rfl)
      simp only [Act.put, List.setIfInBounds_toArray, List.set_cons_zero, List.set_cons_succ]
      refine wpAnyLast_ready (rs := [7]) (by kernel_rfl) (by simp) ?_
      refine AllReadyL.cons (o := ?o22) ?h22 (by simp) (fun K hK => ?s22) ?m22
      case h22 => (simp only [List.getElem?_toArray, List.getElem?_cons_succ, List.getElem?_cons_zero]; rfl)
      case m22 => exact AllReadyL.nil
      have y0 : W9.cell? ⟨Y, 0, none⟩ = some (.bool false) := blk_cell hY 0
      have y1 : W9.cell? ⟨Y, 1, none⟩ = some (.slice none 0 0) := blk_cell hY 1
      have y2 : W9.cell? ⟨Y, 2, none⟩ = some (.int .i64 0) := blk_cell hY 2
      have f0 := blk_frozen hY 0
      have f1 := blk_frozen hY 1
      have f2 := blk_frozen hY 2
      go_simp
      refine hK.out _ _ (((hHeld.set (p := ⟨Y, 0, none⟩) (.inl hYs) _).set (p := ⟨Y, 1, none⟩) (.inl hYs) _).set (p := ⟨Y, 2, none⟩) (.inl hYs) _) (fun hHeldN => ?_)
      clear hK K y0 y1 y2 f0 f1 f2
      simp only [Act.put, List.setIfInBounds_toArray, List.set_cons_zero, List.set_cons_succ]
      refine pure_ (i := 8) (oi := ?o23) (v := ?v23) #[true, true, true, true, true, true, true, true, true] ?h23 rfl (by kernel_rfl) ?q23 (Or.inl ⟨?w23, ?y23⟩) rfl ?r23
      case h23 => (simp only [List.getElem?_toArray, List.getElem?_cons_succ, List.getElem?_cons_zero]; rfl)
      case q23 => exact fun _ _ _ h => h
      case w23 => rfl
      case y23 => (intro W; go_simp; first | done | with_reducible rfl)
      simp only [Act.put, List.setIfInBounds_toArray, List.set_cons_zero, List.set_cons_succ]
      refine done_ (by kernel_rfl) ?_
      obtain ⟨s1, s2⟩ := stored1 hY (.bool true) (.slice A3 1 c3) (.int .i64 1)
      have hown9 := own_weaken (own_other_num hownA hY s2) (Nat.zero_le _)
      go_wp2_with fail
      go_meet
      case rel => exact ⟨Y, A3, c3, rfl, rfl, s1, hown9, hc3, hHeldN⟩
end Go.Proofs.YtgbpglojbgicjaaGreatFmt
