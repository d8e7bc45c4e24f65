/- Part 19 of the walk: LawE ExS ExV RndEE RndFF LawMp. -/
import Derived.Test.YtlfmgdpbjapdjaaGreatFmtBesafterPt18
import Derived.Test.YtlfmgdpbjapdjaaGreatFmtBesafterPt16
import Derived.Test.YtlfmgdpbjapdjaaGreatFmtBesafterPt15
import Derived.Test.YtlfmgdpbjapdjaaGreatFmtBesafterPt10
import Derived.StillTailTactics
import Derived.Test.YtlfmgdpbjapdjaaGreatFmtBesafterPt17
namespace Go.Proofs.YtlfmgdpbjapdjaaGreatFmtBesafter
open Go.RowKit Go.Proofs.YtlfmgdpbjapdjaaGreatFmtBesafterW.PrintWords Go.Proofs.YtlfmgdpbjapdjaaGreatFmtBesafterW.PrintLast
theorem odd_two {x q q0 : Int} {t t0 : Nat} (h : x = q * 2 ^ t) (h0 : x = q0 * 2 ^ t0) (hq : q % 2 = 1) (hq0 : q0 % 2 = 1) : t = t0 ∧ q = q0 := by
  have key : ∀ (a b : Int) (s d : Nat), a * 2 ^ s = b * 2 ^ (s + d) → a % 2 = 1 → a = b * 2 ^ d := by
    intro a b s d h _
    rw [Int.pow_add, Int.mul_comm (2 ^ s), ← Int.mul_assoc] at h
    exact Int.eq_of_mul_eq_mul_right (Int.ne_of_gt (Int.pow_pos (by decide))) h
  rcases Nat.le_total t t0 with hle | hle
  · obtain ⟨d, rfl⟩ : ∃ d, t0 = t + d := ⟨t0 - t, by omega⟩
    obtain ⟨rfl, rfl⟩ := odd_shift (key q q0 t d (h ▸ h0) hq) hq
    exact ⟨rfl, rfl⟩
  · obtain ⟨d, rfl⟩ : ∃ d, t = t0 + d := ⟨t - t0, by omega⟩
    obtain ⟨rfl, rfl⟩ := odd_shift (key q0 q t0 d (h0 ▸ h) hq0) hq0
    exact ⟨rfl, rfl⟩
theorem own_read1 {w : World} {B : Nat} {v : Value} {ds : List Int} (h : w.ownsRow B 3 1 v ds.length (nums .i64 ds)) (h0 : 0 < ds.length) : ∃ A c, v = .slice A ds.length c ∧ ReadsInt w .i64 A ds.length ds ∧ ds.length ≤ c := by
  obtain ⟨A, c, rfl, hr⟩ := own_reads h
  obtain ⟨g, cap, e, _, hc⟩ := own_row_some h h0
  cases e
  exact ⟨_, _, rfl, hr, hc⟩
theorem ans_lit {w w' : World} {z e q0 : Int} {t0 : Nat} {en : Ending} {ds0 : List Int} {b : Bool} {f : Int} {n : Nat} (h : Ans w z e en w') (hz : ((Int.natAbs z : Nat) : Int) = q0 * 2 ^ t0) (ho : q0 % 2 = 1) (hq : 0 < q0) (hv : val ds0 = q0) (hn : Nm ds0) (hl : ds0.length ≤ 2000) (hl0 : 0 < ds0.length) (h1 : -1048576 ≤ f) (h2 : f ≤ 1048576) (hb : decide (z < 0) = b) (hf : e + t0 = f) (hln : ds0.length = n) :
    Only w w' (fun _ => False) ∧ ∃ A c, en = .returned (.tuple #[.agg #[.bool b, .slice A n c, .int .i64 f], .int .i64 0]) ∧ w'.ownsRow w.heap.size 3 1 (.slice A n c) n (nums .i64 ds0) ∧ ReadsInt w' .i64 A n ds0 ∧ n ≤ c := by
  subst hb hf hln
  obtain ⟨hw, h | ⟨hz0, t, k, q, a, b, c, d, h⟩⟩ := h
  · have : (0 : Int) < q0 * 2 ^ t0 := Int.mul_pos hq (Int.pow_pos (by decide))
    omega
  · obtain ⟨rfl, rfl⟩ := odd_two a hz b ho
    refine ⟨hw, ?_⟩
    rcases h with ⟨h3, _⟩ | ⟨_, _, _, v, es, rfl, hown, hval, hnm⟩
    · have := blen_digs hn.1 hl (hv ▸ d)
      omega
    · obtain rfl := nm_inj hnm hn (hval.trans hv.symm)
      obtain ⟨A, c, rfl, hr, hc⟩ := own_read1 hown hl0
      exact ⟨A, c, rfl, hown, hr, hc⟩
theorem int_lit {w w' : World} {n : Int} {en : Ending} (h : IntAns w n en w') (ho : n % 2 = 1) (hn : 0 < n) (hn2 : n < 1073741824) :
    Only w w' (fun _ => False) ∧ ∃ A c, en = .returned (.agg #[.bool false, .slice A 1 c, .int .i64 0]) ∧ ReadsInt w' .i64 A 1 [n] ∧ 1 ≤ c := by
  obtain ⟨hw, h | ⟨hz0, t, q, a, b, c, d, A, ds, cp, rfl, hown, hval, hnm⟩⟩ := h
  · omega
  · have hz : ((Int.natAbs n : Nat) : Int) = n * 2 ^ 0 := by rw [natAbs_nonneg (by omega)]; simp
    obtain ⟨rfl, rfl⟩ := odd_two a hz b ho
    have hN : Nm [q] := ⟨fun x hx => by simp at hx; omega, fun _ => by simp; omega⟩
    obtain rfl := nm_inj hnm hN (hval.trans (by simp [val]))
    obtain ⟨A', c', e, hr, hc⟩ := own_read1 hown (by simp)
    cases e
    refine ⟨hw, A, cp, ?_, hr, hc⟩
    rw [decide_eq_false (by omega)]
    rfl
theorem same_num (neg : Bool) (ds : List Int) (e : Int) (neg' : Bool) (ds' : List Int) (e' : Int) (A A' : Option Addr) (c c' : Nat) (b : Bool) (k : Nat) (w : World) (hr : ReadsInt w .i64 A ds.length ds) (hc : ds.length ≤ c) (hr' : ReadsInt w .i64 A' ds'.length ds') (hc' : ds'.length ≤ c') (h : F.pupillaw2_SameNum.f k neg ds e neg' ds' e' = some b) :
    Calls Tryz.prog 20 #[.agg #[.bool neg, .slice A ds.length c, .int .i64 e], .agg #[.bool neg', .slice A' ds'.length c', .int .i64 e']] w fun en w' => en = .returned (.bool b) ∧ Only w w' (fun _ => False) :=
  (F.pupillaw2_SameNum.calls k neg A c ds e neg' A' c' ds' e' b w (kd_ints hr) hc (kd_ints hr') hc' h).mono fun _ _ ⟨h1, h2⟩ => ⟨h1, Only.of_below h2⟩
theorem nm_1 (d : Int) (h0 : 0 < d) (h1 : d < 1073741824) : Nm [d] := ⟨fun x hx => by simp at hx; omega, fun _ => by simp; omega⟩
theorem own_reads1 {w : World} {B n : Nat} {A : Option Addr} {c : Nat} {ds : List Int} (h : w.ownsRow B 3 1 (.slice A n c) n (nums .i64 ds)) : ReadsInt w .i64 A n ds := by
  obtain ⟨A', c', e, hr⟩ := own_reads h
  cases e
  exact hr
set_option linter.unusedVariables false in
set_option linter.unusedSimpArgs false in
set_option maxRecDepth 100000 in
set_option maxHeartbeats 8000000 in
theorem alive_calls (w : World) (hT : Tab w) : Calls Tryz.prog 6 #[] w fun en w' => en = .returned (.bool true) ∧ Only w w' (fun _ => False) := by
  have HT : Hid (∀ W, Only w W (fun _ => False) → Tab W) := Lib.hid (fun W h => hT.only h)
  go_enter Tryz.func6, Tryz.ntmps6
  go_wp2_with fail
  have hoa := (Only.refl w (fun _ => False)).alloc (.cells (nums .i64 [6]).toArray 3)
  refine (make_ok true (some ⟨w.heap.size, 0, none⟩) 1 [6] (-1) _ (reads_lit w [6] (by decide)) (by decide) (HT.out _ hoa) (fun x hx => by simp at hx; omega) (by decide)).mono ?_
  rintro en w1 h1
  obtain ⟨ho1, A1, c1, rfl, hown1, hr1, hc1⟩ := ans_lit (q0 := 3) (t0 := 1) (ds0 := [3]) (b := true) (f := 0) (n := 1) h1 (by decide) (by decide) (by decide) (by decide) (nm_1 3 (by decide) (by decide)) (by decide) (by decide) (by decide) (by decide) (by decide) (by decide) rfl
  replace ho1 := hoa.trans ho1
  clear h1 hoa hown1
  go_wp2_with fail
  have hX := heap_alloc_new w1 (.cells #[.bool true, .slice A1 1 c1, .int .i64 0] 24)
  have hoX := ho1.alloc (.cells #[.bool true, .slice A1 1 c1, .int .i64 0] 24)
  have hr2 := reads_only hr1 ((Only.refl w1 (fun _ => False)).alloc (.cells #[.bool true, .slice A1 1 c1, .int .i64 0] 24)) (fun _ _ h => h)
  clear hr1 ho1
  generalize w1.alloc (.cells #[.bool true, .slice A1 1 c1, .int .i64 0] 24) = w2 at *
  generalize w1.heap.size = X at *
  have hk : ∀ W, Only w2 W (fun _ => False) → W.cell? ⟨X, 0, none⟩ = some (.bool true) ∧ W.cell? ⟨X, 1, none⟩ = some (.slice A1 1 c1) ∧ W.cell? ⟨X, 2, none⟩ = some (.int .i64 0) := fun W hW => by
    have a := (hW.kept _ (blk_lt hX) (fun h => h)).trans hX
    exact ⟨blk_cell a 0, blk_cell a 1, blk_cell a 2⟩
  have HK := Lib.hid hk
  have H2 := Lib.hid (And.intro hoX hr2)
  clear hk hX hoX hr2
  go_cut [3, 4] (fun v3 v4 wc => ∃ Y A3 c3, v3 = .pointer (some ⟨Y, 0, none⟩) ∧ v4 = .int .i64 0 ∧ wc.heap[Y]? = some (.cells #[.bool true, .slice A3 1 c3, .int .i64 1] 24 (0, 0)) ∧ wc.ownsRow 0 3 1 (.slice A3 1 c3) 1 (nums .i64 [1]) ∧ 1 ≤ c3 ∧ Only w2 wc (fun _ => False))
  case rest =>
    obtain ⟨Y, A3, c3, rfl, rfl, hY, hown, hc3, ho⟩ := hcut
    obtain ⟨hoX, hr2⟩ := H2.out
    go_wp2_with fail
    refine (int_calls 1 wc (by decide) (by decide) (HT.out _ (hoX.trans ho))).mono ?_
    rintro en w4 hI
    obtain ⟨ho4, A4, c4, rfl, hr4, hc4⟩ := int_lit hI (by decide) (by decide) (by decide)
    clear hI
    go_wp2_with fail
    refine (int_calls 3 w4 (by decide) (by decide) (HT.out _ ((hoX.trans ho).trans ho4))).mono ?_
    rintro en w5 hI
    obtain ⟨ho5, A5, c5, rfl, hr5, hc5⟩ := int_lit hI (by decide) (by decide) (by decide)
    clear hI
    go_wp2_with fail
    refine (quot_13 A4 A5 c4 c5 w5 (reads_only hr4 ho5 (fun _ _ h => h)) hc4 hr5 hc5).mono ?_
    rintro en w6 ⟨rfl, ho6⟩
    have ho46 := (ho4.trans ho5).trans ho6
    have ho26 := ho.trans ho46
    have hb6 : ∀ W, Only w6 W (fun _ => False) → (W.cell? ⟨X, 0, none⟩ = some (.bool true) ∧ W.cell? ⟨X, 1, none⟩ = some (.slice A1 1 c1) ∧ W.cell? ⟨X, 2, none⟩ = some (.int .i64 0)) ∧ (W.cell? ⟨Y, 0, none⟩ = some (.bool true) ∧ W.cell? ⟨Y, 1, none⟩ = some (.slice A3 1 c3) ∧ W.cell? ⟨Y, 2, none⟩ = some (.int .i64 1)) ∧ ReadsInt W .i64 A1 1 [3] ∧ ReadsInt W .i64 A3 1 [1] ∧ Only w W (fun _ => False) := fun W hW => by
      have a := ((ho46.trans hW).kept _ (blk_lt hY) (fun h => h)).trans hY
      exact ⟨HK.out W (ho26.trans hW), ⟨blk_cell a 0, blk_cell a 1, blk_cell a 2⟩, reads_only hr2 (ho26.trans hW) (fun _ _ h => h), reads_only (own_reads1 hown) (ho46.trans hW) (fun _ _ h => h), (hoX.trans ho26).trans hW⟩
    have H6 := Lib.hid hb6
    clear hb6 hY hown ho ho4 ho5 ho6 ho46 ho26 hr4 hr5 hoX hr2 HK H2 HT
    obtain ⟨⟨q0, q1, q2⟩, _⟩ := H6.out w6 (Only.refl _ _)
    go_wp2_with fail
    have ho7 := (Only.refl w6 (fun _ => False)).alloc (.cells (nums .i64 [3]).toArray 3)
    refine (same_num true [3] 0 true [3] 0 A1 (some ⟨w6.heap.size, 0, none⟩) c1 1 true 5 _ (H6.out _ ho7).2.2.1 hc1 (reads_lit w6 [3] (by decide)) (by decide) (by decide +kernel)).mono ?_
    rintro en w7 ⟨rfl, ho7'⟩
    replace ho7 := ho7.trans ho7'
    obtain ⟨_, ⟨q0, q1, q2⟩, _⟩ := H6.out w7 ho7
    go_wp2_with fail
    have ho8 := ho7.alloc (.cells (nums .i64 [1]).toArray 3)
    refine (same_num true [1] 1 true [1] 1 A3 (some ⟨w7.heap.size, 0, none⟩) c3 1 true 5 _ (H6.out _ ho8).2.2.2.1 hc3 (reads_lit w7 [1] (by decide)) (by decide) (by decide +kernel)).mono ?_
    rintro en w9 ⟨rfl, ho9⟩
    have HF := Lib.hid (H6.out _ (ho8.trans ho9)).2.2.2.2
    clear q0 q1 q2 ho7 ho7' ho8 ho9
    go_wp2_with fail
    go_ret
    exact ⟨rfl, HF.out⟩
  case first =>
    refine start_ (S := (fun W => Only w2 W (fun _ => False))) (ds := ([] : List Nat)) #[false, false, false, false, false, false, false, false, false] (by kernel_rfl) rfl rfl ?_ (fun hHeld => ?_)
    · exact (Only.refl w2 _).drew
    generalize w2.drew = W1 at *
    refine wpAnyLast_take (i := 0) (oi := ?o0) (v := ?v0) ?h0 (by kernel_rfl) (by kernel_rfl) (by kernel_rfl) (by kernel_rfl) (by kernel_rfl) ?q0 (Or.inl ⟨?w0, ?y0⟩) hHeld ?r0
    case h0 => (simp only [ga, gb, gc]; rfl)
    case q0 => exact fun _ _ _ h => h
    case w0 => rfl
    case y0 => (intro W hSw; obtain ⟨q0, q1, q2⟩ := HK.out _ hSw; go_simp; first | done | with_reducible rfl)
    simp only [Act.put, zd, ze, zf]
    refine wpAnyLast_ready (rs := [1, 6]) (by kernel_rfl) (by simp) ?_
    refine AllReadyL.cons (o := ?o1) ?h1 (by simp) (fun K hK => ?s1) ?m1
    case h1 => (simp only [ga, gb, gc]; rfl)
    case s1 =>
      go_simp
      go_at_call 18
      refine (int_calls 1 W1 (by decide) (by decide) (HT.out _ (H2.out.1.trans hHeld))).mono ?_
      rintro en W2 hI
      obtain ⟨hoI, AI, cI, rfl, hrI, hcI⟩ := int_lit hI (by decide) (by decide) (by decide)
      refine hK.out _ _ (hHeld.trans hoI) (fun hHeldN => ?_)
      clear hK K hHeld
      have hHeld := hHeldN
      clear hHeldN
      clear hI hoI
      simp only [Act.put, zd, ze, zf]
      refine wpAnyLast_ready (rs := [2, 6]) (by kernel_rfl) (by simp) ?_
      refine AllReadyL.cons (o := ?o2) ?h2 (by simp) (fun K hK => ?s2) ?m2
      case h2 => (simp only [ga, gb, gc]; rfl)
      case s2 =>
        go_simp
        go_at_call 17
        refine (add_31 A1 AI c1 cI W2 (reads_only H2.out.2 hHeld (fun _ _ h => h)) hc1 hrI hcI (HT.out _ (H2.out.1.trans hHeld))).mono ?_
        rintro en W3 hI
        obtain ⟨hoI, A3, c3, rfl, hownA, _, hc3⟩ := ans_lit (q0 := 1) (t0 := 1) (ds0 := [1]) (b := true) (f := 1) (n := 1) hI (by decide) (by decide) (by decide) (by decide) (nm_1 1 (by decide) (by decide)) (by decide) (by decide) (by decide) (by decide) (by decide) (by decide) rfl
        refine hK.out _ _ (hHeld.trans hoI) (fun hHeldN => ?_)
        clear hK K hHeld
        have hHeld := hHeldN
        clear hHeldN
        clear hI hoI hrI
        simp only [Act.put, zd, ze, zf]
        refine pure_ (i := 3) (oi := ?o3) (v := ?v3) #[true, true, true, true, false, false, false, false, false] ?h3 rfl (by kernel_rfl) ?q3 (Or.inl ⟨?w3, ?y3⟩) rfl ?r3
        case h3 => (simp only [ga, gb, gc]; rfl)
        case q3 => exact fun _ _ _ h => h
        case w3 => rfl
        case y3 => (intro W; go_simp; first | done | with_reducible rfl)
        simp only [Act.put, zd, ze, zf]
        refine pure_ (i := 4) (oi := ?o4) (v := ?v4) #[true, true, true, true, true, false, false, false, false] ?h4 rfl (by kernel_rfl) ?q4 (Or.inl ⟨?w4, ?y4⟩) rfl ?r4
        case h4 => (simp only [ga, gb, gc]; rfl)
        case q4 => exact fun _ _ _ h => h
        case w4 => rfl
        case y4 => (intro W; go_simp; first | done | with_reducible rfl)
        simp only [Act.put, zd, ze, zf]
        refine pure_ (i := 5) (oi := ?o5) (v := ?v5) #[true, true, true, true, true, true, false, false, false] ?h5 rfl (by kernel_rfl) ?q5 (Or.inl ⟨?w5, ?y5⟩) rfl ?r5
        case h5 => (simp only [ga, gb, gc]; rfl)
        case q5 => exact fun _ _ _ h => h
        case w5 => rfl
        case y5 => (intro W; go_simp; first | done | with_reducible rfl)
        simp only [Act.put, zd, ze, zf]
        refine wpAnyLast_ready (rs := [6]) (by kernel_rfl) (by simp) ?_
        refine AllReadyL.cons (o := ?o6) ?h6 (by simp) (fun K hK => ?s6) ?m6
        case h6 => (simp only [ga, gb, gc]; rfl)
        case m6 => exact AllReadyL.nil
        go_simp
        have hY := heap_alloc_new W3 (.cells #[.bool false, .slice none 0 0, .int .i64 0] 24)
        have hoY := (Only.refl W3 (fun _ => False)).alloc (.cells #[.bool false, .slice none 0 0, .int .i64 0] 24)
        have hYs := hHeld.base.size
        replace hownA := pw_own_below hownA (hoY.below (Nat.le_refl _) (fun _ h => h.elim))
        refine hK.out _ _ (hHeld.alloc _) (fun hHeldN => ?_)
        clear hK K hHeld
        have hHeld := hHeldN
        clear hHeldN
        clear hoY
        simp only [Act.put, zd, ze, zf]
        generalize W3.heap.size = Y at *
        generalize W3.alloc (.cells #[.bool false, .slice none 0 0, .int .i64 0] 24) = W4 at *
        refine wpAnyLast_ready (rs := [7]) (by kernel_rfl) (by simp) ?_
        refine AllReadyL.cons (o := ?o7) ?h7 (by simp) (fun K hK => ?s7) ?m7
        case h7 => (simp only [ga, gb, gc]; rfl)
        case m7 => exact AllReadyL.nil
        have y0 : W4.cell? ⟨Y, 0, none⟩ = some (.bool false) := blk_cell hY 0
        have y1 : W4.cell? ⟨Y, 1, none⟩ = some (.slice none 0 0) := blk_cell hY 1
        have y2 : W4.cell? ⟨Y, 2, none⟩ = some (.int .i64 0) := blk_cell hY 2
        have f0 := blk_frozen hY 0
        have f1 := blk_frozen hY 1
        have f2 := blk_frozen hY 2
        go_simp
        refine hK.out _ _ (((hHeld.set (p := ⟨Y, 0, none⟩) (.inl hYs) _).set (p := ⟨Y, 1, none⟩) (.inl hYs) _).set (p := ⟨Y, 2, none⟩) (.inl hYs) _) (fun hHeldN => ?_)
        clear hK K y0 y1 y2 f0 f1 f2
        simp only [Act.put, zd, ze, zf]
        refine pure_ (i := 8) (oi := ?o8) (v := ?v8) #[true, true, true, true, true, true, true, true, true] ?h8 rfl (by kernel_rfl) ?q8 (Or.inl ⟨?w8, ?y8⟩) rfl ?r8
        case h8 => (simp only [ga, gb, gc]; rfl)
        case q8 => exact fun _ _ _ h => h
        case w8 => rfl
        case y8 => (intro W; go_simp; first | done | with_reducible rfl)
        simp only [Act.put, zd, ze, zf]
        refine done_ (by kernel_rfl) ?_
        obtain ⟨s1, s2⟩ := stored1 hY (.bool true) (.slice A3 1 c3) (.int .i64 1)
        have hown9 := own_weaken (own_other_num hownA hY s2) (Nat.zero_le _)
        go_wp2_with fail
        go_meet
        case rel => exact ⟨Y, A3, c3, rfl, rfl, s1, hown9, hc3, hHeldN⟩
      refine AllReadyL.cons (o := ?o9) ?h9 (by simp) (fun K hK => ?s9) ?m9
      case h9 => (simp only [ga, gb, gc]; rfl)
      case m9 => exact AllReadyL.nil
      case s9 =>
        go_simp
        have hY := heap_alloc_new W2 (.cells #[.bool false, .slice none 0 0, .int .i64 0] 24)
        have hoY := (Only.refl W2 (fun _ => False)).alloc (.cells #[.bool false, .slice none 0 0, .int .i64 0] 24)
        have hYs := hHeld.base.size
        replace hrI := reads_only hrI hoY (fun _ _ h => h)
        refine hK.out _ _ (hHeld.alloc _) (fun hHeldN => ?_)
        clear hK K hHeld
        have hHeld := hHeldN
        clear hHeldN
        clear hoY
        simp only [Act.put, zd, ze, zf]
        generalize W2.heap.size = Y at *
        generalize W2.alloc (.cells #[.bool false, .slice none 0 0, .int .i64 0] 24) = W5 at *
        refine wpAnyLast_ready (rs := [2]) (by kernel_rfl) (by simp) ?_
        refine AllReadyL.cons (o := ?o10) ?h10 (by simp) (fun K hK => ?s10) ?m10
        case h10 => (simp only [ga, gb, gc]; rfl)
        case m10 => exact AllReadyL.nil
        go_simp
        go_at_call 17
        refine (add_31 A1 AI c1 cI W5 (reads_only H2.out.2 hHeld (fun _ _ h => h)) hc1 hrI hcI (HT.out _ (H2.out.1.trans hHeld))).mono ?_
        rintro en W6 hI
        obtain ⟨hoI, A3, c3, rfl, hownA, _, hc3⟩ := ans_lit (q0 := 1) (t0 := 1) (ds0 := [1]) (b := true) (f := 1) (n := 1) hI (by decide) (by decide) (by decide) (by decide) (nm_1 1 (by decide) (by decide)) (by decide) (by decide) (by decide) (by decide) (by decide) (by decide) rfl
        replace hY := (hoI.kept _ (blk_lt hY) (fun h => h)).trans hY
        refine hK.out _ _ (hHeld.trans hoI) (fun hHeldN => ?_)
        clear hK K hHeld
        have hHeld := hHeldN
        clear hHeldN
        clear hI hoI hrI
        simp only [Act.put, zd, ze, zf]
        refine pure_ (i := 3) (oi := ?o11) (v := ?v11) #[true, true, true, true, false, false, true, false, false] ?h11 rfl (by kernel_rfl) ?q11 (Or.inl ⟨?w11, ?y11⟩) rfl ?r11
        case h11 => (simp only [ga, gb, gc]; rfl)
        case q11 => exact fun _ _ _ h => h
        case w11 => rfl
        case y11 => (intro W; go_simp; first | done | with_reducible rfl)
        simp only [Act.put, zd, ze, zf]
        refine pure_ (i := 4) (oi := ?o12) (v := ?v12) #[true, true, true, true, true, false, true, false, false] ?h12 rfl (by kernel_rfl) ?q12 (Or.inl ⟨?w12, ?y12⟩) rfl ?r12
        case h12 => (simp only [ga, gb, gc]; rfl)
        case q12 => exact fun _ _ _ h => h
        case w12 => rfl
        case y12 => (intro W; go_simp; first | done | with_reducible rfl)
        simp only [Act.put, zd, ze, zf]
        refine pure_ (i := 5) (oi := ?o13) (v := ?v13) #[true, true, true, true, true, true, true, false, false] ?h13 rfl (by kernel_rfl) ?q13 (Or.inl ⟨?w13, ?y13⟩) rfl ?r13
        case h13 => (simp only [ga, gb, gc]; rfl)
        case q13 => exact fun _ _ _ h => h
        case w13 => rfl
        case y13 => (intro W; go_simp; first | done | with_reducible rfl)
        simp only [Act.put, zd, ze, zf]
        refine wpAnyLast_ready (rs := [7]) (by kernel_rfl) (by simp) ?_
        refine AllReadyL.cons (o := ?o14) ?h14 (by simp) (fun K hK => ?s14) ?m14
        case h14 => (simp only [ga, gb, gc]; rfl)
        case m14 => exact AllReadyL.nil
        have y0 : W6.cell? ⟨Y, 0, none⟩ = some (.bool false) := blk_cell hY 0
        have y1 : W6.cell? ⟨Y, 1, none⟩ = some (.slice none 0 0) := blk_cell hY 1
        have y2 : W6.cell? ⟨Y, 2, none⟩ = some (.int .i64 0) := blk_cell hY 2
        have f0 := blk_frozen hY 0
        have f1 := blk_frozen hY 1
        have f2 := blk_frozen hY 2
        go_simp
        refine hK.out _ _ (((hHeld.set (p := ⟨Y, 0, none⟩) (.inl hYs) _).set (p := ⟨Y, 1, none⟩) (.inl hYs) _).set (p := ⟨Y, 2, none⟩) (.inl hYs) _) (fun hHeldN => ?_)
        clear hK K y0 y1 y2 f0 f1 f2
        simp only [Act.put, zd, ze, zf]
        refine pure_ (i := 8) (oi := ?o15) (v := ?v15) #[true, true, true, true, true, true, true, true, true] ?h15 rfl (by kernel_rfl) ?q15 (Or.inl ⟨?w15, ?y15⟩) rfl ?r15
        case h15 => (simp only [ga, gb, gc]; rfl)
        case q15 => exact fun _ _ _ h => h
        case w15 => rfl
        case y15 => (intro W; go_simp; first | done | with_reducible rfl)
        simp only [Act.put, zd, ze, zf]
        refine done_ (by kernel_rfl) ?_
        obtain ⟨s1, s2⟩ := stored1 hY (.bool true) (.slice A3 1 c3) (.int .i64 1)
        have hown9 := own_weaken (own_other_num hownA hY s2) (Nat.zero_le _)
        go_wp2_with fail
        go_meet
        case rel => exact ⟨Y, A3, c3, rfl, rfl, s1, hown9, hc3, hHeldN⟩
    refine AllReadyL.cons (o := ?o16) ?h16 (by simp) (fun K hK => ?s16) ?m16
    case h16 => (simp only [ga, gb, gc]; rfl)
    case m16 => exact AllReadyL.nil
    case s16 =>
      go_simp
      have hY := heap_alloc_new W1 (.cells #[.bool false, .slice none 0 0, .int .i64 0] 24)
      have hoY := (Only.refl W1 (fun _ => False)).alloc (.cells #[.bool false, .slice none 0 0, .int .i64 0] 24)
      have hYs := hHeld.base.size
      refine hK.out _ _ (hHeld.alloc _) (fun hHeldN => ?_)
      clear hK K hHeld
      have hHeld := hHeldN
      clear hHeldN
      clear hoY
      simp only [Act.put, zd, ze, zf]
      generalize W1.heap.size = Y at *
      generalize W1.alloc (.cells #[.bool false, .slice none 0 0, .int .i64 0] 24) = W7 at *
      refine wpAnyLast_ready (rs := [1]) (by kernel_rfl) (by simp) ?_
      refine AllReadyL.cons (o := ?o17) ?h17 (by simp) (fun K hK => ?s17) ?m17
      case h17 => (simp only [ga, gb, gc]; rfl)
      case m17 => exact AllReadyL.nil
      go_simp
      go_at_call 18
      refine (int_calls 1 W7 (by decide) (by decide) (HT.out _ (H2.out.1.trans hHeld))).mono ?_
      rintro en W8 hI
      obtain ⟨hoI, AI, cI, rfl, hrI, hcI⟩ := int_lit hI (by decide) (by decide) (by decide)
      replace hY := (hoI.kept _ (blk_lt hY) (fun h => h)).trans hY
      refine hK.out _ _ (hHeld.trans hoI) (fun hHeldN => ?_)
      clear hK K hHeld
      have hHeld := hHeldN
      clear hHeldN
      clear hI hoI
      simp only [Act.put, zd, ze, zf]
      refine wpAnyLast_ready (rs := [2]) (by kernel_rfl) (by simp) ?_
      refine AllReadyL.cons (o := ?o18) ?h18 (by simp) (fun K hK => ?s18) ?m18
      case h18 => (simp only [ga, gb, gc]; rfl)
      case m18 => exact AllReadyL.nil
      go_simp
      go_at_call 17
      refine (add_31 A1 AI c1 cI W8 (reads_only H2.out.2 hHeld (fun _ _ h => h)) hc1 hrI hcI (HT.out _ (H2.out.1.trans hHeld))).mono ?_
      rintro en W9 hI
      obtain ⟨hoI, A3, c3, rfl, hownA, _, hc3⟩ := ans_lit (q0 := 1) (t0 := 1) (ds0 := [1]) (b := true) (f := 1) (n := 1) hI (by decide) (by decide) (by decide) (by decide) (nm_1 1 (by decide) (by decide)) (by decide) (by decide) (by decide) (by decide) (by decide) (by decide) rfl
      replace hY := (hoI.kept _ (blk_lt hY) (fun h => h)).trans hY
      refine hK.out _ _ (hHeld.trans hoI) (fun hHeldN => ?_)
      clear hK K hHeld
      have hHeld := hHeldN
      clear hHeldN
      clear hI hoI hrI
      simp only [Act.put, zd, ze, zf]
      refine pure_ (i := 3) (oi := ?o19) (v := ?v19) #[true, true, true, true, false, false, true, false, false] ?h19 rfl (by kernel_rfl) ?q19 (Or.inl ⟨?w19, ?y19⟩) rfl ?r19
      case h19 => (simp only [ga, gb, gc]; rfl)
      case q19 => exact fun _ _ _ h => h
      case w19 => rfl
      case y19 => (intro W; go_simp; first | done | with_reducible rfl)
      simp only [Act.put, zd, ze, zf]
      refine pure_ (i := 4) (oi := ?o20) (v := ?v20) #[true, true, true, true, true, false, true, false, false] ?h20 rfl (by kernel_rfl) ?q20 (Or.inl ⟨?w20, ?y20⟩) rfl ?r20
      case h20 => (simp only [ga, gb, gc]; rfl)
      case q20 => exact fun _ _ _ h => h
      case w20 => rfl
      case y20 => (intro W; go_simp; first | done | with_reducible rfl)
      simp only [Act.put, zd, ze, zf]
      refine pure_ (i := 5) (oi := ?o21) (v := ?v21) #[true, true, true, true, true, true, true, false, false] ?h21 rfl (by kernel_rfl) ?q21 (Or.inl ⟨?w21, ?y21⟩) rfl ?r21
      case h21 => (simp only [ga, gb, gc]; rfl)
      case q21 => exact fun _ _ _ h => h
      case w21 => rfl
      case y21 => (intro W; go_simp; first | done | with_reducible rfl)
      simp only [Act.put, zd, ze, zf]
      refine wpAnyLast_ready (rs := [7]) (by kernel_rfl) (by simp) ?_
      refine AllReadyL.cons (o := ?o22) ?h22 (by simp) (fun K hK => ?s22) ?m22
      case h22 => (simp only [ga, gb, gc]; rfl)
      case m22 => exact AllReadyL.nil
      have y0 : W9.cell? ⟨Y, 0, none⟩ = some (.bool false) := blk_cell hY 0
      have y1 : W9.cell? ⟨Y, 1, none⟩ = some (.slice none 0 0) := blk_cell hY 1
      have y2 : W9.cell? ⟨Y, 2, none⟩ = some (.int .i64 0) := blk_cell hY 2
      have f0 := blk_frozen hY 0
      have f1 := blk_frozen hY 1
      have f2 := blk_frozen hY 2
      go_simp
      refine hK.out _ _ (((hHeld.set (p := ⟨Y, 0, none⟩) (.inl hYs) _).set (p := ⟨Y, 1, none⟩) (.inl hYs) _).set (p := ⟨Y, 2, none⟩) (.inl hYs) _) (fun hHeldN => ?_)
      clear hK K y0 y1 y2 f0 f1 f2
      simp only [Act.put, zd, ze, zf]
      refine pure_ (i := 8) (oi := ?o23) (v := ?v23) #[true, true, true, true, true, true, true, true, true] ?h23 rfl (by kernel_rfl) ?q23 (Or.inl ⟨?w23, ?y23⟩) rfl ?r23
      case h23 => (simp only [ga, gb, gc]; rfl)
      case q23 => exact fun _ _ _ h => h
      case w23 => rfl
      case y23 => (intro W; go_simp; first | done | with_reducible rfl)
      simp only [Act.put, zd, ze, zf]
      refine done_ (by kernel_rfl) ?_
      obtain ⟨s1, s2⟩ := stored1 hY (.bool true) (.slice A3 1 c3) (.int .i64 1)
      have hown9 := own_weaken (own_other_num hownA hY s2) (Nat.zero_le _)
      go_wp2_with fail
      go_meet
      case rel => exact ⟨Y, A3, c3, rfl, rfl, s1, hown9, hc3, hHeldN⟩
end Go.Proofs.YtlfmgdpbjapdjaaGreatFmtBesafter
namespace Go.Proofs.YtlfmgdpbjapdjaaGreatFmtBesafter
open Go.RowKit Go.Proofs.YtlfmgdpbjapdjaaGreatFmtBesafterW.PrintWords
def NumV (w : World) (v : Value) (z e : Int) : Prop := ∃ neg A ds c, v = .agg #[.bool neg, .slice A ds.length c, .int .i64 e] ∧ ReadsInt w .i64 A ds.length ds ∧ ds.length ≤ c ∧ vB neg ds e = true ∧ z = sval neg ds
theorem NumV.only {w w' : World} {v : Value} {z e : Int} (h : NumV w v z e) (ho : Only w w' (fun _ => False)) : NumV w' v z e := by
  obtain ⟨neg, A, ds, c, h1, h2, h3, h4, h5⟩ := h
  exact ⟨neg, A, ds, c, h1, reads_only h2 ho (fun _ _ h => h), h3, h4, h5⟩
theorem sval_range {neg : Bool} {ds : List Int} {e : Int} (h : vB neg ds e = true) : ∃ k : Nat, k ≤ 60000 ∧ (Int.natAbs (sval neg ds) : Int) < 2 ^ k := by
  obtain ⟨hd, hl, _, _⟩ := vB_digs h
  obtain ⟨_, h1⟩ := val_range ds hd
  have : (Int.natAbs (sval neg ds) : Int) = val ds := by
    have := (val_range ds hd).1
    unfold sval; split <;> omega
  exact ⟨30 * ds.length, by omega, by rw [this]; exact h1⟩
theorem NumV.range {w : World} {v : Value} {z e : Int} (h : NumV w v z e) : (∃ k : Nat, k ≤ 60000 ∧ (Int.natAbs z : Int) < 2 ^ k) ∧ -1048576 ≤ e ∧ e ≤ 1048576 := by
  obtain ⟨neg, A, ds, c, _, _, _, h4, rfl⟩ := h
  obtain ⟨_, _, h5, h6⟩ := vB_digs h4
  exact ⟨sval_range h4, h5, h6⟩
theorem vB_num (neg : Bool) (ds : List Int) (e q : Int) (k : Nat) (hv : val ds = q) (hn : Nm ds) (hq : q % 2 = 1) (_ : 0 < q) (hk : k ≤ 60000) (h1 : q < 2 ^ k) (he0 : -1048576 ≤ e) (he1 : e ≤ 1048576) : vB neg ds e = true := by
  have hl : 0 < ds.length := by
    rcases Nat.eq_zero_or_pos ds.length with h | h
    · rw [List.length_eq_zero_iff.1 h] at hv
      simp [val] at hv
      omega
    · exact h
  have hlow := val_low ds hn hl
  rw [hv] at hlow
  have hlen : ds.length ≤ 2000 := by
    have := pow_lt (a := 30 * (ds.length - 1)) (b := k) (by omega)
    omega
  have hodd : ds.getD 0 0 % 2 = 1 := by
    cases ds with
    | nil => simp at hl
    | cons d l =>
      show d % 2 = 1
      rw [val] at hv
      omega
  unfold vB
  rw [if_neg (by omega)]
  have ha : ds.all digB = true := all_digs.2 hn.1
  have hb : (ds.getD (ds.length - 1) 0 == 0) = false := by rw [beq_eq_false_iff_ne]; exact hn.2 hl
  rw [ha, hb, hodd, decide_eq_true hlen, decide_eq_true he0, decide_eq_true he1]
  rfl
theorem numV_zero (w : World) : NumV w (.agg #[.bool false, .slice none 0 0, .int .i64 0]) 0 0 :=
  ⟨false, none, [], 0, rfl, ⟨rfl, by simp, fun h => absurd h (Nat.lt_irrefl 0)⟩, Nat.le_refl _, by decide, rfl⟩
theorem Ans.num {w w' : World} {z e : Int} {en : Ending} {k : Nat} (h : Ans w z e en w') (hz : (Int.natAbs z : Int) < 2 ^ k) (hk : k ≤ 60000) (he0 : -1048576 ≤ e) (he1 : e + k ≤ 1048576) :
    ∃ v z' e', en = .returned (.tuple #[v, .int .i64 0]) ∧ NumV w' v z' e' ∧ Only w w' (fun _ => False) ∧ ((z = 0 ∧ z' = 0 ∧ e' = 0) ∨ (z' ≠ 0 ∧ ∃ t : Nat, z = z' * 2 ^ t ∧ e' = e + t ∧ t < k)) := by
  obtain ⟨ho, ⟨rfl, rfl⟩ | ⟨h0, t, j, q, a1, a2, a3, a4, hc⟩⟩ := h
  · exact ⟨_, 0, 0, rfl, numV_zero _, ho, .inl ⟨rfl, rfl, rfl⟩⟩
  · have hP : (0 : Int) < 2 ^ t := Int.pow_pos (by omega)
    have hqz : q ≤ (Int.natAbs z : Int) := by
      rw [a1]
      have := Int.mul_le_mul_of_nonneg_left (show (1 : Int) ≤ 2 ^ t by omega) (Int.le_of_lt a3)
      omega
    have htz : (2 : Int) ^ t ≤ (Int.natAbs z : Int) := by
      rw [a1]
      have := Int.mul_le_mul_of_nonneg_right (show (1 : Int) ≤ q by omega) (Int.le_of_lt hP)
      omega
    have htk : t < k := pow_lt (by omega)
    have hj : j ≤ k := by
      rcases Nat.eq_zero_or_pos j with h | h
      · omega
      · have := pow_lt (a := j - 1) (b := k) (by have := a4.2 h; omega)
        omega
    rcases hc with ⟨hbad, _⟩ | ⟨b1, b2, b3, v, ds, rfl, hown, hval, hnm⟩
    · omega
    · have hl : 0 < ds.length := by
        rcases Nat.eq_zero_or_pos ds.length with h | h
        · rw [List.length_eq_zero_iff.1 h] at hval
          simp [val] at hval
          omega
        · exact h
      obtain ⟨A, c, rfl, hr, hc⟩ := own_read1 hown hl
      have hv := vB_num (decide (z < 0)) ds (e + t) q j hval hnm a2 a3 (by omega) a4.1 b2 b3
      refine ⟨_, sval (decide (z < 0)) ds, e + t, rfl, ⟨_, A, ds, c, rfl, hr, hc, hv, rfl⟩, ho, .inr ⟨?_, t, ?_, rfl, htk⟩⟩
      · unfold sval; rw [hval]; split <;> omega
      · unfold sval; rw [hval]
        by_cases hn : z < 0
        · rw [decide_eq_true hn, if_pos rfl, Int.neg_mul, ← a1]; omega
        · rw [decide_eq_false hn, if_neg (by decide), ← a1]; omega
theorem sval_bits {neg : Bool} {ds : List Int} {e : Int} (h : vB neg ds e = true) : ∃ k : Nat, k ≤ 60000 ∧ Bits k (sval neg ds) := sval_range h
set_option maxRecDepth 100000 in
set_option maxHeartbeats 8000000 in
theorem cmp_ok (neg neg' : Bool) (A A' : Option Addr) (c c' : Nat) (ds ds' : List Int) (e e' : Int) (w : World) (hr : ReadsInt w .i64 A ds.length ds) (hc : ds.length ≤ c) (hv : vB neg ds e = true) (hr' : ReadsInt w .i64 A' ds'.length ds') (hc' : ds'.length ≤ c') (hv' : vB neg' ds' e' = true) :
    Calls Tryz.prog 12 #[.agg #[.bool neg, .slice A ds.length c, .int .i64 e], .agg #[.bool neg', .slice A' ds'.length c', .int .i64 e']] w fun en w' => en = .returned (.tuple #[.int .i64 (sumZ (sval neg ds) e (-sval neg' ds') e').sign, .int .i64 0]) ∧ Only w w' (fun _ => False) := by
  obtain ⟨k1, l1, hk1⟩ := sval_bits hv
  obtain ⟨k2, l2, hk2⟩ := sval_bits hv'
  obtain ⟨_, _, a1, a2⟩ := vB_digs hv
  obtain ⟨_, _, b1, b2⟩ := vB_digs hv'
  have HV := Lib.hid (And.intro hv (And.intro hv' (And.intro hk1 hk2)))
  have HO := Lib.hid (fun a b c : Obj => ((((Only.refl w (fun _ => False)).alloc a).alloc b).alloc c))
  clear hv hv' hk1 hk2
  go_enter_defers Tryz.func12, Tryz.ntmps12
  go_wp2_with fail
  obtain ⟨h1, h2, h3⟩ := heap_three w (.cells #[.bool neg, .slice A ds.length c, .int .i64 e] 24) (.cells #[.bool neg', .slice A' ds'.length c', .int .i64 e'] 24) (.cells #[.int .i64 0] 26)
  have ho4 := HO.out (.cells #[.bool neg, .slice A ds.length c, .int .i64 e] 24) (.cells #[.bool neg', .slice A' ds'.length c', .int .i64 e'] 24) (.cells #[.int .i64 0] 26)
  have hsz4 : (((w.alloc (.cells #[.bool neg, .slice A ds.length c, .int .i64 e] 24)).alloc (.cells #[.bool neg', .slice A' ds'.length c', .int .i64 e'] 24)).alloc (.cells #[.int .i64 0] 26)).heap.size = w.heap.size + 1 + 1 + 1 := by simp
  generalize hw4 : (((w.alloc (.cells #[.bool neg, .slice A ds.length c, .int .i64 e] 24)).alloc (.cells #[.bool neg', .slice A' ds'.length c', .int .i64 e'] 24)).alloc (.cells #[.int .i64 0] 26)) = w4 at *
  clear hw4
  have hE4 := h3
  have hb5 := heap_alloc_new w4 (.cells #[.bool neg, .slice A ds.length c, .int .i64 e, .bool neg', .slice A' ds'.length c', .int .i64 e'] 24)
  have ho5 := ho4.alloc (.cells #[.bool neg, .slice A ds.length c, .int .i64 e, .bool neg', .slice A' ds'.length c', .int .i64 e'] 24)
  have ho45 : Only w4 (w4.alloc (.cells #[.bool neg, .slice A ds.length c, .int .i64 e, .bool neg', .slice A' ds'.length c', .int .i64 e'] 24)) (fun _ => False) := (Only.refl w4 _).alloc _
  rw [← hsz4]
  generalize w4.alloc (.cells #[.bool neg, .slice A ds.length c, .int .i64 e, .bool neg', .slice A' ds'.length c', .int .i64 e'] 24) = w5 at *
  refine (open2_ok w4.heap.size neg neg' A A' c c' ds ds' e e' w5 hb5 (reads_only hr ho5 (fun _ _ h => h)) hc HV.out.1 (reads_only hr' ho5 (fun _ _ h => h)) hc' HV.out.2.1).mono ?_
  rintro en w6 ⟨rfl, ho56, g, g', m, hout, hm, ⟨o, hi, hgB, hgm, hom⟩, ⟨o', hi', hgm', hom'⟩⟩
  have c2 : w6.cell? ⟨w5.heap.size, 2, none⟩ = some (.pointer (some ⟨g', 0, none⟩)) := blk_cell hout 2
  have HNG := Lib.hid (neg_int g' o' _ w6.drew (hi'.only (Only.refl w6 (fun _ => False)).drew (fun h => h) (fun _ _ h => h)))
  have hE6 := ((ho45.trans ho56).kept _ (blk_lt hE4) (fun h => h)).trans hE4
  have ho06 := ho5.trans ho56
  have hl0 := blk_lt hE4
  have hl45 := ho45.base.size
  clear h1 h2 h3 hE4 hb5 ho45 ho56 ho5 ho4 HO hr hr'
  go_upto_region 3 with (fail)
  go_still_tail 8, (by kernel_rfl)
  change wpList _ _ _ _ _ w6.drew
  go_wp2_with fail
  refine HNG.out.mono ?_
  rintro en w7 ⟨rfl, o7, hi7, ho67, hoo⟩
  have hap : ∀ k, k < m → ¬ (k = g' ∨ o' = some k) := by
    rintro k hk (rfl | h)
    · omega
    · have := hom' k h; omega
  have hi1 : IsInt w7 g o (sval neg ds) := (hi.only (Only.refl w6 (fun _ => False)).drew (fun h => h) (fun _ _ h => h)).only ho67 (hap g hgm) (fun b hb => hap b (hom b hb).2)
  have hout7 := (ho67.kept _ (blk_lt hout) (hap _ (by omega))).trans hout
  have hE7 := (ho67.kept _ (blk_lt hE6) (hap _ (by omega))).trans hE6
  have ho07 : Only w w7 (fun _ => False) := ho06.drew.step ho67 (by
    rintro i hi hS
    have h9 := ho06.base.size
    have h10 : w5.heap.size ≤ m := hm
    exact hap i (by omega) hS)
  have HPL := Lib.hid (plus_any w5.heap.size g g' o o7 (sval neg ds) (-sval neg' ds') e e' k1 k2 w7 hout7 hi1 hi7 HV.out.2.2.1 HV.out.2.2.2.neg (by omega) (by omega) (by omega) (by omega) (by omega) (by omega))
  clear c2 hi hi' hout HNG hE6 ho06 ho67 hoo hi1 hi7 hout7 hap hom hom'
  go_wp2_with fail
  refine HPL.out.mono ?_
  rintro en w8 ⟨k, rfl, ⟨ok, hk⟩, ho78⟩
  have hE8 := (ho78.kept _ (blk_lt hE7) (fun h => h)).trans hE7
  have ho08 := ho07.trans ho78
  clear hE7 ho78 ho07 HPL
  have hfd : ∀ w : World, (Instr.field 44 (.agg #[.pointer (some ⟨k, 0, none⟩), .int .i64 (sumE (sval neg ds) e (-sval neg' ds') e')]) 0).run Tryz.prog w = .ok (.pointer (some ⟨k, 0, none⟩)) w := fun _ => by kernel_rfl
  go_wp2_with fail
  refine (sign_int k ok _ w8 hk).mono ?_
  rintro en w' ⟨rfl, hw⟩
  rw [hw]
  clear hw w'
  have e0 : w8.cell? ⟨w.heap.size + 1 + 1, 0, none⟩ = some (.int .i64 0) := blk_cell hE8 0
  have fe0 := blk_frozen hE8 0
  have hE9 := blk_set hE8 0 (.int .i64 0)
  have ho09 := ho08.set (p := ⟨w.heap.size + 1 + 1, 0, none⟩) (.inl (by show w.heap.size ≤ w.heap.size + 1 + 1; omega)) (.int .i64 0)
  clear hk HV ho08
  go_wp2_with fail
  refine sign_door rfl _ _ (w.heap.size + 1 + 1) _ 0 _ rfl rfl (by simpa using blk_cell hE9 0) ⟨rfl, ho09⟩
theorem cmp_num (v v' : Value) (z e z' e' : Int) (w : World) (h : NumV w v z e) (h' : NumV w v' z' e') :
    Calls Tryz.prog 12 #[v, v'] w fun en w' => en = .returned (.tuple #[.int .i64 (sumZ z e (-z') e').sign, .int .i64 0]) ∧ Only w w' (fun _ => False) := by
  obtain ⟨neg, A, ds, c, rfl, h1, h2, h3, rfl⟩ := h
  obtain ⟨neg', A', ds', c', rfl, h1', h2', h3', rfl⟩ := h'
  exact cmp_ok neg neg' A A' c c' ds ds' e e' w h1 h2 h3 h1' h2' h3'
end Go.Proofs.YtlfmgdpbjapdjaaGreatFmtBesafter
namespace Go.Proofs.YtlfmgdpbjapdjaaGreatFmtBesafter.Flt
open Go.RowKit
def ncan64 (b : Int) : Int := if cls64 b = 4 then nan64 else if cls64 b = 0 then 0 else b
def ncan32 (b : Int) : Int := if cls32 b = 4 then nan32 else if cls32 b = 0 then 0 else b
def ncan (b w : Int) : Int := if w = 64 then ncan64 b else if w = 32 then ncan32 b else 0
end Go.Proofs.YtlfmgdpbjapdjaaGreatFmtBesafter.Flt
namespace Go.Proofs.YtlfmgdpbjapdjaaGreatFmtBesafter
open Go.RowKit Go.Proofs.YtlfmgdpbjapdjaaGreatFmtBesafterW.PrintWords
theorem canon_n (b v : Int) : F.bits_Canon.f 2 b v = some (Flt.ncan b v) := by
  unfold F.bits_Canon.f Flt.ncan
  by_cases h : v = 64
  · subst h
    simp only [if_true, F.bits_Canon.j0, Option.bind_some, cls_f64, show ¬ (64 : Int) = 32 by decide, if_false, Bool.false_eq_true]
    unfold Flt.ncan64
    by_cases c : Flt.cls64 b = 4
    · simp only [c, if_true, F.bits_nan.f]; rfl
    · simp only [c, if_false]
      split <;> rfl
  · by_cases h2 : v = 32
    · subst h2
      simp only [if_true, F.bits_Canon.j0, Option.bind_some, cls_f32, show ¬ (32 : Int) = 64 by decide, if_false, bne_self_eq_false, Bool.false_eq_true]
      unfold Flt.ncan32
      by_cases c : Flt.cls32 b = 4
      · simp only [c, if_true, F.bits_nan.f]; rfl
      · simp only [c, if_false]
        split <;> rfl
    · rw [if_neg h, if_neg h, if_neg h2]
      simp only [F.bits_Canon.j0, bne_iff_ne.2 h2, if_true]
def wayF (n : Int) : Nat := if n = 0 then 77 else if n = 1 then 78 else 80
def tfn (n v b : Int) (u : Bool) : Int := if n = 0 then b else if n = 1 then (if u = true then Flt.nprev b v else b) else if u = true then b else Flt.nxt b v
theorem enters_ {f : FuncId} {fn : Func} {c : Code} (hf : Tryz.prog.funcs[f]? = some fn) (hname : (fn.name == "runtime.NumGoroutine") = false) (hb : fn.body = some c) (args : Array Value) (w : World) : (callFunc f args).run Tryz.prog w = .ok (.enter f args) w := by
  have h1 : fn.name ≠ "runtime.NumGoroutine" := by simpa using hname
  simp [callFunc, hf, h1, hb]
theorem way_enters (n : Int) (hn : n = 0 ∨ n = 1 ∨ n = 2) (args : Array Value) (w : World) : (callFunc (wayF n) args).run Tryz.prog w = .ok (.enter (wayF n) args) w := by
  rcases hn with rfl | rfl | rfl
  · exact enters_ Tryz.func77 (by kernel_rfl) rfl args w
  · exact enters_ Tryz.func78 (by kernel_rfl) rfl args w
  · exact enters_ Tryz.func80 (by kernel_rfl) rfl args w
set_option maxRecDepth 100000 in
set_option maxHeartbeats 1000000 in
theorem down_above (b v : Int) (w : World) (hb : Flt.I64 b) : Calls Tryz.prog 78 #[.int .i64 b, .int .i64 v, .bool true] w fun e w' => e = .returned (.int .i64 (Flt.nprev b v)) ∧ Only w w' (fun _ => False) := by
  have HP := Lib.hid (prev_any b v hb)
  generalize Flt.nprev b v = z at *
  go_enter Tryz.func78, Tryz.ntmps78
  go_wp2_with fail
  refine (HP.out _).mono ?_
  rintro e w1 ⟨rfl, hb1⟩
  have ho := Only.of_below hb1
  clear hb1
  go_wp2_with fail
  go_ret
  exact ⟨rfl, ho⟩
set_option maxRecDepth 100000 in
set_option maxHeartbeats 1000000 in
theorem up_below (b v : Int) (w : World) (hb : Flt.I64 b) : Calls Tryz.prog 80 #[.int .i64 b, .int .i64 v, .bool false] w fun e w' => e = .returned (.int .i64 (Flt.nxt b v)) ∧ Only w w' (fun _ => False) := by
  have HP := Lib.hid (next_any b v hb)
  generalize Flt.nxt b v = z at *
  go_enter Tryz.func80, Tryz.ntmps80
  go_wp2_with fail
  refine (HP.out _).mono ?_
  rintro e w1 ⟨rfl, hb1⟩
  have ho := Only.of_below hb1
  clear hb1
  go_wp2_with fail
  go_ret
  exact ⟨rfl, ho⟩
theorem turn_calls (n v b : Int) (u : Bool) (w : World) (hn : n = 0 ∨ n = 1 ∨ n = 2) (hb : Flt.I64 b) : Calls Tryz.prog (wayF n) #[.int .i64 b, .int .i64 v, .bool u] w fun e w' => e = .returned (.int .i64 (tfn n v b u)) ∧ Only w w' (fun _ => False) := by
  have same : ∀ (e : Ending) (w' : World), (e = .returned (.int .i64 b) ∧ w' = w) → e = .returned (.int .i64 b) ∧ Only w w' (fun _ => False) := by
    rintro e w' ⟨rfl, rfl⟩
    exact ⟨rfl, Only.refl _ _⟩
  rcases hn with rfl | rfl | rfl
  · exact (near_calls b v u w).mono same
  · cases u
    · exact (down_below b v w).mono same
    · exact down_above b v w hb
  · cases u
    · exact up_below b v w hb
    · exact (up_above b v w).mono same
def ToAnsG (z e wd : Int) (fid : Nat) (P : Int → Bool → Prop) : Prop := ∀ (gq : Nat) (oq : Option Nat) (w : World), IsInt w gq oq z → Calls Tryz.prog 39 #[.agg #[.pointer (some ⟨gq, 0, none⟩), .int .i64 e, .bool false], .int .i64 wd, .agg #[.func (.func fid) #[] #[]]] w fun en w' => ∃ cn odd, P cn odd ∧ en = .returned (.tuple #[.int .i64 cn, .bool odd]) ∧ Only w w' (fun _ => False)
set_option maxRecDepth 100000 in
set_option maxHeartbeats 8000000 in
theorem rounded_any (b : Nat) (neg : Bool) (A : Option Addr) (c : Nat) (ds : List Int) (e wd n : Int) (P : Int → Bool → Prop) (w : World) (hwd : wd = 64 ∨ wd = 32) (hn : n = 0 ∨ n = 1 ∨ n = 2) (hb : w.heap[b]? = some (.cells (numCells neg A ds.length c e) 24 (0, 0))) (hr : ReadsInt w .i64 A ds.length ds) (hc : ds.length ≤ c) (hv : vB neg ds e = true) (hto : ToAnsG (sval neg ds) e wd (wayF n) P) :
    Calls Tryz.prog 14 #[.int .i64 wd, .int .i64 n, .slice (some ⟨b, 0, none⟩) 1 1, .func (.func 15) #[] #[]] w fun en w' => (∃ cn odd, P cn odd ∧ en = .returned (.tuple #[.int .i64 cn, .bool odd, .int .i64 0])) ∧ Only w w' (fun _ => False) := by
  obtain ⟨w1, hw1, hE, ho1⟩ : ∃ w1, w1 = w.alloc (.cells #[.int .i64 0] 26) ∧ w1.heap[w.heap.size]? = some (.cells #[.int .i64 0] 26 (0, 0)) ∧ Only w w1 (fun _ => False) := ⟨_, rfl, heap_alloc_new w _, (Only.refl w _).alloc _⟩
  have HOP := Lib.hid (open1_ok b neg A c ds e w1 ((ho1.kept _ (blk_lt hb) (fun h => h)).trans hb) (reads_only hr ho1 (fun _ _ h => h)) hc hv)
  have HE := Lib.hid (And.intro hE ho1)
  have HTO := Lib.hid hto
  have hwb : (wd != 64 && wd != 32) = false := by rcases hwd with rfl | rfl <;> rfl
  have hnr : 0 ≤ n ∧ n ≤ 2 := by omega
  have HN := Lib.hid (And.intro hwd hn)
  obtain ⟨n0, n2⟩ := hnr
  clear hb hr hE ho1 hv hto hwd hn
  have hfid : ∀ w, (Instr.index 79 (.agg #[.func (.func 77) #[] #[], .func (.func 78) #[] #[], .func (.func 80) #[] #[]]) (.int .i64 n)).run Tryz.prog w = .ok (.agg #[.func (.func (wayF n)) #[] #[]]) w := by
    rcases HN.out.2 with rfl | rfl | rfl
    · exact fun w => (way_at _ _ _ w).1
    · exact fun w => (way_at _ _ _ w).2.1
    · exact fun w => (way_at _ _ _ w).2.2
  have HFI := Lib.hid hfid
  clear hfid
  go_enter_defers Tryz.func14, Tryz.ntmps14
  go_upto_region 1 with (fail)
  rw [← hw1]
  clear hw1
  go_upto_region 2 with (fail)
  go_cut [11] from 12 (fun s wx => s = .bool false ∧ w1 = wx)
  case first =>
    rcases HN.out.1 with rfl | rfl
    · go_wp2_with fail
      go_meet
      exact ⟨rfl, rfl⟩
    · go_wp2_with fail
      go_meet
      exact ⟨rfl, rfl⟩
  case rest =>
  obtain ⟨rfl, rfl⟩ := hcut
  clear hwb
  go_wp2_with fail
  refine HOP.out.mono ?_
  rintro en w2 ⟨rfl, ho2, g, hout, ⟨o, hi, _⟩⟩
  go_wp2_with fail
  refine (fix_calls w1.heap.size g e w2 hout).mono ?_
  rintro en w3 ⟨rfl, ho3⟩
  have hi3 := hi.only ho3 (fun h => h) (fun _ _ h => h)
  clear hi hout
  go_wp2_with fail
  refine (ways_calls w3).mono ?_
  rintro en w4 ⟨rfl, ho4⟩
  have hway := HFI.out
  go_wp2_with fail
  refine (HTO.out g o w4 (hi3.only ho4 (fun h => h) (fun _ _ h => h))).mono ?_
  rintro en w5 ⟨cn, odd, hP, rfl, ho5⟩
  obtain ⟨hE, ho1⟩ := HE.out
  have ho15 := ((ho2.trans ho3).trans ho4).trans ho5
  have hE5 := (ho15.kept _ (blk_lt hE) (fun h => h)).trans hE
  have e0 : w5.cell? ⟨w.heap.size, 0, none⟩ = some (.int .i64 0) := blk_cell hE5 0
  have fe0 := blk_frozen hE5 0
  have HF := Lib.hid (And.intro hE5 (ho1.trans ho15))
  clear hi3 ho2 ho3 ho4 ho5 hE ho1 ho15 hE5 HOP HE hway HFI HTO
  go_wp2_with fail
  have hE6 := blk_set HF.out.1 0 (.int .i64 0)
  refine round_door rfl _ _ w.heap.size _ _ 0 _ rfl rfl rfl (by simpa using blk_cell hE6 0) ⟨⟨cn, odd, hP, rfl⟩, ?_⟩
  exact HF.out.2.set (.inl (Nat.le_refl _)) _
set_option maxRecDepth 100000 in
set_option maxHeartbeats 8000000 in
theorem round_any_calls (neg : Bool) (A : Option Addr) (c : Nat) (ds : List Int) (e wd n : Int) (P : Int → Bool → Prop) (w : World) (hwd : wd = 64 ∨ wd = 32) (hn : n = 0 ∨ n = 1 ∨ n = 2) (hr : ReadsInt w .i64 A ds.length ds) (hc : ds.length ≤ c) (hv : vB neg ds e = true) (hto : ToAnsG (sval neg ds) e wd (wayF n) P) :
    Calls Tryz.prog 5 #[.agg #[.bool neg, .slice A ds.length c, .int .i64 e], .int .i64 wd, .int .i64 n] w fun en w' => (∃ cn odd, P cn odd ∧ en = .returned (.tuple #[.int .i64 cn, .bool odd, .int .i64 0])) ∧ Only w w' (fun _ => False) := by
  have HR := Lib.hid (And.intro hr (And.intro hwd (And.intro hn (And.intro hv hto))))
  clear hr hwd hn hv hto
  go_enter Tryz.func5, Tryz.ntmps5
  go_wp2_with fail
  have hb := heap_alloc_new (w.alloc (.cells #[.bool neg, .slice A ds.length c, .int .i64 e] 24)) (.cells #[.bool neg, .slice A ds.length c, .int .i64 e] 24)
  have ho := ((Only.refl w (fun _ => False)).alloc (.cells #[.bool neg, .slice A ds.length c, .int .i64 e] 24)).alloc (.cells #[.bool neg, .slice A ds.length c, .int .i64 e] 24)
  obtain ⟨hr, hwd, hn, hv, hto⟩ := HR.out
  refine (rounded_any (w.heap.size + 1) neg A c ds e wd n P _ hwd hn (by simpa [numCells] using hb) (reads_only hr ho (fun _ _ h => h)) hc hv hto).mono ?_
  rintro en w' ⟨⟨cn, odd, hP, rfl⟩, ho'⟩
  have HO := Lib.hid (ho.trans ho')
  clear hb ho ho' hr hwd hn hv hto HR
  go_wp2_with fail
  go_ret3
  exact ⟨⟨cn, odd, hP, rfl⟩, HO.out⟩
end Go.Proofs.YtlfmgdpbjapdjaaGreatFmtBesafter
namespace Go.Proofs.YtlfmgdpbjapdjaaGreatFmtBesafter
open Go.RowKit Go.Proofs.YtlfmgdpbjapdjaaGreatFmtBesafterW.PrintWords
def wB (v : Int) : Nat := if v = 64 then 4503599627370496 else 8388608
def wI (v : Int) : Nat := if v = 64 then 9218868437227405312 else 2139095040
def wL (v : Int) : Int := if v = 64 then 1074 else 149
def RSpec (v n z e : Int) (cn : Int) (odd : Bool) : Prop := ∃ r, r ≤ wI v ∧ Rd (wB v) (wI v) (tw n.toNat (decide (z < 0))) (Int.natAbs z) (e + wL v) r odd ∧ cn = pat v (decide (z < 0)) r
theorem rung_le (I t K : Nat) (up ex : Bool) : rung I t K up ex ≤ I := by
  unfold rung; split
  · omega
  · split <;> omega
theorem NearK.not_both {B i K : Nat} {M H : Int} {up ex : Bool} (h : NearK B M i H K up ex) (hu : up = true) : ex = false ∧ 0 < K := by
  obtain ⟨h0, _, h2, _⟩ := h.above hu
  refine ⟨?_, h0⟩
  cases hx : ex
  · rfl
  · have := h.exact.1 hx; omega
theorem cls_b64 (n : Bool) (r : Nat) (hr : r ≤ 9218868437227405312) : ¬ Flt.cls64 (b64 n r) = 4 ∧ (Flt.cls64 (b64 n r) = 0 ↔ r = 0) := by
  unfold Flt.cls64 b64 
  cases n
  · simp only [Bool.false_eq_true, if_false]
    
    refine ⟨?_, ?_⟩
    · split
      · split <;> omega
      · split
        · split <;> omega
        · omega
    · split
      · split <;> omega
      · split
        · split <;> omega
        · omega
  · simp only [if_true]
    
    refine ⟨?_, ?_⟩
    · split
      · split <;> omega
      · split
        · split <;> omega
        · omega
    · split
      · split <;> omega
      · split
        · split <;> omega
        · omega
theorem nneg_b64 (n : Bool) (r : Nat) (hr : r ≤ 9218868437227405312) : Flt.nneg (b64 n r) 64 = b64 (!n) r := by
  have hc := (cls_b64 n r hr).1
  unfold Flt.nneg
  rw [if_pos rfl]
  unfold Flt.nneg64
  rw [if_neg hc]
  unfold b64
  cases n <;> simp <;> omega
theorem nxt_pos64 (r : Nat) (hr : r < 9218868437227405312) : Flt.nxt (b64 false r) 64 = b64 false (r + 1) := by
  have hc := cls_b64 false r (by omega)
  unfold Flt.nxt
  rw [if_pos rfl]
  unfold Flt.nxt64
  rw [if_neg hc.1]
  have hb : ∀ r : Nat, b64 false r = r := fun r => rfl
  rw [hb] at hc ⊢
  rw [hb, if_neg (by unfold Flt.inf64; omega)]
  by_cases h0 : r = 0
  · rw [if_pos (hc.2.2 h0), h0]; rfl
  · rw [if_neg (fun h => h0 (hc.2.1 h)), if_neg (by omega)]; omega
theorem nxt_neg64 (r : Nat) (h0 : 0 < r) (hr : r ≤ 9218868437227405312) : Flt.nxt (b64 true r) 64 = b64 true (r - 1) := by
  have hc := cls_b64 true r (by omega)
  unfold Flt.nxt
  rw [if_pos rfl]
  unfold Flt.nxt64
  rw [if_neg hc.1]
  have hb : ∀ r : Nat, b64 true r = (r : Int) - 9223372036854775808 := fun r => rfl
  rw [hb] at hc ⊢
  rw [hb, if_neg (by unfold Flt.inf64; omega), if_neg (fun h => by have := hc.2.1 h; omega), if_pos (by omega)]; omega
theorem nprev_pos64 (r : Nat) (h0 : 0 < r) (hr : r ≤ 9218868437227405312) : Flt.nprev (b64 false r) 64 = b64 false (r - 1) := by
  unfold Flt.nprev
  rw [nneg_b64 false r hr, Bool.not_false, nxt_neg64 r h0 hr, nneg_b64 true (r - 1) (by omega)]; rfl
theorem nprev_neg64 (r : Nat) (hr : r < 9218868437227405312) : Flt.nprev (b64 true r) 64 = b64 true (r + 1) := by
  unfold Flt.nprev
  rw [nneg_b64 true r (by omega), Bool.not_true, nxt_pos64 r hr, nneg_b64 false (r + 1) (by omega)]; rfl
theorem ncan_b64 (n : Bool) (r : Nat) (hr : r ≤ 9218868437227405312) : Flt.ncan (b64 n r) 64 = pat 64 n r := by
  have hc := cls_b64 n r hr
  unfold Flt.ncan
  rw [if_pos rfl]
  unfold Flt.ncan64 pat
  rw [if_neg hc.1]
  by_cases h0 : r = 0
  · rw [if_pos (hc.2.2 h0), if_pos h0]
  · rw [if_neg (fun h => h0 (hc.2.1 h)), if_neg h0]; rw [if_pos rfl]; rfl
theorem turned64 (n : Int) (neg : Bool) (B : Nat) (x s a : Int) (r : Nat) (hn : n = 0 ∨ n = 1 ∨ n = 2) (hx : 0 < x) (h : Near2 B 9218868437227405312 x s neg r a) :
    ∃ q, q ≤ 9218868437227405312 ∧ Rd B 9218868437227405312 (tw n.toNat neg) x s q (a != 0 || false) ∧ Flt.ncan (if a = 0 then b64 neg r else tfn n 64 (b64 neg r) (a == 1)) 64 = pat 64 neg q := by
  obtain ⟨K, up, ex, ⟨i, t, his, hN⟩, rfl, ha⟩ := h
  have hnb := hN.not_both
  have hodd : (a != 0 || false) = !(ex && decide (K < 9218868437227405312)) := by
    rw [ha]
    by_cases hI : 9218868437227405312 ≤ K
    · rw [if_pos hI, decide_eq_false (by omega)]; cases neg <;> cases ex <;> rfl
    · rw [if_neg hI, decide_eq_true (by omega)]
      cases ex <;> cases neg <;> cases up <;> rfl
  have fin : (if a = 0 then b64 neg (min K 9218868437227405312) else tfn n 64 (b64 neg (min K 9218868437227405312)) (a == 1)) = b64 neg (rung 9218868437227405312 (tw n.toNat neg) K up ex) → ∃ q, q ≤ 9218868437227405312 ∧ Rd B 9218868437227405312 (tw n.toNat neg) x s q (a != 0 || false) ∧ Flt.ncan (if a = 0 then b64 neg (min K 9218868437227405312) else tfn n 64 (b64 neg (min K 9218868437227405312)) (a == 1)) 64 = pat 64 neg q := by
    intro h
    refine ⟨_, rung_le _ _ _ _ _, .inr ⟨hx, K, up, ex, ⟨i, t, his, hN⟩, rfl, hodd⟩, ?_⟩
    rw [h]
    exact ncan_b64 neg _ (rung_le _ _ _ _ _)
  refine fin ?_
  clear fin hodd hN his
  have e1 : ((1 : Int) == 1) = true := rfl
  have e2 : ((-1 : Int) == 1) = false := rfl
  by_cases hI : 9218868437227405312 ≤ K
  · rw [if_pos hI] at ha
    rw [show min K 9218868437227405312 = 9218868437227405312 by omega]
    rcases hn with rfl | rfl | rfl <;> cases neg <;> subst ha
    · simp [tfn, tw, rung]; congr 1; omega
    · simp [tfn, tw, rung]; congr 1; omega
    · simp only [Bool.false_eq_true, if_false, show ¬ (1 : Int) = 0 by decide, tfn, if_true, e1]
      rw [nprev_pos64 _ (by omega) (by omega)]
      congr 1
      simp only [rung, tw, show Int.toNat 1 = 1 by rfl, show ¬ (1 : Nat) = 0 by decide, if_false, if_true]
      cases up <;> simp <;> omega
    · simp only [if_true, show ¬ (-1 : Int) = 0 by decide, show ¬ (1 : Int) = 0 by decide, tfn, if_false, e2, Bool.false_eq_true]
      congr 1
      simp [rung, tw]
      split <;> omega
    · simp only [Bool.false_eq_true, if_false, show ¬ (1 : Int) = 0 by decide, show ¬ (2 : Int) = 0 by decide, show ¬ (2 : Int) = 1 by decide, tfn, if_true, e1]
      congr 1
      simp [rung, tw]
      split <;> omega
    · simp only [if_true, show ¬ (-1 : Int) = 0 by decide, show ¬ (2 : Int) = 0 by decide, show ¬ (2 : Int) = 1 by decide, tfn, if_false, e2, Bool.false_eq_true]
      rw [nxt_neg64 _ (by omega) (by omega)]
      congr 1
      simp [rung, tw]
      split <;> omega
  · rw [if_neg hI] at ha
    rw [show min K 9218868437227405312 = K by omega]
    cases ex
    · simp only [Bool.false_eq_true, if_false] at ha
      rcases hn with rfl | rfl | rfl <;> cases neg <;> cases up <;> simp only [if_true, if_false, Bool.false_eq_true, Bool.true_eq_false] at ha <;> subst ha
      all_goals simp only [tfn, show ¬ (1 : Int) = 0 by decide, show ¬ (-1 : Int) = 0 by decide, show ¬ (2 : Int) = 0 by decide, show ¬ (2 : Int) = 1 by decide, if_true, if_false, e1, e2, Bool.false_eq_true]
      all_goals first
        | rw [nprev_pos64 _ (hnb rfl).2 (by omega)]
        | rw [nprev_neg64 _ (by omega)]
        | rw [nxt_neg64 _ (hnb rfl).2 (by omega)]
        | rw [nxt_pos64 _ (by omega)]
        | skip
      all_goals
        congr 1
        simp [rung, tw]
        omega
    · have hu : up = false := by
        cases hu : up
        · rfl
        · have := (hnb hu).1; cases this
      subst hu
      simp only [if_true] at ha
      subst ha
      rw [if_pos rfl]
      congr 1
      rcases hn with rfl | rfl | rfl <;> cases neg <;> simp [rung, tw] <;> omega
theorem to_spec64 (z e n : Int) (k : Nat) (hn : n = 0 ∨ n = 1 ∨ n = 2) (hk : Bits k z) (hk2 : k ≤ 1000000) (he0 : -2000000 ≤ e) (he1 : e ≤ 2000000) : ToAnsG z e 64 (wayF n) (RSpec 64 n z e) := by
  intro gq oq w hi
  have eB : wB 64 = 4503599627370496 := rfl
  have eI : wI 64 = 9218868437227405312 := rfl
  have eL : wL 64 = 1074 := rfl
  by_cases hz : z = 0
  · subst hz
    refine (to_z64 gq oq e 0 (wayF n) 0 w hi (by omega) (by omega) rfl (by rw [canon_n]; decide +kernel)).mono ?_
    rintro en w' ⟨rfl, ho⟩
    exact ⟨0, false, ⟨0, Nat.zero_le _, .inl ⟨rfl, rfl, rfl⟩, rfl⟩, rfl, ho⟩
  · have hf : Fits (2 * (Int.natAbs z : Int) + 1) := by
      have hk' : (Int.natAbs z : Int) < 2 ^ k := hk
      refine Fits.of (k := k + 1) ?_ (by omega)
      rw [Int.pow_succ]; omega
    refine (to_any64 gq oq z e false (wayF n) (tfn n 64) (fun b => Flt.ncan b 64) w hi hz (by omega) (by omega) hf (way_enters n hn) (fun b u W hb => turn_calls n 64 b u W hn hb) (fun b => canon_n b 64)).mono ?_
    rintro en w' ⟨r, a, hN, rfl, ho⟩
    have hN2 : Near2 4503599627370496 9218868437227405312 (Int.natAbs z) (e + 1074) (decide (z < 0)) r a := by
      obtain ⟨K, up, ex, hK, h1, h2⟩ := hN
      have hs := hK.shift (x' := Int.natAbs z) 1 (by simp [mi]; omega)
      rw [show e - 1 + 1074 + ((1 : Nat) : Int) = e + 1074 by omega] at hs
      exact ⟨K, up, ex, hs, h1, h2⟩
    obtain ⟨q, hq, hR, hc⟩ := turned64 n (decide (z < 0)) 4503599627370496 _ _ a r hn (by omega) hN2
    refine ⟨_, _, ⟨q, by rw [eI]; exact hq, ?_, hc⟩, rfl, ho⟩
    rw [eB, eI, eL]
    exact hR
theorem cls_b32 (n : Bool) (r : Nat) (hr : r ≤ 2139095040) : ¬ Flt.cls32 (b32 n r) = 4 ∧ (Flt.cls32 (b32 n r) = 0 ↔ r = 0) := by
  unfold Flt.cls32 b32 Flt.valid32
  cases n
  · simp only [Bool.false_eq_true, if_false]
    rw [if_pos (show (decide (0 ≤ (r : Int)) && decide ((r : Int) < 4294967296)) = true by simp; omega)]
    refine ⟨?_, ?_⟩
    · split
      · split <;> omega
      · split
        · split <;> omega
        · omega
    · split
      · split <;> omega
      · split
        · split <;> omega
        · omega
  · simp only [if_true]
    rw [if_pos (show (decide (0 ≤ (r : Int) + 2147483648) && decide ((r : Int) + 2147483648 < 4294967296)) = true by simp; omega)]
    refine ⟨?_, ?_⟩
    · split
      · split <;> omega
      · split
        · split <;> omega
        · omega
    · split
      · split <;> omega
      · split
        · split <;> omega
        · omega
theorem nneg_b32 (n : Bool) (r : Nat) (hr : r ≤ 2139095040) : Flt.nneg (b32 n r) 32 = b32 (!n) r := by
  have hc := (cls_b32 n r hr).1
  unfold Flt.nneg
  rw [if_neg (by decide), if_pos rfl]
  unfold Flt.nneg32
  rw [if_neg hc]
  unfold b32
  cases n <;> simp <;> omega
theorem nxt_pos32 (r : Nat) (hr : r < 2139095040) : Flt.nxt (b32 false r) 32 = b32 false (r + 1) := by
  have hc := cls_b32 false r (by omega)
  unfold Flt.nxt
  rw [if_neg (by decide), if_pos rfl]
  unfold Flt.nxt32
  rw [if_neg hc.1]
  have hb : ∀ r : Nat, b32 false r = r := fun r => rfl
  rw [hb] at hc ⊢
  rw [hb, if_neg (by unfold Flt.inf32; omega)]
  by_cases h0 : r = 0
  · rw [if_pos (hc.2.2 h0), h0]; rfl
  · rw [if_neg (fun h => h0 (hc.2.1 h)), if_neg (by omega)]; omega
theorem nxt_neg32 (r : Nat) (h0 : 0 < r) (hr : r ≤ 2139095040) : Flt.nxt (b32 true r) 32 = b32 true (r - 1) := by
  have hc := cls_b32 true r (by omega)
  unfold Flt.nxt
  rw [if_neg (by decide), if_pos rfl]
  unfold Flt.nxt32
  rw [if_neg hc.1]
  have hb : ∀ r : Nat, b32 true r = (r : Int) + 2147483648 := fun r => rfl
  rw [hb] at hc ⊢
  rw [hb, if_neg (by unfold Flt.inf32; omega), if_neg (fun h => by have := hc.2.1 h; omega), if_pos (by omega)]; omega
theorem nprev_pos32 (r : Nat) (h0 : 0 < r) (hr : r ≤ 2139095040) : Flt.nprev (b32 false r) 32 = b32 false (r - 1) := by
  unfold Flt.nprev
  rw [nneg_b32 false r hr, Bool.not_false, nxt_neg32 r h0 hr, nneg_b32 true (r - 1) (by omega)]; rfl
theorem nprev_neg32 (r : Nat) (hr : r < 2139095040) : Flt.nprev (b32 true r) 32 = b32 true (r + 1) := by
  unfold Flt.nprev
  rw [nneg_b32 true r (by omega), Bool.not_true, nxt_pos32 r hr, nneg_b32 false (r + 1) (by omega)]; rfl
theorem ncan_b32 (n : Bool) (r : Nat) (hr : r ≤ 2139095040) : Flt.ncan (b32 n r) 32 = pat 32 n r := by
  have hc := cls_b32 n r hr
  unfold Flt.ncan
  rw [if_neg (by decide), if_pos rfl]
  unfold Flt.ncan32 pat
  rw [if_neg hc.1]
  by_cases h0 : r = 0
  · rw [if_pos (hc.2.2 h0), if_pos h0]
  · rw [if_neg (fun h => h0 (hc.2.1 h)), if_neg h0]; unfold b32; cases n <;> simp
theorem turned32 (n : Int) (neg : Bool) (B : Nat) (x s a : Int) (r : Nat) (hn : n = 0 ∨ n = 1 ∨ n = 2) (hx : 0 < x) (h : Near2 B 2139095040 x s neg r a) :
    ∃ q, q ≤ 2139095040 ∧ Rd B 2139095040 (tw n.toNat neg) x s q (a != 0 || false) ∧ Flt.ncan (if a = 0 then b32 neg r else tfn n 32 (b32 neg r) (a == 1)) 32 = pat 32 neg q := by
  obtain ⟨K, up, ex, ⟨i, t, his, hN⟩, rfl, ha⟩ := h
  have hnb := hN.not_both
  have hodd : (a != 0 || false) = !(ex && decide (K < 2139095040)) := by
    rw [ha]
    by_cases hI : 2139095040 ≤ K
    · rw [if_pos hI, decide_eq_false (by omega)]; cases neg <;> cases ex <;> rfl
    · rw [if_neg hI, decide_eq_true (by omega)]
      cases ex <;> cases neg <;> cases up <;> rfl
  have fin : (if a = 0 then b32 neg (min K 2139095040) else tfn n 32 (b32 neg (min K 2139095040)) (a == 1)) = b32 neg (rung 2139095040 (tw n.toNat neg) K up ex) → ∃ q, q ≤ 2139095040 ∧ Rd B 2139095040 (tw n.toNat neg) x s q (a != 0 || false) ∧ Flt.ncan (if a = 0 then b32 neg (min K 2139095040) else tfn n 32 (b32 neg (min K 2139095040)) (a == 1)) 32 = pat 32 neg q := by
    intro h
    refine ⟨_, rung_le _ _ _ _ _, .inr ⟨hx, K, up, ex, ⟨i, t, his, hN⟩, rfl, hodd⟩, ?_⟩
    rw [h]
    exact ncan_b32 neg _ (rung_le _ _ _ _ _)
  refine fin ?_
  clear fin hodd hN his
  have e1 : ((1 : Int) == 1) = true := rfl
  have e2 : ((-1 : Int) == 1) = false := rfl
  by_cases hI : 2139095040 ≤ K
  · rw [if_pos hI] at ha
    rw [show min K 2139095040 = 2139095040 by omega]
    rcases hn with rfl | rfl | rfl <;> cases neg <;> subst ha
    · simp [tfn, tw, rung]; congr 1; omega
    · simp [tfn, tw, rung]; congr 1; omega
    · simp only [Bool.false_eq_true, if_false, show ¬ (1 : Int) = 0 by decide, tfn, if_true, e1]
      rw [nprev_pos32 _ (by omega) (by omega)]
      congr 1
      simp only [rung, tw, show Int.toNat 1 = 1 by rfl, show ¬ (1 : Nat) = 0 by decide, if_false, if_true]
      cases up <;> simp <;> omega
    · simp only [if_true, show ¬ (-1 : Int) = 0 by decide, show ¬ (1 : Int) = 0 by decide, tfn, if_false, e2, Bool.false_eq_true]
      congr 1
      simp [rung, tw]
      split <;> omega
    · simp only [Bool.false_eq_true, if_false, show ¬ (1 : Int) = 0 by decide, show ¬ (2 : Int) = 0 by decide, show ¬ (2 : Int) = 1 by decide, tfn, if_true, e1]
      congr 1
      simp [rung, tw]
      split <;> omega
    · simp only [if_true, show ¬ (-1 : Int) = 0 by decide, show ¬ (2 : Int) = 0 by decide, show ¬ (2 : Int) = 1 by decide, tfn, if_false, e2, Bool.false_eq_true]
      rw [nxt_neg32 _ (by omega) (by omega)]
      congr 1
      simp [rung, tw]
      split <;> omega
  · rw [if_neg hI] at ha
    rw [show min K 2139095040 = K by omega]
    cases ex
    · simp only [Bool.false_eq_true, if_false] at ha
      rcases hn with rfl | rfl | rfl <;> cases neg <;> cases up <;> simp only [if_true, if_false, Bool.false_eq_true, Bool.true_eq_false] at ha <;> subst ha
      all_goals simp only [tfn, show ¬ (1 : Int) = 0 by decide, show ¬ (-1 : Int) = 0 by decide, show ¬ (2 : Int) = 0 by decide, show ¬ (2 : Int) = 1 by decide, if_true, if_false, e1, e2, Bool.false_eq_true]
      all_goals first
        | rw [nprev_pos32 _ (hnb rfl).2 (by omega)]
        | rw [nprev_neg32 _ (by omega)]
        | rw [nxt_neg32 _ (hnb rfl).2 (by omega)]
        | rw [nxt_pos32 _ (by omega)]
        | skip
      all_goals
        congr 1
        simp [rung, tw]
        omega
    · have hu : up = false := by
        cases hu : up
        · rfl
        · have := (hnb hu).1; cases this
      subst hu
      simp only [if_true] at ha
      subst ha
      rw [if_pos rfl]
      congr 1
      rcases hn with rfl | rfl | rfl <;> cases neg <;> simp [rung, tw] <;> omega
theorem to_spec32 (z e n : Int) (k : Nat) (hn : n = 0 ∨ n = 1 ∨ n = 2) (hk : Bits k z) (hk2 : k ≤ 1000000) (he0 : -2000000 ≤ e) (he1 : e ≤ 2000000) : ToAnsG z e 32 (wayF n) (RSpec 32 n z e) := by
  intro gq oq w hi
  have eB : wB 32 = 8388608 := rfl
  have eI : wI 32 = 2139095040 := rfl
  have eL : wL 32 = 149 := rfl
  by_cases hz : z = 0
  · subst hz
    refine (to_z32 gq oq e 0 (wayF n) 0 w hi (by omega) (by omega) rfl (by rw [canon_n]; decide +kernel)).mono ?_
    rintro en w' ⟨rfl, ho⟩
    exact ⟨0, false, ⟨0, Nat.zero_le _, .inl ⟨rfl, rfl, rfl⟩, rfl⟩, rfl, ho⟩
  · have hf : Fits (2 * (Int.natAbs z : Int) + 1) := by
      have hk' : (Int.natAbs z : Int) < 2 ^ k := hk
      refine Fits.of (k := k + 1) ?_ (by omega)
      rw [Int.pow_succ]; omega
    refine (to_any32 gq oq z e false (wayF n) (tfn n 32) (fun b => Flt.ncan b 32) w hi hz (by omega) (by omega) hf (way_enters n hn) (fun b u W hb => turn_calls n 32 b u W hn hb) (fun b => canon_n b 32)).mono ?_
    rintro en w' ⟨r, a, hN, rfl, ho⟩
    have hN2 : Near2 8388608 2139095040 (Int.natAbs z) (e + 149) (decide (z < 0)) r a := by
      obtain ⟨K, up, ex, hK, h1, h2⟩ := hN
      have hs := hK.shift (x' := Int.natAbs z) 1 (by simp [mi]; omega)
      rw [show e - 1 + 149 + ((1 : Nat) : Int) = e + 149 by omega] at hs
      exact ⟨K, up, ex, hs, h1, h2⟩
    obtain ⟨q, hq, hR, hc⟩ := turned32 n (decide (z < 0)) 8388608 _ _ a r hn (by omega) hN2
    refine ⟨_, _, ⟨q, by rw [eI]; exact hq, ?_, hc⟩, rfl, ho⟩
    rw [eB, eI, eL]
    exact hR
theorem to_spec (v z e n : Int) (k : Nat) (hv : v = 64 ∨ v = 32) (hn : n = 0 ∨ n = 1 ∨ n = 2) (hk : Bits k z) (hk2 : k ≤ 1000000) (he0 : -2000000 ≤ e) (he1 : e ≤ 2000000) : ToAnsG z e v (wayF n) (RSpec v n z e) := by
  rcases hv with rfl | rfl
  · exact to_spec64 z e n k hn hk hk2 he0 he1
  · exact to_spec32 z e n k hn hk hk2 he0 he1
theorem round_num (x : Value) (z e wd n : Int) (w : World) (hwd : wd = 64 ∨ wd = 32) (hn : n = 0 ∨ n = 1 ∨ n = 2) (hx : NumV w x z e) :
    Calls Tryz.prog 5 #[x, .int .i64 wd, .int .i64 n] w fun en w' => (∃ cn odd, RSpec wd n z e cn odd ∧ en = .returned (.tuple #[.int .i64 cn, .bool odd, .int .i64 0])) ∧ Only w w' (fun _ => False) := by
  obtain ⟨⟨k, hk1, hk⟩, h1, h2⟩ := hx.range
  obtain ⟨neg, A, ds, c, rfl, hr, hc, hv, rfl⟩ := hx
  exact round_any_calls neg A c ds e wd n _ w hwd hn hr hc hv (to_spec wd _ e n k hwd hn hk (by omega) (by omega) (by omega))
end Go.Proofs.YtlfmgdpbjapdjaaGreatFmtBesafter
namespace Go.Proofs.YtlfmgdpbjapdjaaGreatFmtBesafter
open Go.RowKit
theorem LeS.refl (x s : Int) : LeS x s x s := Int.le_refl _
theorem NR.unique {B K1 K2 : Nat} {x s : Int} {u1 u2 e1 e2 : Bool} (hB : 0 < B) (h1 : NR B x s K1 u1 e1) (h2 : NR B x s K2 u2 e2) : K1 = K2 ∧ e1 = e2 := by
  obtain ⟨i1, t1, a1, n1⟩ := h1
  obtain ⟨i2, t2, a2, n2⟩ := h2
  have p1 : (0 : Int) < 2 ^ t1 := Int.pow_pos (by omega)
  have p2 : (0 : Int) < 2 ^ t2 := Int.pow_pos (by omega)
  have k1 := near_mono n1 n2 hB p1 p2 ((LeS.refl x s).cross a1 a2)
  have k2 := near_mono n2 n1 hB p2 p1 ((LeS.refl x s).cross a2 a1)
  obtain rfl : K1 = K2 := by omega
  refine ⟨rfl, ?_⟩
  have hx : i1 + t2 = i2 + t1 := by omega
  have key : (x * 2 ^ i1 = (Flt.val B K1 : Int) * 2 ^ t1) ↔ (x * 2 ^ i2 = (Flt.val B K1 : Int) * 2 ^ t2) := by
    have c1 : x * 2 ^ i1 * 2 ^ t2 = x * 2 ^ i2 * 2 ^ t1 := by rw [Int.mul_assoc, Int.mul_assoc, ← Int.pow_add, ← Int.pow_add, hx]
    constructor
    · intro h
      refine Int.eq_of_mul_eq_mul_right (Int.ne_of_gt p1) ?_
      rw [← c1, h, Int.mul_assoc, Int.mul_comm (2 ^ t1), ← Int.mul_assoc]
    · intro h
      refine Int.eq_of_mul_eq_mul_right (Int.ne_of_gt p2) ?_
      rw [c1, h, Int.mul_assoc, Int.mul_comm (2 ^ t2), ← Int.mul_assoc]
  have x1 := n1.exact
  have x2 := n2.exact
  rw [key] at x1
  rw [Bool.eq_iff_iff]
  exact x1.trans x2.symm
theorem Rd.unique {B I t r1 r2 : Nat} {x s : Int} {o1 o2 : Bool} (hB : 0 < B) (h1 : Rd B I t x s r1 o1) (h2 : Rd B I t x s r2 o2) : r1 = r2 ∧ o1 = o2 := by
  have a := h1.mono h2 hB (LeS.refl x s)
  have b := h2.mono h1 hB (LeS.refl x s)
  refine ⟨by omega, ?_⟩
  rcases h1 with ⟨h0, _, rfl⟩ | ⟨h0, K1, u1, e1, n1, _, rfl⟩
  · rcases h2 with ⟨_, _, rfl⟩ | ⟨h0', _⟩
    · rfl
    · omega
  · rcases h2 with ⟨h0', _⟩ | ⟨_, K2, u2, e2, n2, _, rfl⟩
    · omega
    · obtain ⟨rfl, rfl⟩ := n1.unique hB n2
      rfl
theorem wB_pos (v : Int) : 0 < wB v := by unfold wB; split <;> decide
theorem pat_b64 {n : Bool} {r : Nat} (h : r ≠ 0) : pat 64 n r = b64 n r := by unfold pat b64; rw [if_neg h]; rfl
theorem pat_b32 {n : Bool} {r : Nat} (h : r ≠ 0) : pat 32 n r = b32 n r := by unfold pat b32; rw [if_neg h]; cases n <;> rfl
theorem pat_I (v : Int) (n : Bool) (r : Nat) (hv : v = 64 ∨ v = 32) (hr : r ≤ wI v) : Flt.I64 (pat v n r) := by
  by_cases h : r = 0
  · unfold pat Flt.I64; rw [if_pos h]; omega
  · rcases hv with rfl | rfl
    · rw [pat_b64 h]; exact b64_I n r hr
    · rw [pat_b32 h]; exact b32_I n r hr
end Go.Proofs.YtlfmgdpbjapdjaaGreatFmtBesafter
