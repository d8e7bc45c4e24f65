/- Part 13 of the walk: ExP. -/
import Derived.Test.YtlfmgdpbjapdjaaGreatFmtBesafterPt05
import Derived.Test.YtlfmgdpbjapdjaaGreatFmtBesafterPt12
import Derived.Test.YtlfmgdpbjapdjaaGreatFmtBesafterPt03
namespace Go.Proofs.YtlfmgdpbjapdjaaGreatFmtBesafter
open Go.RowKit Go.Proofs.YtlfmgdpbjapdjaaGreatFmtBesafterW.PrintWords Go.Proofs.YtlfmgdpbjapdjaaGreatFmtBesafterW.PrintLast
theorem blen_one {k : Nat} (h : BLen 1 k) : k = 1 := h.unique ⟨by decide, fun _ => by decide⟩
theorem blen_three {k : Nat} (h : BLen 3 k) : k = 2 := h.unique ⟨by decide, fun _ => by decide⟩
theorem bitLen_1 (g : Nat) (o : Option Nat) (w : World) (h : IsInt w g o 1) : Calls Tryz.prog 44 #[.pointer (some ⟨g, 0, none⟩)] w fun e w' => e = .returned (.int .i64 1) ∧ w' = w := by
  refine (bitLen_int g o 1 w h (Fits.of (k := 2) (by decide) (by decide))).mono ?_
  rintro e w' ⟨⟨k, rfl, hk, _⟩, rfl⟩
  obtain rfl := blen_one hk
  exact ⟨rfl, rfl⟩
theorem bitLen_3 (g : Nat) (o : Option Nat) (w : World) (h : IsInt w g o 3) : Calls Tryz.prog 44 #[.pointer (some ⟨g, 0, none⟩)] w fun e w' => e = .returned (.int .i64 2) ∧ w' = w := by
  refine (bitLen_int g o 3 w h (Fits.of (k := 2) (by decide) (by decide))).mono ?_
  rintro e w' ⟨⟨k, rfl, hk, _⟩, rfl⟩
  obtain rfl := blen_three hk
  exact ⟨rfl, rfl⟩
theorem stored3 {w : World} {R : Nat} {T : TypeId} {x y z : Value} (h : w.heap[R]? = some (.cells #[x, y, z] T (0, 0))) (a b c : Value) :
    (((w.setCell ⟨R, 0, none⟩ a).setCell ⟨R, 1, none⟩ b).setCell ⟨R, 2, none⟩ c).heap[R]? = some (.cells #[a, b, c] T (0, 0)) ∧ Only w (((w.setCell ⟨R, 0, none⟩ a).setCell ⟨R, 1, none⟩ b).setCell ⟨R, 2, none⟩ c) (fun k => k = R) := by
  have h1 := blk_set (blk_set (blk_set h 0 a) 1 b) 2 c
  refine ⟨by simpa using h1, ?_⟩
  exact (((Only.refl w (fun k => k = R)).set (p := ⟨R, 0, none⟩) (.inr rfl) a).set (p := ⟨R, 1, none⟩) (.inr rfl) b).set (p := ⟨R, 2, none⟩) (.inr rfl) c
theorem isInt_alloc (w : World) : IsInt (w.alloc (.cells #[.bool false, .slice none 0 0] 87)) w.heap.size none 0 := ⟨_, by simpa using heap_alloc_new w (.cells #[.bool false, .slice none 0 0] 87), .nil⟩
theorem IsInt.alloc_ {w : World} {g : Nat} {o : Option Nat} {z : Int} (h : IsInt w g o z) (x : Obj) : IsInt (w.alloc x) g o z := h.only ((Only.refl w (fun _ => False)).alloc x) (fun h => h) (fun _ _ h => h)
set_option linter.unusedVariables false in
set_option linter.unusedSimpArgs false in
set_option maxRecDepth 100000 in
set_option maxHeartbeats 4000000 in
theorem quot1_13 (b g g' : Nat) (o o' : Option Nat) (w : World) (hb : w.heap[b]? = some (.cells #[.pointer (some ⟨g, 0, none⟩), .int .i64 0, .pointer (some ⟨g', 0, none⟩), .int .i64 0] 44 (0, 0))) (hi : IsInt w g o 1) (hi' : IsInt w g' o' 3) :
    Calls Tryz.prog 43 #[.slice (some ⟨b, 0, none⟩) 2 2] w fun e w' => ∃ gq oq, e = .returned (.agg #[.pointer (some ⟨gq, 0, none⟩), .int .i64 (-65), .bool true]) ∧ IsInt w' gq oq 12297829382473034410 ∧ Only w w' (fun _ => False) := by
  obtain ⟨w1, hw1⟩ : ∃ w1, w1 = w.alloc (.cells #[.pointer none, .int .i64 0, .bool false] 46) := ⟨_, rfl⟩
  have ho1 : Only w w1 (fun _ => False) := by rw [hw1]; exact (Only.refl w _).alloc _
  have hR : w1.heap[w.heap.size]? = some (.cells #[.pointer none, .int .i64 0, .bool false] 46 (0, 0)) := by rw [hw1]; exact heap_alloc_new w _
  have hsz : w.heap.size < w1.heap.size := by rw [hw1]; simp
  have hb1 := (ho1.kept _ (blk_lt hb) (fun h => h)).trans hb
  have hi1 := hi.only ho1 (fun h => h) (fun _ _ h => h)
  have hi1' := hi'.only ho1 (fun h => h) (fun _ _ h => h)
  have c0 : w1.cell? ⟨b, 0, none⟩ = some (.pointer (some ⟨g, 0, none⟩)) := blk_cell hb1 0
  have c1 : w1.cell? ⟨b, 1, none⟩ = some (.int .i64 0) := blk_cell hb1 1
  have c2 : w1.cell? ⟨b, 2, none⟩ = some (.pointer (some ⟨g', 0, none⟩)) := blk_cell hb1 2
  have c3 : w1.cell? ⟨b, 3, none⟩ = some (.int .i64 0) := blk_cell hb1 3
  have HB := Lib.hid (And.intro hb1 (And.intro hi1 (And.intro hi1' (And.intro hR (And.intro ho1 hsz)))))
  have HS := Lib.hid (sign_pos g' o' 3 w1 hi1' (by decide))
  clear hb hi hi' hb1 hi1 hi1' hR ho1 hsz
  go_enter Tryz.func43, Tryz.ntmps43
  go_upto_region 1 with (fail)
  rw [← hw1]
  obtain ⟨R, hRe⟩ : ∃ R, R = w.heap.size := ⟨_, rfl⟩
  have hR0 : w.heap.size ≤ R := by omega
  rw [← hRe] at HB
  rw [← hRe]
  clear hRe hw1
  go_wp2_with fail
  refine HS.out.mono ?_
  rintro e w' ⟨rfl, rfl⟩
  go_wp2_with fail
  obtain ⟨hb1, hi1, hi1', hR, ho1, hsz⟩ := HB.out
  have HB1 := Lib.hid (fun n => bitLen_1 g o (w'.drewN n) (hi1.only ((Only.refl w' (fun _ => False)).drewN n) (fun h => h) (fun _ _ h => h)))
  have HB3 := Lib.hid (fun n => bitLen_3 g' o' (w'.drewN n) (hi1'.only ((Only.refl w' (fun _ => False)).drewN n) (fun h => h) (fun _ _ h => h)))
  clear hb1 hi1 hi1' hR ho1 hsz
  go_quiet ((go_at_call 44; first | exact Calls.quiet_of_same (HB1.out _) | exact Calls.quiet_of_same (HB3.out _)))
  go_wp2_with fail
  rw [show max (0 : Int) 65 = 65 by decide]
  obtain ⟨hb1, hi1, hi1', hR, ho1, hsz⟩ := HB.out
  have hn2 := (Only.refl w' (fun _ => False)).drewN nq
  have hb2 := (hn2.kept _ (blk_lt hb1) (fun h => h)).trans hb1
  have hR2 := (hn2.kept _ (blk_lt hR) (fun h => h)).trans hR
  have hi2 := hi1.only hn2 (fun h => h) (fun _ _ h => h)
  have hi2' := hi1'.only hn2 (fun h => h) (fun _ _ h => h)
  have ho2 := ho1.trans hn2
  clear hb1 hi1 hi1' hR ho1 hn2 HB1 HB3 HS HB c0 c1 c2 c3
  generalize w'.drewN nq = w2 at *
  clear hsz
  have hsz := blk_lt hR2
  have hg' := hi2'.lt
  have hK : ∀ W, Only w2 W (fun _ => False) → W.cell? ⟨b, 0, none⟩ = some (.pointer (some ⟨g, 0, none⟩)) ∧ W.cell? ⟨b, 1, none⟩ = some (.int .i64 0) ∧ W.cell? ⟨b, 2, none⟩ = some (.pointer (some ⟨g', 0, none⟩)) ∧ W.cell? ⟨b, 3, none⟩ = some (.int .i64 0) := fun W ho => by
    have h := (ho.kept _ (blk_lt hb2) (fun h => h)).trans hb2
    exact ⟨blk_cell h 0, blk_cell h 1, blk_cell h 2, blk_cell h 3⟩
  have HK := Lib.hid hK
  have HI := Lib.hid (And.intro hi2 (And.intro hi2' hg'))
  have HF : Hid (Fits ((Int.natAbs 1 : Nat) : Int)) := Lib.hid (Fits.of (k := 2) (by decide) (by decide))
  have HR := Lib.hid (And.intro hR2 (And.intro ho2 hsz))
  have HB5 := Lib.hid hb2
  clear hK hb2 hR2 hi2 hi2' ho2 hsz hg'
  go_cut [4, 5] (fun v4 v5 wc => ∃ gq oq gr or, v4 = .pointer (some ⟨gq, 0, none⟩) ∧ v5 = .pointer (some ⟨gr, 0, none⟩) ∧ IsInt wc gq oq 12297829382473034410 ∧ IsInt wc gr or 2 ∧ Only w2 wc (fun _ => False))
  case rest =>
    obtain ⟨gq, oq, gr, or_, rfl, rfl, hq, hr, ho⟩ := hcut
    obtain ⟨hR2, ho2, hsz⟩ := HR.out
    have hR5 := blk_drew ((ho.kept _ (blk_lt hR2) (fun h => h)).trans hR2)
    have HSG := Lib.hid (sign_pos gr or_ 2 wc.drew (hr.only ((Only.refl wc (fun _ => False)).drew) (fun h => h) (fun _ _ h => h)) (by decide))
    have hq5 := hq.only ((Only.refl wc (fun _ => False)).drew) (fun h => h) (fun _ _ h => h)
    have ho5 := ho.drew
    have hqR : R ≠ gq := by
      obtain ⟨v, hv, _⟩ := hq5
      exact blk_ne hR5 hv (by decide)
    have hqo : oq ≠ some R := by
      rintro rfl
      obtain ⟨v, _, hn⟩ := hq5
      obtain ⟨cs, hc⟩ := hn.typed R rfl
      exact blk_ne hR5 hc (by decide) rfl
    have hK5 : ∀ W, Only wc W (fun k => k = R) → W.cell? ⟨b, 1, none⟩ = some (.int .i64 0) ∧ W.cell? ⟨b, 3, none⟩ = some (.int .i64 0) := fun W hW => by
      have h := HB5.out
      have hbR : b ≠ R := blk_ne h hR2 (by decide)
      have h1 := (hW.kept _ (Nat.lt_of_lt_of_le (blk_lt h) ho.base.size) hbR).trans ((ho.kept _ (blk_lt h) (fun h => h)).trans h)
      exact ⟨blk_cell h1 1, blk_cell h1 3⟩
    have HK5 := Lib.hid hK5
    have HQ5 : Hid (∀ W, Only wc.drew W (fun k => k = R) → IsInt W gq oq 12297829382473034410 ∧ Only w W (fun _ => False)) := Lib.hid (fun W hW => ⟨hq5.only hW (fun h => hqR h.symm) (fun b hb h => hqo (by rw [hb, h])), (ho2.trans ho5).step hW (by rintro i hi rfl; exact absurd hi (Nat.not_lt.2 hR0))⟩)
    clear hK5 hq5 ho5 hqR hqo hq hr ho hR2 ho2 hsz HK HI HF HR HB5
    go_wp2_with fail
    refine start_ (S := (fun W => Only wc W (fun k => k = R))) (ds := ([] : List Nat)) #[false, false, false, false, false, false, false, false, false, false, false, false, false, false, false, false, false, false] (by kernel_rfl) rfl rfl ?_ (fun hHeld => ?_)
    · exact (Only.refl wc _).drew
    generalize wc.drew = W901 at *
    refine pure_ (i := 0) (oi := ?o900) (v := ?v900) #[true, false, false, false, false, false, false, false, false, false, false, false, false, false, false, false, false, false] ?h900 rfl (by kernel_rfl) ?q900 (Or.inl ⟨?w900, ?y900⟩) rfl ?r900
    case h900 => (simp only [ga, gb, gc]; rfl)
    case q900 => exact fun _ _ _ h => h
    case w900 => rfl
    case y900 => (intro W; go_simp; first | done | with_reducible rfl)
    simp only [Act.put, zd, ze, zf]
    refine pure_ (i := 1) (oi := ?o901) (v := ?v901) #[true, true, false, false, false, false, false, false, false, false, false, false, false, false, false, false, false, false] ?h901 rfl (by kernel_rfl) ?q901 (Or.inl ⟨?w901, ?y901⟩) rfl ?r901
    case h901 => (simp only [ga, gb, gc]; rfl)
    case q901 => exact fun _ _ _ h => h
    case w901 => rfl
    case y901 => (intro W; go_simp; first | done | with_reducible rfl)
    simp only [Act.put, zd, ze, zf]
    refine pure_ (i := 2) (oi := ?o902) (v := ?v902) #[true, true, true, false, false, false, false, false, false, false, false, false, false, false, false, false, false, false] ?h902 rfl (by kernel_rfl) ?q902 (Or.inl ⟨?w902, ?y902⟩) rfl ?r902
    case h902 => (simp only [ga, gb, gc]; rfl)
    case q902 => exact fun _ _ _ h => h
    case w902 => rfl
    case y902 => (intro W; go_simp; first | done | with_reducible rfl)
    simp only [Act.put, zd, ze, zf]
    refine pure_ (i := 3) (oi := ?o903) (v := ?v903) #[true, true, true, true, false, false, false, false, false, false, false, false, false, false, false, false, false, false] ?h903 rfl (by kernel_rfl) ?q903 (Or.inl ⟨?w903, ?y903⟩) rfl ?r903
    case h903 => (simp only [ga, gb, gc]; rfl)
    case q903 => exact fun _ _ _ h => h
    case w903 => rfl
    case y903 => (intro W; go_simp; first | done | with_reducible rfl)
    simp only [Act.put, zd, ze, zf]
    refine pure_ (i := 5) (oi := ?o904) (v := ?v904) #[true, true, true, true, false, true, false, false, false, false, false, false, false, false, false, false, false, false] ?h904 rfl (by kernel_rfl) ?q904 (Or.inl ⟨?w904, ?y904⟩) rfl ?r904
    case h904 => (simp only [ga, gb, gc]; rfl)
    case q904 => exact fun _ _ _ h => h
    case w904 => rfl
    case y904 => (intro W; go_simp; first | done | with_reducible rfl)
    simp only [Act.put, zd, ze, zf]
    refine pure_ (i := 6) (oi := ?o905) (v := ?v905) #[true, true, true, true, false, true, true, false, false, false, false, false, false, false, false, false, false, false] ?h905 rfl (by kernel_rfl) ?q905 (Or.inl ⟨?w905, ?y905⟩) rfl ?r905
    case h905 => (simp only [ga, gb, gc]; rfl)
    case q905 => exact fun _ _ _ h => h
    case w905 => rfl
    case y905 => (intro W; go_simp; first | done | with_reducible rfl)
    simp only [Act.put, zd, ze, zf]
    refine pure_ (i := 7) (oi := ?o906) (v := ?v906) #[true, true, true, true, false, true, true, true, false, false, false, false, false, false, false, false, false, false] ?h906 rfl (by kernel_rfl) ?q906 (Or.inl ⟨?w906, ?y906⟩) rfl ?r906
    case h906 => (simp only [ga, gb, gc]; rfl)
    case q906 => exact fun _ _ _ h => h
    case w906 => rfl
    case y906 => (intro W; go_simp; first | done | with_reducible rfl)
    simp only [Act.put, zd, ze, zf]
    refine pure_ (i := 10) (oi := ?o907) (v := ?v907) #[true, true, true, true, false, true, true, true, false, false, true, false, false, false, false, false, false, false] ?h907 rfl (by kernel_rfl) ?q907 (Or.inl ⟨?w907, ?y907⟩) rfl ?r907
    case h907 => (simp only [ga, gb, gc]; rfl)
    case q907 => exact fun _ _ _ h => h
    case w907 => rfl
    case y907 => (intro W; go_simp; first | done | with_reducible rfl)
    simp only [Act.put, zd, ze, zf]
    refine pure_ (i := 13) (oi := ?o908) (v := ?v908) #[true, true, true, true, false, true, true, true, false, false, true, false, false, true, false, false, false, false] ?h908 rfl (by kernel_rfl) ?q908 (Or.inl ⟨?w908, ?y908⟩) rfl ?r908
    case h908 => (simp only [ga, gb, gc]; rfl)
    case q908 => exact fun _ _ _ h => h
    case w908 => rfl
    case y908 => (intro W; go_simp; first | done | with_reducible rfl)
    simp only [Act.put, zd, ze, zf]
    refine wpAnyLast_take (i := 4) (oi := ?o909) (v := ?v909) ?h909 (by kernel_rfl) (by kernel_rfl) (by kernel_rfl) (by kernel_rfl) (by kernel_rfl) ?q909 (Or.inl ⟨?w909, ?y909⟩) hHeld ?r909
    case h909 => (simp only [ga, gb, gc]; rfl)
    case q909 => exact fun _ _ _ h => h
    case w909 => rfl
    case y909 => (intro W hSw; obtain ⟨q0, q1⟩ := HK5.out _ hSw; go_simp; first | done | with_reducible rfl)
    simp only [Act.put, zd, ze, zf]
    refine wpAnyLast_take (i := 8) (oi := ?o910) (v := ?v910) ?h910 (by kernel_rfl) (by kernel_rfl) (by kernel_rfl) (by kernel_rfl) (by kernel_rfl) ?q910 (Or.inl ⟨?w910, ?y910⟩) hHeld ?r910
    case h910 => (simp only [ga, gb, gc]; rfl)
    case q910 => exact fun _ _ _ h => h
    case w910 => rfl
    case y910 => (intro W hSw; obtain ⟨q0, q1⟩ := HK5.out _ hSw; go_simp; first | done | with_reducible rfl)
    simp only [Act.put, zd, ze, zf]
    refine pure_ (i := 9) (oi := ?o911) (v := ?v911) #[true, true, true, true, true, true, true, true, true, true, true, false, false, true, false, false, false, false] ?h911 rfl (by kernel_rfl) ?q911 (Or.inl ⟨?w911, ?y911⟩) rfl ?r911
    case h911 => (simp only [ga, gb, gc]; rfl)
    case q911 => exact fun _ _ _ h => h
    case w911 => rfl
    case y911 => (intro W; go_simp; first | done | with_reducible rfl)
    simp only [Act.put, zd, ze, zf]
    refine pure_ (i := 11) (oi := ?o912) (v := ?v912) #[true, true, true, true, true, true, true, true, true, true, true, true, false, true, false, false, false, false] ?h912 rfl (by kernel_rfl) ?q912 (Or.inl ⟨?w912, ?y912⟩) rfl ?r912
    case h912 => (simp only [ga, gb, gc]; rfl)
    case q912 => exact fun _ _ _ h => h
    case w912 => rfl
    case y912 => (intro W; go_simp; first | done | with_reducible rfl)
    simp only [Act.put, zd, ze, zf]
    refine pure_ (i := 12) (oi := ?o913) (v := ?v913) #[true, true, true, true, true, true, true, true, true, true, true, true, true, true, false, false, false, false] ?h913 rfl (by kernel_rfl) ?q913 (Or.inl ⟨?w913, ?y913⟩) rfl ?r913
    case h913 => (simp only [ga, gb, gc]; rfl)
    case q913 => exact fun _ _ _ h => h
    case w913 => rfl
    case y913 => (intro W; go_simp; first | done | with_reducible rfl)
    simp only [Act.put, zd, ze, zf]
    refine wpAnyLast_ready (rs := [14]) (by kernel_rfl) (by simp) ?_
    refine AllReadyL.cons (o := ?o914) ?h914 (by simp) (fun K hK => ?s914) ?m914
    case h914 => (simp only [ga, gb, gc]; rfl)
    case m914 => exact AllReadyL.nil
    go_simp
    go_at_call 38
    refine HSG.out.mono ?_
    rintro en W' ⟨rfl, hW'⟩
    rw [hW']
    clear hW' W'
    refine hK.out _ _ hHeld (fun hHeldN => ?_)
    clear hK K hHeldN
    simp only [Act.put, zd, ze, zf]
    refine pure_ (i := 15) (oi := ?o915) (v := ?v915) #[true, true, true, true, true, true, true, true, true, true, true, true, true, true, true, true, false, false] ?h915 rfl (by kernel_rfl) ?q915 (Or.inl ⟨?w915, ?y915⟩) rfl ?r915
    case h915 => (simp only [ga, gb, gc]; rfl)
    case q915 => exact fun _ _ _ h => h
    case w915 => rfl
    case y915 => (intro W; go_simp; first | done | with_reducible rfl)
    simp only [Act.put, zd, ze, zf]
    refine pure_ (i := 16) (oi := ?o916) (v := ?v916) #[true, true, true, true, true, true, true, true, true, true, true, true, true, true, true, true, true, false] ?h916 rfl (by kernel_rfl) ?q916 (Or.inl ⟨?w916, ?y916⟩) rfl ?r916
    case h916 => (simp only [ga, gb, gc]; rfl)
    case q916 => exact fun _ _ _ h => h
    case w916 => rfl
    case y916 => (intro W; go_simp; first | done | with_reducible rfl)
    simp only [Act.put, zd, ze, zf]
    refine wpAnyLast_ready (rs := [17]) (by kernel_rfl) (by simp) ?_
    refine AllReadyL.cons (o := ?o917) ?h917 (by simp) (fun K hK => ?s917) ?m917
    case h917 => (simp only [ga, gb, gc]; rfl)
    case m917 => exact AllReadyL.nil
    have r0 : W901.cell? ⟨R, 0, none⟩ = some (.pointer none) := blk_cell hR5 0
    have r1 : W901.cell? ⟨R, 1, none⟩ = some (.int .i64 0) := blk_cell hR5 1
    have r2 : W901.cell? ⟨R, 2, none⟩ = some (.bool false) := blk_cell hR5 2
    have f0 := blk_frozen hR5 0
    have f1 := blk_frozen hR5 1
    have f2 := blk_frozen hR5 2
    go_simp
    refine hK.out _ _ (((hHeld.set (p := ⟨R, 0, none⟩) (.inr rfl) _).set (p := ⟨R, 1, none⟩) (.inr rfl) _).set (p := ⟨R, 2, none⟩) (.inr rfl) _) (fun hHeldN => ?_)
    clear hK K hHeldN r0 r1 r2 f0 f1 f2
    simp only [Act.put, zd, ze, zf]
    refine done_ (by kernel_rfl) ?_
    obtain ⟨s1, s2⟩ := stored3 hR5 (.pointer (some ⟨gq, 0, none⟩)) (.int .i64 (-65)) (.bool true)
    have hfin := HQ5.out _ s2
    clear hR5 hHeld HSG
    go_wp2_with fail
    refine bodyPost_ret (results_cell_row rfl _ _ R 46 #[.pointer (some ⟨gq, 0, none⟩), .int .i64 (-65), .bool true] (0, 0) _ rfl s1 Tryz.underlying46 rfl (by kernel_rfl)) rfl ?_
    exact ⟨gq, oq, rfl, hfin⟩
  case first =>
    refine start_ (S := (fun W => Only w2 W (fun _ => False))) (ds := ([] : List Nat)) #[false, false, false, false, false, false, false, false, false, false, false, false, false, false, false, false, false, false, false, false] (by kernel_rfl) rfl rfl ?_ (fun hHeld => ?_)
    · exact (Only.refl w2 _).drew
    generalize w2.drew = W1 at *
    refine pure_ (i := 2) (oi := ?o0) (v := ?v0) #[false, false, true, false, false, false, false, false, false, false, false, false, false, false, false, false, false, false, false, false] ?h0 rfl (by kernel_rfl) ?q0 (Or.inl ⟨?w0, ?y0⟩) rfl ?r0
    case h0 => (simp only [ga, gb, gc]; rfl)
    case q0 => exact fun _ _ _ h => h
    case w0 => rfl
    case y0 => (intro W; go_simp; first | done | with_reducible rfl)
    simp only [Act.put, zd, ze, zf]
    refine pure_ (i := 3) (oi := ?o1) (v := ?v1) #[false, false, true, true, false, false, false, false, false, false, false, false, false, false, false, false, false, false, false, false] ?h1 rfl (by kernel_rfl) ?q1 (Or.inl ⟨?w1, ?y1⟩) rfl ?r1
    case h1 => (simp only [ga, gb, gc]; rfl)
    case q1 => exact fun _ _ _ h => h
    case w1 => rfl
    case y1 => (intro W; go_simp; first | done | with_reducible rfl)
    simp only [Act.put, zd, ze, zf]
    refine pure_ (i := 4) (oi := ?o2) (v := ?v2) #[false, false, true, true, true, false, false, false, false, false, false, false, false, false, false, false, false, false, false, false] ?h2 rfl (by kernel_rfl) ?q2 (Or.inl ⟨?w2, ?y2⟩) rfl ?r2
    case h2 => (simp only [ga, gb, gc]; rfl)
    case q2 => exact fun _ _ _ h => h
    case w2 => rfl
    case y2 => (intro W; go_simp; first | done | with_reducible rfl)
    simp only [Act.put, zd, ze, zf]
    refine pure_ (i := 6) (oi := ?o3) (v := ?v3) #[false, false, true, true, true, false, true, false, false, false, false, false, false, false, false, false, false, false, false, false] ?h3 rfl (by kernel_rfl) ?q3 (Or.inl ⟨?w3, ?y3⟩) rfl ?r3
    case h3 => (simp only [ga, gb, gc]; rfl)
    case q3 => exact fun _ _ _ h => h
    case w3 => rfl
    case y3 => (intro W; go_simp; first | done | with_reducible rfl)
    simp only [Act.put, zd, ze, zf]
    refine pure_ (i := 7) (oi := ?o4) (v := ?v4) #[false, false, true, true, true, false, true, true, false, false, false, false, false, false, false, false, false, false, false, false] ?h4 rfl (by kernel_rfl) ?q4 (Or.inl ⟨?w4, ?y4⟩) rfl ?r4
    case h4 => (simp only [ga, gb, gc]; rfl)
    case q4 => exact fun _ _ _ h => h
    case w4 => rfl
    case y4 => (intro W; go_simp; first | done | with_reducible rfl)
    simp only [Act.put, zd, ze, zf]
    refine pure_ (i := 9) (oi := ?o5) (v := ?v5) #[false, false, true, true, true, false, true, true, false, true, false, false, false, false, false, false, false, false, false, false] ?h5 rfl (by kernel_rfl) ?q5 (Or.inl ⟨?w5, ?y5⟩) rfl ?r5
    case h5 => (simp only [ga, gb, gc]; rfl)
    case q5 => exact fun _ _ _ h => h
    case w5 => rfl
    case y5 => (intro W; go_simp; first | done | with_reducible rfl)
    simp only [Act.put, zd, ze, zf]
    refine pure_ (i := 10) (oi := ?o6) (v := ?v6) #[false, false, true, true, true, false, true, true, false, true, true, false, false, false, false, false, false, false, false, false] ?h6 rfl (by kernel_rfl) ?q6 (Or.inl ⟨?w6, ?y6⟩) rfl ?r6
    case h6 => (simp only [ga, gb, gc]; rfl)
    case q6 => exact fun _ _ _ h => h
    case w6 => rfl
    case y6 => (intro W; go_simp; first | done | with_reducible rfl)
    simp only [Act.put, zd, ze, zf]
    refine pure_ (i := 11) (oi := ?o7) (v := ?v7) #[false, false, true, true, true, false, true, true, false, true, true, true, false, false, false, false, false, false, false, false] ?h7 rfl (by kernel_rfl) ?q7 (Or.inl ⟨?w7, ?y7⟩) rfl ?r7
    case h7 => (simp only [ga, gb, gc]; rfl)
    case q7 => exact fun _ _ _ h => h
    case w7 => rfl
    case y7 => (intro W; go_simp; first | done | with_reducible rfl)
    simp only [Act.put, zd, ze, zf]
    refine wpAnyLast_take (i := 5) (oi := ?o8) (v := ?v8) ?h8 (by kernel_rfl) (by kernel_rfl) (by kernel_rfl) (by kernel_rfl) (by kernel_rfl) ?q8 (Or.inl ⟨?w8, ?y8⟩) hHeld ?r8
    case h8 => (simp only [ga, gb, gc]; rfl)
    case q8 => exact fun _ _ _ h => h
    case w8 => rfl
    case y8 => (intro W hSw; obtain ⟨q0, q1, q2, q3⟩ := HK.out _ hSw; go_simp; first | done | with_reducible rfl)
    simp only [Act.put, zd, ze, zf]
    refine wpAnyLast_take (i := 12) (oi := ?o9) (v := ?v9) ?h9 (by kernel_rfl) (by kernel_rfl) (by kernel_rfl) (by kernel_rfl) (by kernel_rfl) ?q9 (Or.inl ⟨?w9, ?y9⟩) hHeld ?r9
    case h9 => (simp only [ga, gb, gc]; rfl)
    case q9 => exact fun _ _ _ h => h
    case w9 => rfl
    case y9 => (intro W hSw; obtain ⟨q0, q1, q2, q3⟩ := HK.out _ hSw; go_simp; first | done | with_reducible rfl)
    simp only [Act.put, zd, ze, zf]
    refine wpAnyLast_ready (rs := [0, 1, 13]) (by kernel_rfl) (by simp) ?_
    refine AllReadyL.cons (o := ?o10) ?h10 (by simp) (fun K hK => ?s10) ?m10
    case h10 => (simp only [ga, gb, gc]; rfl)
    case s10 =>
      go_simp
      have iA := isInt_alloc W1
      have bA : w2.heap.size ≤ W1.heap.size := hHeld.base.size
      refine hK.out _ _ (hHeld.alloc _) (fun hHeldN => ?_)
      clear hK K hHeld
      have hHeld := hHeldN
      clear hHeldN
      simp only [Act.put, zd, ze, zf]
      generalize W1.heap.size = gA at *
      generalize W1.alloc (.cells #[.bool false, .slice none 0 0] 87) = W2 at *
      clear W1
      refine wpAnyLast_ready (rs := [1, 13]) (by kernel_rfl) (by simp) ?_
      refine AllReadyL.cons (o := ?o11) ?h11 (by simp) (fun K hK => ?s11) ?m11
      case h11 => (simp only [ga, gb, gc]; rfl)
      case s11 =>
        go_simp
        have iB := isInt_alloc W2
        have bB : w2.heap.size ≤ W2.heap.size := hHeld.base.size
        have lAB := iA.lt
        replace iA := iA.alloc_ (.cells #[.bool false, .slice none 0 0] 87)
        refine hK.out _ _ (hHeld.alloc _) (fun hHeldN => ?_)
        clear hK K hHeld
        have hHeld := hHeldN
        clear hHeldN
        simp only [Act.put, zd, ze, zf]
        generalize W2.heap.size = gB at *
        generalize W2.alloc (.cells #[.bool false, .slice none 0 0] 87) = W3 at *
        clear W2
        refine wpAnyLast_ready (rs := [8, 13]) (by kernel_rfl) (by simp) ?_
        refine AllReadyL.cons (o := ?o12) ?h12 (by simp) (fun K hK => ?s12) ?m12
        case h12 => (simp only [ga, gb, gc]; rfl)
        case s12 =>
          go_simp
          go_at_call 46
          refine (lshb_int gB g o 1 1 1 65 W3 iB (HI.out.1.only hHeld (fun h => h) (fun _ _ h => h)) HF.out (by decide) (by decide) (by decide) (by decide) (by decide) (by decide)).mono ?_
          rintro en W4 ⟨rfl, oB, hLB, hoB, hob⟩
          replace iA := iA.keep iB hoB (by omega) (fun _ h => by cases h)
          rw [show (1 : Int) * 2 ^ 65 = 36893488147419103232 by decide] at hLB
          refine hK.out _ _ (hHeld.step hoB (by rintro i hi (rfl | h); (omega); (cases h))) (fun hHeldN => ?_)
          clear hK K iB hoB hob hHeld
          have hHeld := hHeldN
          clear hHeldN
          clear W3
          have iL := hLB
          clear hLB
          simp only [Act.put, zd, ze, zf]
          refine wpAnyLast_ready (rs := [13]) (by kernel_rfl) (by simp) ?_
          refine AllReadyL.cons (o := ?o13) ?h13 (by simp) (fun K hK => ?s13) ?m13
          case h13 => (simp only [ga, gb, gc]; rfl)
          case m13 => exact AllReadyL.nil
          go_simp
          have iC := isInt_alloc W4
          have bC : w2.heap.size ≤ W4.heap.size := hHeld.base.size
          have lAC := iA.lt
          replace iA := iA.alloc_ (.cells #[.bool false, .slice none 0 0] 87)
          have lLC := iL.lt
          replace iL := iL.alloc_ (.cells #[.bool false, .slice none 0 0] 87)
          refine hK.out _ _ (hHeld.alloc _) (fun hHeldN => ?_)
          clear hK K hHeld
          have hHeld := hHeldN
          clear hHeldN
          simp only [Act.put, zd, ze, zf]
          generalize W4.heap.size = gC at *
          generalize W4.alloc (.cells #[.bool false, .slice none 0 0] 87) = W5 at *
          clear W4
          refine wpAnyLast_ready (rs := [14]) (by kernel_rfl) (by simp) ?_
          refine AllReadyL.cons (o := ?o14) ?h14 (by simp) (fun K hK => ?s14) ?m14
          case h14 => (simp only [ga, gb, gc]; rfl)
          case m14 => exact AllReadyL.nil
          go_simp
          go_at_call 45
          refine (quoRem_of gA gB g' gC oB o' 36893488147419103232 3 12297829382473034410 2 W5 iA iC iL (HI.out.2.1.only hHeld (fun h => h) (fun _ _ h => h)) (by decide) (by decide) (by decide) (by decide) (by omega) (by omega) (by have := HI.out.2.2; omega) (by omega) (by have := HI.out.2.2; omega) (fun w vu vv hu hv => (div_nat_lit vu vv _ _ w hu hv).mono (fun _ _ h => h))).mono ?_
          rintro en W6 ⟨rfl, bq, br, hq, hr, hbq, hbr, hoQ⟩
          refine hK.out _ _ (hHeld.step hoQ (by rintro i hi (rfl | rfl) <;> omega)) (fun hHeldN => ?_)
          clear hK K hHeld
          have hHeld := hHeldN
          clear hHeldN
          simp only [Act.put, zd, ze, zf]
          refine pure_ (i := 15) (oi := ?o15) (v := ?v15) #[true, true, true, true, true, true, true, true, true, true, true, true, true, true, true, true, false, false, false, false] ?h15 rfl (by kernel_rfl) ?q15 (Or.inl ⟨?w15, ?y15⟩) rfl ?r15
          case h15 => (simp only [ga, gb, gc]; rfl)
          case q15 => exact fun _ _ _ h => h
          case w15 => rfl
          case y15 => (intro W; go_simp; first | done | with_reducible rfl)
          simp only [Act.put, zd, ze, zf]
          refine pure_ (i := 16) (oi := ?o16) (v := ?v16) #[true, true, true, true, true, true, true, true, true, true, true, true, true, true, true, true, true, false, false, false] ?h16 rfl (by kernel_rfl) ?q16 (Or.inl ⟨?w16, ?y16⟩) rfl ?r16
          case h16 => (simp only [ga, gb, gc]; rfl)
          case q16 => exact fun _ _ _ h => h
          case w16 => rfl
          case y16 => (intro W; go_simp; first | done | with_reducible rfl)
          simp only [Act.put, zd, ze, zf]
          refine pure_ (i := 17) (oi := ?o17) (v := ?v17) #[true, true, true, true, true, true, true, true, true, true, true, true, true, true, true, true, true, true, false, false] ?h17 rfl (by kernel_rfl) ?q17 (Or.inl ⟨?w17, ?y17⟩) rfl ?r17
          case h17 => (simp only [ga, gb, gc]; rfl)
          case q17 => exact fun _ _ _ h => h
          case w17 => rfl
          case y17 => (intro W; go_simp; first | done | with_reducible rfl)
          simp only [Act.put, zd, ze, zf]
          refine pure_ (i := 18) (oi := ?o18) (v := ?v18) #[true, true, true, true, true, true, true, true, true, true, true, true, true, true, true, true, true, true, true, false] ?h18 rfl (by kernel_rfl) ?q18 (Or.inl ⟨?w18, ?y18⟩) rfl ?r18
          case h18 => (simp only [ga, gb, gc]; rfl)
          case q18 => exact fun _ _ _ h => h
          case w18 => rfl
          case y18 => (intro W; go_simp; first | done | with_reducible rfl)
          simp only [Act.put, zd, ze, zf]
          refine pure_ (i := 19) (oi := ?o19) (v := ?v19) #[true, true, true, true, true, true, true, true, true, true, true, true, true, true, true, true, true, true, true, true] ?h19 rfl (by kernel_rfl) ?q19 (Or.inl ⟨?w19, ?y19⟩) rfl ?r19
          case h19 => (simp only [ga, gb, gc]; rfl)
          case q19 => exact fun _ _ _ h => h
          case w19 => rfl
          case y19 => (intro W; go_simp; first | done | with_reducible rfl)
          simp only [Act.put, zd, ze, zf]
          refine done_ (by kernel_rfl) ?_
          go_wp2_with fail
          go_meet
          case rel => exact ⟨gA, _, gC, _, rfl, rfl, hq, hr, hHeld⟩
        refine AllReadyL.cons (o := ?o20) ?h20 (by simp) (fun K hK => ?s20) ?m20
        case h20 => (simp only [ga, gb, gc]; rfl)
        case m20 => exact AllReadyL.nil
        case s20 =>
          go_simp
          have iC := isInt_alloc W3
          have bC : w2.heap.size ≤ W3.heap.size := hHeld.base.size
          have lAC := iA.lt
          replace iA := iA.alloc_ (.cells #[.bool false, .slice none 0 0] 87)
          have lBC := iB.lt
          replace iB := iB.alloc_ (.cells #[.bool false, .slice none 0 0] 87)
          refine hK.out _ _ (hHeld.alloc _) (fun hHeldN => ?_)
          clear hK K hHeld
          have hHeld := hHeldN
          clear hHeldN
          simp only [Act.put, zd, ze, zf]
          generalize W3.heap.size = gC at *
          generalize W3.alloc (.cells #[.bool false, .slice none 0 0] 87) = W7 at *
          clear W3
          refine wpAnyLast_ready (rs := [8]) (by kernel_rfl) (by simp) ?_
          refine AllReadyL.cons (o := ?o21) ?h21 (by simp) (fun K hK => ?s21) ?m21
          case h21 => (simp only [ga, gb, gc]; rfl)
          case m21 => exact AllReadyL.nil
          go_simp
          go_at_call 46
          refine (lshb_int gB g o 1 1 1 65 W7 iB (HI.out.1.only hHeld (fun h => h) (fun _ _ h => h)) HF.out (by decide) (by decide) (by decide) (by decide) (by decide) (by decide)).mono ?_
          rintro en W8 ⟨rfl, oB, hLB, hoB, hob⟩
          replace iA := iA.keep iB hoB (by omega) (fun _ h => by cases h)
          replace iC := iC.keep iB hoB (by omega) (fun _ h => by cases h)
          rw [show (1 : Int) * 2 ^ 65 = 36893488147419103232 by decide] at hLB
          refine hK.out _ _ (hHeld.step hoB (by rintro i hi (rfl | h); (omega); (cases h))) (fun hHeldN => ?_)
          clear hK K iB hoB hob hHeld
          have hHeld := hHeldN
          clear hHeldN
          clear W7
          have iL := hLB
          clear hLB
          simp only [Act.put, zd, ze, zf]
          refine wpAnyLast_ready (rs := [14]) (by kernel_rfl) (by simp) ?_
          refine AllReadyL.cons (o := ?o22) ?h22 (by simp) (fun K hK => ?s22) ?m22
          case h22 => (simp only [ga, gb, gc]; rfl)
          case m22 => exact AllReadyL.nil
          go_simp
          go_at_call 45
          refine (quoRem_of gA gB g' gC oB o' 36893488147419103232 3 12297829382473034410 2 W8 iA iC iL (HI.out.2.1.only hHeld (fun h => h) (fun _ _ h => h)) (by decide) (by decide) (by decide) (by decide) (by omega) (by omega) (by have := HI.out.2.2; omega) (by omega) (by have := HI.out.2.2; omega) (fun w vu vv hu hv => (div_nat_lit vu vv _ _ w hu hv).mono (fun _ _ h => h))).mono ?_
          rintro en W9 ⟨rfl, bq, br, hq, hr, hbq, hbr, hoQ⟩
          refine hK.out _ _ (hHeld.step hoQ (by rintro i hi (rfl | rfl) <;> omega)) (fun hHeldN => ?_)
          clear hK K hHeld
          have hHeld := hHeldN
          clear hHeldN
          simp only [Act.put, zd, ze, zf]
          refine pure_ (i := 15) (oi := ?o23) (v := ?v23) #[true, true, true, true, true, true, true, true, true, true, true, true, true, true, true, true, false, false, false, false] ?h23 rfl (by kernel_rfl) ?q23 (Or.inl ⟨?w23, ?y23⟩) rfl ?r23
          case h23 => (simp only [ga, gb, gc]; rfl)
          case q23 => exact fun _ _ _ h => h
          case w23 => rfl
          case y23 => (intro W; go_simp; first | done | with_reducible rfl)
          simp only [Act.put, zd, ze, zf]
          refine pure_ (i := 16) (oi := ?o24) (v := ?v24) #[true, true, true, true, true, true, true, true, true, true, true, true, true, true, true, true, true, false, false, false] ?h24 rfl (by kernel_rfl) ?q24 (Or.inl ⟨?w24, ?y24⟩) rfl ?r24
          case h24 => (simp only [ga, gb, gc]; rfl)
          case q24 => exact fun _ _ _ h => h
          case w24 => rfl
          case y24 => (intro W; go_simp; first | done | with_reducible rfl)
          simp only [Act.put, zd, ze, zf]
          refine pure_ (i := 17) (oi := ?o25) (v := ?v25) #[true, true, true, true, true, true, true, true, true, true, true, true, true, true, true, true, true, true, false, false] ?h25 rfl (by kernel_rfl) ?q25 (Or.inl ⟨?w25, ?y25⟩) rfl ?r25
          case h25 => (simp only [ga, gb, gc]; rfl)
          case q25 => exact fun _ _ _ h => h
          case w25 => rfl
          case y25 => (intro W; go_simp; first | done | with_reducible rfl)
          simp only [Act.put, zd, ze, zf]
          refine pure_ (i := 18) (oi := ?o26) (v := ?v26) #[true, true, true, true, true, true, true, true, true, true, true, true, true, true, true, true, true, true, true, false] ?h26 rfl (by kernel_rfl) ?q26 (Or.inl ⟨?w26, ?y26⟩) rfl ?r26
          case h26 => (simp only [ga, gb, gc]; rfl)
          case q26 => exact fun _ _ _ h => h
          case w26 => rfl
          case y26 => (intro W; go_simp; first | done | with_reducible rfl)
          simp only [Act.put, zd, ze, zf]
          refine pure_ (i := 19) (oi := ?o27) (v := ?v27) #[true, true, true, true, true, true, true, true, true, true, true, true, true, true, true, true, true, true, true, true] ?h27 rfl (by kernel_rfl) ?q27 (Or.inl ⟨?w27, ?y27⟩) rfl ?r27
          case h27 => (simp only [ga, gb, gc]; rfl)
          case q27 => exact fun _ _ _ h => h
          case w27 => rfl
          case y27 => (intro W; go_simp; first | done | with_reducible rfl)
          simp only [Act.put, zd, ze, zf]
          refine done_ (by kernel_rfl) ?_
          go_wp2_with fail
          go_meet
          case rel => exact ⟨gA, _, gC, _, rfl, rfl, hq, hr, hHeld⟩
      refine AllReadyL.cons (o := ?o28) ?h28 (by simp) (fun K hK => ?s28) ?m28
      case h28 => (simp only [ga, gb, gc]; rfl)
      case m28 => exact AllReadyL.nil
      case s28 =>
        go_simp
        have iC := isInt_alloc W2
        have bC : w2.heap.size ≤ W2.heap.size := hHeld.base.size
        have lAC := iA.lt
        replace iA := iA.alloc_ (.cells #[.bool false, .slice none 0 0] 87)
        refine hK.out _ _ (hHeld.alloc _) (fun hHeldN => ?_)
        clear hK K hHeld
        have hHeld := hHeldN
        clear hHeldN
        simp only [Act.put, zd, ze, zf]
        generalize W2.heap.size = gC at *
        generalize W2.alloc (.cells #[.bool false, .slice none 0 0] 87) = W10 at *
        clear W2
        refine wpAnyLast_ready (rs := [1]) (by kernel_rfl) (by simp) ?_
        refine AllReadyL.cons (o := ?o29) ?h29 (by simp) (fun K hK => ?s29) ?m29
        case h29 => (simp only [ga, gb, gc]; rfl)
        case m29 => exact AllReadyL.nil
        go_simp
        have iB := isInt_alloc W10
        have bB : w2.heap.size ≤ W10.heap.size := hHeld.base.size
        have lAB := iA.lt
        replace iA := iA.alloc_ (.cells #[.bool false, .slice none 0 0] 87)
        have lCB := iC.lt
        replace iC := iC.alloc_ (.cells #[.bool false, .slice none 0 0] 87)
        refine hK.out _ _ (hHeld.alloc _) (fun hHeldN => ?_)
        clear hK K hHeld
        have hHeld := hHeldN
        clear hHeldN
        simp only [Act.put, zd, ze, zf]
        generalize W10.heap.size = gB at *
        generalize W10.alloc (.cells #[.bool false, .slice none 0 0] 87) = W11 at *
        clear W10
        refine wpAnyLast_ready (rs := [8]) (by kernel_rfl) (by simp) ?_
        refine AllReadyL.cons (o := ?o30) ?h30 (by simp) (fun K hK => ?s30) ?m30
        case h30 => (simp only [ga, gb, gc]; rfl)
        case m30 => exact AllReadyL.nil
        go_simp
        go_at_call 46
        refine (lshb_int gB g o 1 1 1 65 W11 iB (HI.out.1.only hHeld (fun h => h) (fun _ _ h => h)) HF.out (by decide) (by decide) (by decide) (by decide) (by decide) (by decide)).mono ?_
        rintro en W12 ⟨rfl, oB, hLB, hoB, hob⟩
        replace iA := iA.keep iB hoB (by omega) (fun _ h => by cases h)
        replace iC := iC.keep iB hoB (by omega) (fun _ h => by cases h)
        rw [show (1 : Int) * 2 ^ 65 = 36893488147419103232 by decide] at hLB
        refine hK.out _ _ (hHeld.step hoB (by rintro i hi (rfl | h); (omega); (cases h))) (fun hHeldN => ?_)
        clear hK K iB hoB hob hHeld
        have hHeld := hHeldN
        clear hHeldN
        clear W11
        have iL := hLB
        clear hLB
        simp only [Act.put, zd, ze, zf]
        refine wpAnyLast_ready (rs := [14]) (by kernel_rfl) (by simp) ?_
        refine AllReadyL.cons (o := ?o31) ?h31 (by simp) (fun K hK => ?s31) ?m31
        case h31 => (simp only [ga, gb, gc]; rfl)
        case m31 => exact AllReadyL.nil
        go_simp
        go_at_call 45
        refine (quoRem_of gA gB g' gC oB o' 36893488147419103232 3 12297829382473034410 2 W12 iA iC iL (HI.out.2.1.only hHeld (fun h => h) (fun _ _ h => h)) (by decide) (by decide) (by decide) (by decide) (by omega) (by omega) (by have := HI.out.2.2; omega) (by omega) (by have := HI.out.2.2; omega) (fun w vu vv hu hv => (div_nat_lit vu vv _ _ w hu hv).mono (fun _ _ h => h))).mono ?_
        rintro en W13 ⟨rfl, bq, br, hq, hr, hbq, hbr, hoQ⟩
        refine hK.out _ _ (hHeld.step hoQ (by rintro i hi (rfl | rfl) <;> omega)) (fun hHeldN => ?_)
        clear hK K hHeld
        have hHeld := hHeldN
        clear hHeldN
        simp only [Act.put, zd, ze, zf]
        refine pure_ (i := 15) (oi := ?o32) (v := ?v32) #[true, true, true, true, true, true, true, true, true, true, true, true, true, true, true, true, false, false, false, false] ?h32 rfl (by kernel_rfl) ?q32 (Or.inl ⟨?w32, ?y32⟩) rfl ?r32
        case h32 => (simp only [ga, gb, gc]; rfl)
        case q32 => exact fun _ _ _ h => h
        case w32 => rfl
        case y32 => (intro W; go_simp; first | done | with_reducible rfl)
        simp only [Act.put, zd, ze, zf]
        refine pure_ (i := 16) (oi := ?o33) (v := ?v33) #[true, true, true, true, true, true, true, true, true, true, true, true, true, true, true, true, true, false, false, false] ?h33 rfl (by kernel_rfl) ?q33 (Or.inl ⟨?w33, ?y33⟩) rfl ?r33
        case h33 => (simp only [ga, gb, gc]; rfl)
        case q33 => exact fun _ _ _ h => h
        case w33 => rfl
        case y33 => (intro W; go_simp; first | done | with_reducible rfl)
        simp only [Act.put, zd, ze, zf]
        refine pure_ (i := 17) (oi := ?o34) (v := ?v34) #[true, true, true, true, true, true, true, true, true, true, true, true, true, true, true, true, true, true, false, false] ?h34 rfl (by kernel_rfl) ?q34 (Or.inl ⟨?w34, ?y34⟩) rfl ?r34
        case h34 => (simp only [ga, gb, gc]; rfl)
        case q34 => exact fun _ _ _ h => h
        case w34 => rfl
        case y34 => (intro W; go_simp; first | done | with_reducible rfl)
        simp only [Act.put, zd, ze, zf]
        refine pure_ (i := 18) (oi := ?o35) (v := ?v35) #[true, true, true, true, true, true, true, true, true, true, true, true, true, true, true, true, true, true, true, false] ?h35 rfl (by kernel_rfl) ?q35 (Or.inl ⟨?w35, ?y35⟩) rfl ?r35
        case h35 => (simp only [ga, gb, gc]; rfl)
        case q35 => exact fun _ _ _ h => h
        case w35 => rfl
        case y35 => (intro W; go_simp; first | done | with_reducible rfl)
        simp only [Act.put, zd, ze, zf]
        refine pure_ (i := 19) (oi := ?o36) (v := ?v36) #[true, true, true, true, true, true, true, true, true, true, true, true, true, true, true, true, true, true, true, true] ?h36 rfl (by kernel_rfl) ?q36 (Or.inl ⟨?w36, ?y36⟩) rfl ?r36
        case h36 => (simp only [ga, gb, gc]; rfl)
        case q36 => exact fun _ _ _ h => h
        case w36 => rfl
        case y36 => (intro W; go_simp; first | done | with_reducible rfl)
        simp only [Act.put, zd, ze, zf]
        refine done_ (by kernel_rfl) ?_
        go_wp2_with fail
        go_meet
        case rel => exact ⟨gA, _, gC, _, rfl, rfl, hq, hr, hHeld⟩
    refine AllReadyL.cons (o := ?o37) ?h37 (by simp) (fun K hK => ?s37) ?m37
    case h37 => (simp only [ga, gb, gc]; rfl)
    case s37 =>
      go_simp
      have iB := isInt_alloc W1
      have bB : w2.heap.size ≤ W1.heap.size := hHeld.base.size
      refine hK.out _ _ (hHeld.alloc _) (fun hHeldN => ?_)
      clear hK K hHeld
      have hHeld := hHeldN
      clear hHeldN
      simp only [Act.put, zd, ze, zf]
      generalize W1.heap.size = gB at *
      generalize W1.alloc (.cells #[.bool false, .slice none 0 0] 87) = W14 at *
      clear W1
      refine wpAnyLast_ready (rs := [0, 8, 13]) (by kernel_rfl) (by simp) ?_
      refine AllReadyL.cons (o := ?o38) ?h38 (by simp) (fun K hK => ?s38) ?m38
      case h38 => (simp only [ga, gb, gc]; rfl)
      case s38 =>
        go_simp
        have iA := isInt_alloc W14
        have bA : w2.heap.size ≤ W14.heap.size := hHeld.base.size
        have lBA := iB.lt
        replace iB := iB.alloc_ (.cells #[.bool false, .slice none 0 0] 87)
        refine hK.out _ _ (hHeld.alloc _) (fun hHeldN => ?_)
        clear hK K hHeld
        have hHeld := hHeldN
        clear hHeldN
        simp only [Act.put, zd, ze, zf]
        generalize W14.heap.size = gA at *
        generalize W14.alloc (.cells #[.bool false, .slice none 0 0] 87) = W15 at *
        clear W14
        refine wpAnyLast_ready (rs := [8, 13]) (by kernel_rfl) (by simp) ?_
        refine AllReadyL.cons (o := ?o39) ?h39 (by simp) (fun K hK => ?s39) ?m39
        case h39 => (simp only [ga, gb, gc]; rfl)
        case s39 =>
          go_simp
          go_at_call 46
          refine (lshb_int gB g o 1 1 1 65 W15 iB (HI.out.1.only hHeld (fun h => h) (fun _ _ h => h)) HF.out (by decide) (by decide) (by decide) (by decide) (by decide) (by decide)).mono ?_
          rintro en W16 ⟨rfl, oB, hLB, hoB, hob⟩
          replace iA := iA.keep iB hoB (by omega) (fun _ h => by cases h)
          rw [show (1 : Int) * 2 ^ 65 = 36893488147419103232 by decide] at hLB
          refine hK.out _ _ (hHeld.step hoB (by rintro i hi (rfl | h); (omega); (cases h))) (fun hHeldN => ?_)
          clear hK K iB hoB hob hHeld
          have hHeld := hHeldN
          clear hHeldN
          clear W15
          have iL := hLB
          clear hLB
          simp only [Act.put, zd, ze, zf]
          refine wpAnyLast_ready (rs := [13]) (by kernel_rfl) (by simp) ?_
          refine AllReadyL.cons (o := ?o40) ?h40 (by simp) (fun K hK => ?s40) ?m40
          case h40 => (simp only [ga, gb, gc]; rfl)
          case m40 => exact AllReadyL.nil
          go_simp
          have iC := isInt_alloc W16
          have bC : w2.heap.size ≤ W16.heap.size := hHeld.base.size
          have lAC := iA.lt
          replace iA := iA.alloc_ (.cells #[.bool false, .slice none 0 0] 87)
          have lLC := iL.lt
          replace iL := iL.alloc_ (.cells #[.bool false, .slice none 0 0] 87)
          refine hK.out _ _ (hHeld.alloc _) (fun hHeldN => ?_)
          clear hK K hHeld
          have hHeld := hHeldN
          clear hHeldN
          simp only [Act.put, zd, ze, zf]
          generalize W16.heap.size = gC at *
          generalize W16.alloc (.cells #[.bool false, .slice none 0 0] 87) = W17 at *
          clear W16
          refine wpAnyLast_ready (rs := [14]) (by kernel_rfl) (by simp) ?_
          refine AllReadyL.cons (o := ?o41) ?h41 (by simp) (fun K hK => ?s41) ?m41
          case h41 => (simp only [ga, gb, gc]; rfl)
          case m41 => exact AllReadyL.nil
          go_simp
          go_at_call 45
          refine (quoRem_of gA gB g' gC oB o' 36893488147419103232 3 12297829382473034410 2 W17 iA iC iL (HI.out.2.1.only hHeld (fun h => h) (fun _ _ h => h)) (by decide) (by decide) (by decide) (by decide) (by omega) (by omega) (by have := HI.out.2.2; omega) (by omega) (by have := HI.out.2.2; omega) (fun w vu vv hu hv => (div_nat_lit vu vv _ _ w hu hv).mono (fun _ _ h => h))).mono ?_
          rintro en W18 ⟨rfl, bq, br, hq, hr, hbq, hbr, hoQ⟩
          refine hK.out _ _ (hHeld.step hoQ (by rintro i hi (rfl | rfl) <;> omega)) (fun hHeldN => ?_)
          clear hK K hHeld
          have hHeld := hHeldN
          clear hHeldN
          simp only [Act.put, zd, ze, zf]
          refine pure_ (i := 15) (oi := ?o42) (v := ?v42) #[true, true, true, true, true, true, true, true, true, true, true, true, true, true, true, true, false, false, false, false] ?h42 rfl (by kernel_rfl) ?q42 (Or.inl ⟨?w42, ?y42⟩) rfl ?r42
          case h42 => (simp only [ga, gb, gc]; rfl)
          case q42 => exact fun _ _ _ h => h
          case w42 => rfl
          case y42 => (intro W; go_simp; first | done | with_reducible rfl)
          simp only [Act.put, zd, ze, zf]
          refine pure_ (i := 16) (oi := ?o43) (v := ?v43) #[true, true, true, true, true, true, true, true, true, true, true, true, true, true, true, true, true, false, false, false] ?h43 rfl (by kernel_rfl) ?q43 (Or.inl ⟨?w43, ?y43⟩) rfl ?r43
          case h43 => (simp only [ga, gb, gc]; rfl)
          case q43 => exact fun _ _ _ h => h
          case w43 => rfl
          case y43 => (intro W; go_simp; first | done | with_reducible rfl)
          simp only [Act.put, zd, ze, zf]
          refine pure_ (i := 17) (oi := ?o44) (v := ?v44) #[true, true, true, true, true, true, true, true, true, true, true, true, true, true, true, true, true, true, false, false] ?h44 rfl (by kernel_rfl) ?q44 (Or.inl ⟨?w44, ?y44⟩) rfl ?r44
          case h44 => (simp only [ga, gb, gc]; rfl)
          case q44 => exact fun _ _ _ h => h
          case w44 => rfl
          case y44 => (intro W; go_simp; first | done | with_reducible rfl)
          simp only [Act.put, zd, ze, zf]
          refine pure_ (i := 18) (oi := ?o45) (v := ?v45) #[true, true, true, true, true, true, true, true, true, true, true, true, true, true, true, true, true, true, true, false] ?h45 rfl (by kernel_rfl) ?q45 (Or.inl ⟨?w45, ?y45⟩) rfl ?r45
          case h45 => (simp only [ga, gb, gc]; rfl)
          case q45 => exact fun _ _ _ h => h
          case w45 => rfl
          case y45 => (intro W; go_simp; first | done | with_reducible rfl)
          simp only [Act.put, zd, ze, zf]
          refine pure_ (i := 19) (oi := ?o46) (v := ?v46) #[true, true, true, true, true, true, true, true, true, true, true, true, true, true, true, true, true, true, true, true] ?h46 rfl (by kernel_rfl) ?q46 (Or.inl ⟨?w46, ?y46⟩) rfl ?r46
          case h46 => (simp only [ga, gb, gc]; rfl)
          case q46 => exact fun _ _ _ h => h
          case w46 => rfl
          case y46 => (intro W; go_simp; first | done | with_reducible rfl)
          simp only [Act.put, zd, ze, zf]
          refine done_ (by kernel_rfl) ?_
          go_wp2_with fail
          go_meet
          case rel => exact ⟨gA, _, gC, _, rfl, rfl, hq, hr, hHeld⟩
        refine AllReadyL.cons (o := ?o47) ?h47 (by simp) (fun K hK => ?s47) ?m47
        case h47 => (simp only [ga, gb, gc]; rfl)
        case m47 => exact AllReadyL.nil
        case s47 =>
          go_simp
          have iC := isInt_alloc W15
          have bC : w2.heap.size ≤ W15.heap.size := hHeld.base.size
          have lBC := iB.lt
          replace iB := iB.alloc_ (.cells #[.bool false, .slice none 0 0] 87)
          have lAC := iA.lt
          replace iA := iA.alloc_ (.cells #[.bool false, .slice none 0 0] 87)
          refine hK.out _ _ (hHeld.alloc _) (fun hHeldN => ?_)
          clear hK K hHeld
          have hHeld := hHeldN
          clear hHeldN
          simp only [Act.put, zd, ze, zf]
          generalize W15.heap.size = gC at *
          generalize W15.alloc (.cells #[.bool false, .slice none 0 0] 87) = W19 at *
          clear W15
          refine wpAnyLast_ready (rs := [8]) (by kernel_rfl) (by simp) ?_
          refine AllReadyL.cons (o := ?o48) ?h48 (by simp) (fun K hK => ?s48) ?m48
          case h48 => (simp only [ga, gb, gc]; rfl)
          case m48 => exact AllReadyL.nil
          go_simp
          go_at_call 46
          refine (lshb_int gB g o 1 1 1 65 W19 iB (HI.out.1.only hHeld (fun h => h) (fun _ _ h => h)) HF.out (by decide) (by decide) (by decide) (by decide) (by decide) (by decide)).mono ?_
          rintro en W20 ⟨rfl, oB, hLB, hoB, hob⟩
          replace iA := iA.keep iB hoB (by omega) (fun _ h => by cases h)
          replace iC := iC.keep iB hoB (by omega) (fun _ h => by cases h)
          rw [show (1 : Int) * 2 ^ 65 = 36893488147419103232 by decide] at hLB
          refine hK.out _ _ (hHeld.step hoB (by rintro i hi (rfl | h); (omega); (cases h))) (fun hHeldN => ?_)
          clear hK K iB hoB hob hHeld
          have hHeld := hHeldN
          clear hHeldN
          clear W19
          have iL := hLB
          clear hLB
          simp only [Act.put, zd, ze, zf]
          refine wpAnyLast_ready (rs := [14]) (by kernel_rfl) (by simp) ?_
          refine AllReadyL.cons (o := ?o49) ?h49 (by simp) (fun K hK => ?s49) ?m49
          case h49 => (simp only [ga, gb, gc]; rfl)
          case m49 => exact AllReadyL.nil
          go_simp
          go_at_call 45
          refine (quoRem_of gA gB g' gC oB o' 36893488147419103232 3 12297829382473034410 2 W20 iA iC iL (HI.out.2.1.only hHeld (fun h => h) (fun _ _ h => h)) (by decide) (by decide) (by decide) (by decide) (by omega) (by omega) (by have := HI.out.2.2; omega) (by omega) (by have := HI.out.2.2; omega) (fun w vu vv hu hv => (div_nat_lit vu vv _ _ w hu hv).mono (fun _ _ h => h))).mono ?_
          rintro en W21 ⟨rfl, bq, br, hq, hr, hbq, hbr, hoQ⟩
          refine hK.out _ _ (hHeld.step hoQ (by rintro i hi (rfl | rfl) <;> omega)) (fun hHeldN => ?_)
          clear hK K hHeld
          have hHeld := hHeldN
          clear hHeldN
          simp only [Act.put, zd, ze, zf]
          refine pure_ (i := 15) (oi := ?o50) (v := ?v50) #[true, true, true, true, true, true, true, true, true, true, true, true, true, true, true, true, false, false, false, false] ?h50 rfl (by kernel_rfl) ?q50 (Or.inl ⟨?w50, ?y50⟩) rfl ?r50
          case h50 => (simp only [ga, gb, gc]; rfl)
          case q50 => exact fun _ _ _ h => h
          case w50 => rfl
          case y50 => (intro W; go_simp; first | done | with_reducible rfl)
          simp only [Act.put, zd, ze, zf]
          refine pure_ (i := 16) (oi := ?o51) (v := ?v51) #[true, true, true, true, true, true, true, true, true, true, true, true, true, true, true, true, true, false, false, false] ?h51 rfl (by kernel_rfl) ?q51 (Or.inl ⟨?w51, ?y51⟩) rfl ?r51
          case h51 => (simp only [ga, gb, gc]; rfl)
          case q51 => exact fun _ _ _ h => h
          case w51 => rfl
          case y51 => (intro W; go_simp; first | done | with_reducible rfl)
          simp only [Act.put, zd, ze, zf]
          refine pure_ (i := 17) (oi := ?o52) (v := ?v52) #[true, true, true, true, true, true, true, true, true, true, true, true, true, true, true, true, true, true, false, false] ?h52 rfl (by kernel_rfl) ?q52 (Or.inl ⟨?w52, ?y52⟩) rfl ?r52
          case h52 => (simp only [ga, gb, gc]; rfl)
          case q52 => exact fun _ _ _ h => h
          case w52 => rfl
          case y52 => (intro W; go_simp; first | done | with_reducible rfl)
          simp only [Act.put, zd, ze, zf]
          refine pure_ (i := 18) (oi := ?o53) (v := ?v53) #[true, true, true, true, true, true, true, true, true, true, true, true, true, true, true, true, true, true, true, false] ?h53 rfl (by kernel_rfl) ?q53 (Or.inl ⟨?w53, ?y53⟩) rfl ?r53
          case h53 => (simp only [ga, gb, gc]; rfl)
          case q53 => exact fun _ _ _ h => h
          case w53 => rfl
          case y53 => (intro W; go_simp; first | done | with_reducible rfl)
          simp only [Act.put, zd, ze, zf]
          refine pure_ (i := 19) (oi := ?o54) (v := ?v54) #[true, true, true, true, true, true, true, true, true, true, true, true, true, true, true, true, true, true, true, true] ?h54 rfl (by kernel_rfl) ?q54 (Or.inl ⟨?w54, ?y54⟩) rfl ?r54
          case h54 => (simp only [ga, gb, gc]; rfl)
          case q54 => exact fun _ _ _ h => h
          case w54 => rfl
          case y54 => (intro W; go_simp; first | done | with_reducible rfl)
          simp only [Act.put, zd, ze, zf]
          refine done_ (by kernel_rfl) ?_
          go_wp2_with fail
          go_meet
          case rel => exact ⟨gA, _, gC, _, rfl, rfl, hq, hr, hHeld⟩
      refine AllReadyL.cons (o := ?o55) ?h55 (by simp) (fun K hK => ?s55) ?m55
      case h55 => (simp only [ga, gb, gc]; rfl)
      case s55 =>
        go_simp
        go_at_call 46
        refine (lshb_int gB g o 1 1 1 65 W14 iB (HI.out.1.only hHeld (fun h => h) (fun _ _ h => h)) HF.out (by decide) (by decide) (by decide) (by decide) (by decide) (by decide)).mono ?_
        rintro en W22 ⟨rfl, oB, hLB, hoB, hob⟩
        rw [show (1 : Int) * 2 ^ 65 = 36893488147419103232 by decide] at hLB
        refine hK.out _ _ (hHeld.step hoB (by rintro i hi (rfl | h); (omega); (cases h))) (fun hHeldN => ?_)
        clear hK K iB hoB hob hHeld
        have hHeld := hHeldN
        clear hHeldN
        clear W14
        have iL := hLB
        clear hLB
        simp only [Act.put, zd, ze, zf]
        refine wpAnyLast_ready (rs := [0, 13]) (by kernel_rfl) (by simp) ?_
        refine AllReadyL.cons (o := ?o56) ?h56 (by simp) (fun K hK => ?s56) ?m56
        case h56 => (simp only [ga, gb, gc]; rfl)
        case s56 =>
          go_simp
          have iA := isInt_alloc W22
          have bA : w2.heap.size ≤ W22.heap.size := hHeld.base.size
          have lLA := iL.lt
          replace iL := iL.alloc_ (.cells #[.bool false, .slice none 0 0] 87)
          refine hK.out _ _ (hHeld.alloc _) (fun hHeldN => ?_)
          clear hK K hHeld
          have hHeld := hHeldN
          clear hHeldN
          simp only [Act.put, zd, ze, zf]
          generalize W22.heap.size = gA at *
          generalize W22.alloc (.cells #[.bool false, .slice none 0 0] 87) = W23 at *
          clear W22
          refine wpAnyLast_ready (rs := [13]) (by kernel_rfl) (by simp) ?_
          refine AllReadyL.cons (o := ?o57) ?h57 (by simp) (fun K hK => ?s57) ?m57
          case h57 => (simp only [ga, gb, gc]; rfl)
          case m57 => exact AllReadyL.nil
          go_simp
          have iC := isInt_alloc W23
          have bC : w2.heap.size ≤ W23.heap.size := hHeld.base.size
          have lLC := iL.lt
          replace iL := iL.alloc_ (.cells #[.bool false, .slice none 0 0] 87)
          have lAC := iA.lt
          replace iA := iA.alloc_ (.cells #[.bool false, .slice none 0 0] 87)
          refine hK.out _ _ (hHeld.alloc _) (fun hHeldN => ?_)
          clear hK K hHeld
          have hHeld := hHeldN
          clear hHeldN
          simp only [Act.put, zd, ze, zf]
          generalize W23.heap.size = gC at *
          generalize W23.alloc (.cells #[.bool false, .slice none 0 0] 87) = W24 at *
          clear W23
          refine wpAnyLast_ready (rs := [14]) (by kernel_rfl) (by simp) ?_
          refine AllReadyL.cons (o := ?o58) ?h58 (by simp) (fun K hK => ?s58) ?m58
          case h58 => (simp only [ga, gb, gc]; rfl)
          case m58 => exact AllReadyL.nil
          go_simp
          go_at_call 45
          refine (quoRem_of gA gB g' gC oB o' 36893488147419103232 3 12297829382473034410 2 W24 iA iC iL (HI.out.2.1.only hHeld (fun h => h) (fun _ _ h => h)) (by decide) (by decide) (by decide) (by decide) (by omega) (by omega) (by have := HI.out.2.2; omega) (by omega) (by have := HI.out.2.2; omega) (fun w vu vv hu hv => (div_nat_lit vu vv _ _ w hu hv).mono (fun _ _ h => h))).mono ?_
          rintro en W25 ⟨rfl, bq, br, hq, hr, hbq, hbr, hoQ⟩
          refine hK.out _ _ (hHeld.step hoQ (by rintro i hi (rfl | rfl) <;> omega)) (fun hHeldN => ?_)
          clear hK K hHeld
          have hHeld := hHeldN
          clear hHeldN
          simp only [Act.put, zd, ze, zf]
          refine pure_ (i := 15) (oi := ?o59) (v := ?v59) #[true, true, true, true, true, true, true, true, true, true, true, true, true, true, true, true, false, false, false, false] ?h59 rfl (by kernel_rfl) ?q59 (Or.inl ⟨?w59, ?y59⟩) rfl ?r59
          case h59 => (simp only [ga, gb, gc]; rfl)
          case q59 => exact fun _ _ _ h => h
          case w59 => rfl
          case y59 => (intro W; go_simp; first | done | with_reducible rfl)
          simp only [Act.put, zd, ze, zf]
          refine pure_ (i := 16) (oi := ?o60) (v := ?v60) #[true, true, true, true, true, true, true, true, true, true, true, true, true, true, true, true, true, false, false, false] ?h60 rfl (by kernel_rfl) ?q60 (Or.inl ⟨?w60, ?y60⟩) rfl ?r60
          case h60 => (simp only [ga, gb, gc]; rfl)
          case q60 => exact fun _ _ _ h => h
          case w60 => rfl
          case y60 => (intro W; go_simp; first | done | with_reducible rfl)
          simp only [Act.put, zd, ze, zf]
          refine pure_ (i := 17) (oi := ?o61) (v := ?v61) #[true, true, true, true, true, true, true, true, true, true, true, true, true, true, true, true, true, true, false, false] ?h61 rfl (by kernel_rfl) ?q61 (Or.inl ⟨?w61, ?y61⟩) rfl ?r61
          case h61 => (simp only [ga, gb, gc]; rfl)
          case q61 => exact fun _ _ _ h => h
          case w61 => rfl
          case y61 => (intro W; go_simp; first | done | with_reducible rfl)
          simp only [Act.put, zd, ze, zf]
          refine pure_ (i := 18) (oi := ?o62) (v := ?v62) #[true, true, true, true, true, true, true, true, true, true, true, true, true, true, true, true, true, true, true, false] ?h62 rfl (by kernel_rfl) ?q62 (Or.inl ⟨?w62, ?y62⟩) rfl ?r62
          case h62 => (simp only [ga, gb, gc]; rfl)
          case q62 => exact fun _ _ _ h => h
          case w62 => rfl
          case y62 => (intro W; go_simp; first | done | with_reducible rfl)
          simp only [Act.put, zd, ze, zf]
          refine pure_ (i := 19) (oi := ?o63) (v := ?v63) #[true, true, true, true, true, true, true, true, true, true, true, true, true, true, true, true, true, true, true, true] ?h63 rfl (by kernel_rfl) ?q63 (Or.inl ⟨?w63, ?y63⟩) rfl ?r63
          case h63 => (simp only [ga, gb, gc]; rfl)
          case q63 => exact fun _ _ _ h => h
          case w63 => rfl
          case y63 => (intro W; go_simp; first | done | with_reducible rfl)
          simp only [Act.put, zd, ze, zf]
          refine done_ (by kernel_rfl) ?_
          go_wp2_with fail
          go_meet
          case rel => exact ⟨gA, _, gC, _, rfl, rfl, hq, hr, hHeld⟩
        refine AllReadyL.cons (o := ?o64) ?h64 (by simp) (fun K hK => ?s64) ?m64
        case h64 => (simp only [ga, gb, gc]; rfl)
        case m64 => exact AllReadyL.nil
        case s64 =>
          go_simp
          have iC := isInt_alloc W22
          have bC : w2.heap.size ≤ W22.heap.size := hHeld.base.size
          have lLC := iL.lt
          replace iL := iL.alloc_ (.cells #[.bool false, .slice none 0 0] 87)
          refine hK.out _ _ (hHeld.alloc _) (fun hHeldN => ?_)
          clear hK K hHeld
          have hHeld := hHeldN
          clear hHeldN
          simp only [Act.put, zd, ze, zf]
          generalize W22.heap.size = gC at *
          generalize W22.alloc (.cells #[.bool false, .slice none 0 0] 87) = W26 at *
          clear W22
          refine wpAnyLast_ready (rs := [0]) (by kernel_rfl) (by simp) ?_
          refine AllReadyL.cons (o := ?o65) ?h65 (by simp) (fun K hK => ?s65) ?m65
          case h65 => (simp only [ga, gb, gc]; rfl)
          case m65 => exact AllReadyL.nil
          go_simp
          have iA := isInt_alloc W26
          have bA : w2.heap.size ≤ W26.heap.size := hHeld.base.size
          have lLA := iL.lt
          replace iL := iL.alloc_ (.cells #[.bool false, .slice none 0 0] 87)
          have lCA := iC.lt
          replace iC := iC.alloc_ (.cells #[.bool false, .slice none 0 0] 87)
          refine hK.out _ _ (hHeld.alloc _) (fun hHeldN => ?_)
          clear hK K hHeld
          have hHeld := hHeldN
          clear hHeldN
          simp only [Act.put, zd, ze, zf]
          generalize W26.heap.size = gA at *
          generalize W26.alloc (.cells #[.bool false, .slice none 0 0] 87) = W27 at *
          clear W26
          refine wpAnyLast_ready (rs := [14]) (by kernel_rfl) (by simp) ?_
          refine AllReadyL.cons (o := ?o66) ?h66 (by simp) (fun K hK => ?s66) ?m66
          case h66 => (simp only [ga, gb, gc]; rfl)
          case m66 => exact AllReadyL.nil
          go_simp
          go_at_call 45
          refine (quoRem_of gA gB g' gC oB o' 36893488147419103232 3 12297829382473034410 2 W27 iA iC iL (HI.out.2.1.only hHeld (fun h => h) (fun _ _ h => h)) (by decide) (by decide) (by decide) (by decide) (by omega) (by omega) (by have := HI.out.2.2; omega) (by omega) (by have := HI.out.2.2; omega) (fun w vu vv hu hv => (div_nat_lit vu vv _ _ w hu hv).mono (fun _ _ h => h))).mono ?_
          rintro en W28 ⟨rfl, bq, br, hq, hr, hbq, hbr, hoQ⟩
          refine hK.out _ _ (hHeld.step hoQ (by rintro i hi (rfl | rfl) <;> omega)) (fun hHeldN => ?_)
          clear hK K hHeld
          have hHeld := hHeldN
          clear hHeldN
          simp only [Act.put, zd, ze, zf]
          refine pure_ (i := 15) (oi := ?o67) (v := ?v67) #[true, true, true, true, true, true, true, true, true, true, true, true, true, true, true, true, false, false, false, false] ?h67 rfl (by kernel_rfl) ?q67 (Or.inl ⟨?w67, ?y67⟩) rfl ?r67
          case h67 => (simp only [ga, gb, gc]; rfl)
          case q67 => exact fun _ _ _ h => h
          case w67 => rfl
          case y67 => (intro W; go_simp; first | done | with_reducible rfl)
          simp only [Act.put, zd, ze, zf]
          refine pure_ (i := 16) (oi := ?o68) (v := ?v68) #[true, true, true, true, true, true, true, true, true, true, true, true, true, true, true, true, true, false, false, false] ?h68 rfl (by kernel_rfl) ?q68 (Or.inl ⟨?w68, ?y68⟩) rfl ?r68
          case h68 => (simp only [ga, gb, gc]; rfl)
          case q68 => exact fun _ _ _ h => h
          case w68 => rfl
          case y68 => (intro W; go_simp; first | done | with_reducible rfl)
          simp only [Act.put, zd, ze, zf]
          refine pure_ (i := 17) (oi := ?o69) (v := ?v69) #[true, true, true, true, true, true, true, true, true, true, true, true, true, true, true, true, true, true, false, false] ?h69 rfl (by kernel_rfl) ?q69 (Or.inl ⟨?w69, ?y69⟩) rfl ?r69
          case h69 => (simp only [ga, gb, gc]; rfl)
          case q69 => exact fun _ _ _ h => h
          case w69 => rfl
          case y69 => (intro W; go_simp; first | done | with_reducible rfl)
          simp only [Act.put, zd, ze, zf]
          refine pure_ (i := 18) (oi := ?o70) (v := ?v70) #[true, true, true, true, true, true, true, true, true, true, true, true, true, true, true, true, true, true, true, false] ?h70 rfl (by kernel_rfl) ?q70 (Or.inl ⟨?w70, ?y70⟩) rfl ?r70
          case h70 => (simp only [ga, gb, gc]; rfl)
          case q70 => exact fun _ _ _ h => h
          case w70 => rfl
          case y70 => (intro W; go_simp; first | done | with_reducible rfl)
          simp only [Act.put, zd, ze, zf]
          refine pure_ (i := 19) (oi := ?o71) (v := ?v71) #[true, true, true, true, true, true, true, true, true, true, true, true, true, true, true, true, true, true, true, true] ?h71 rfl (by kernel_rfl) ?q71 (Or.inl ⟨?w71, ?y71⟩) rfl ?r71
          case h71 => (simp only [ga, gb, gc]; rfl)
          case q71 => exact fun _ _ _ h => h
          case w71 => rfl
          case y71 => (intro W; go_simp; first | done | with_reducible rfl)
          simp only [Act.put, zd, ze, zf]
          refine done_ (by kernel_rfl) ?_
          go_wp2_with fail
          go_meet
          case rel => exact ⟨gA, _, gC, _, rfl, rfl, hq, hr, hHeld⟩
      refine AllReadyL.cons (o := ?o72) ?h72 (by simp) (fun K hK => ?s72) ?m72
      case h72 => (simp only [ga, gb, gc]; rfl)
      case m72 => exact AllReadyL.nil
      case s72 =>
        go_simp
        have iC := isInt_alloc W14
        have bC : w2.heap.size ≤ W14.heap.size := hHeld.base.size
        have lBC := iB.lt
        replace iB := iB.alloc_ (.cells #[.bool false, .slice none 0 0] 87)
        refine hK.out _ _ (hHeld.alloc _) (fun hHeldN => ?_)
        clear hK K hHeld
        have hHeld := hHeldN
        clear hHeldN
        simp only [Act.put, zd, ze, zf]
        generalize W14.heap.size = gC at *
        generalize W14.alloc (.cells #[.bool false, .slice none 0 0] 87) = W29 at *
        clear W14
        refine wpAnyLast_ready (rs := [0, 8]) (by kernel_rfl) (by simp) ?_
        refine AllReadyL.cons (o := ?o73) ?h73 (by simp) (fun K hK => ?s73) ?m73
        case h73 => (simp only [ga, gb, gc]; rfl)
        case s73 =>
          go_simp
          have iA := isInt_alloc W29
          have bA : w2.heap.size ≤ W29.heap.size := hHeld.base.size
          have lBA := iB.lt
          replace iB := iB.alloc_ (.cells #[.bool false, .slice none 0 0] 87)
          have lCA := iC.lt
          replace iC := iC.alloc_ (.cells #[.bool false, .slice none 0 0] 87)
          refine hK.out _ _ (hHeld.alloc _) (fun hHeldN => ?_)
          clear hK K hHeld
          have hHeld := hHeldN
          clear hHeldN
          simp only [Act.put, zd, ze, zf]
          generalize W29.heap.size = gA at *
          generalize W29.alloc (.cells #[.bool false, .slice none 0 0] 87) = W30 at *
          clear W29
          refine wpAnyLast_ready (rs := [8]) (by kernel_rfl) (by simp) ?_
          refine AllReadyL.cons (o := ?o74) ?h74 (by simp) (fun K hK => ?s74) ?m74
          case h74 => (simp only [ga, gb, gc]; rfl)
          case m74 => exact AllReadyL.nil
          go_simp
          go_at_call 46
          refine (lshb_int gB g o 1 1 1 65 W30 iB (HI.out.1.only hHeld (fun h => h) (fun _ _ h => h)) HF.out (by decide) (by decide) (by decide) (by decide) (by decide) (by decide)).mono ?_
          rintro en W31 ⟨rfl, oB, hLB, hoB, hob⟩
          replace iC := iC.keep iB hoB (by omega) (fun _ h => by cases h)
          replace iA := iA.keep iB hoB (by omega) (fun _ h => by cases h)
          rw [show (1 : Int) * 2 ^ 65 = 36893488147419103232 by decide] at hLB
          refine hK.out _ _ (hHeld.step hoB (by rintro i hi (rfl | h); (omega); (cases h))) (fun hHeldN => ?_)
          clear hK K iB hoB hob hHeld
          have hHeld := hHeldN
          clear hHeldN
          clear W30
          have iL := hLB
          clear hLB
          simp only [Act.put, zd, ze, zf]
          refine wpAnyLast_ready (rs := [14]) (by kernel_rfl) (by simp) ?_
          refine AllReadyL.cons (o := ?o75) ?h75 (by simp) (fun K hK => ?s75) ?m75
          case h75 => (simp only [ga, gb, gc]; rfl)
          case m75 => exact AllReadyL.nil
          go_simp
          go_at_call 45
          refine (quoRem_of gA gB g' gC oB o' 36893488147419103232 3 12297829382473034410 2 W31 iA iC iL (HI.out.2.1.only hHeld (fun h => h) (fun _ _ h => h)) (by decide) (by decide) (by decide) (by decide) (by omega) (by omega) (by have := HI.out.2.2; omega) (by omega) (by have := HI.out.2.2; omega) (fun w vu vv hu hv => (div_nat_lit vu vv _ _ w hu hv).mono (fun _ _ h => h))).mono ?_
          rintro en W32 ⟨rfl, bq, br, hq, hr, hbq, hbr, hoQ⟩
          refine hK.out _ _ (hHeld.step hoQ (by rintro i hi (rfl | rfl) <;> omega)) (fun hHeldN => ?_)
          clear hK K hHeld
          have hHeld := hHeldN
          clear hHeldN
          simp only [Act.put, zd, ze, zf]
          refine pure_ (i := 15) (oi := ?o76) (v := ?v76) #[true, true, true, true, true, true, true, true, true, true, true, true, true, true, true, true, false, false, false, false] ?h76 rfl (by kernel_rfl) ?q76 (Or.inl ⟨?w76, ?y76⟩) rfl ?r76
          case h76 => (simp only [ga, gb, gc]; rfl)
          case q76 => exact fun _ _ _ h => h
          case w76 => rfl
          case y76 => (intro W; go_simp; first | done | with_reducible rfl)
          simp only [Act.put, zd, ze, zf]
          refine pure_ (i := 16) (oi := ?o77) (v := ?v77) #[true, true, true, true, true, true, true, true, true, true, true, true, true, true, true, true, true, false, false, false] ?h77 rfl (by kernel_rfl) ?q77 (Or.inl ⟨?w77, ?y77⟩) rfl ?r77
          case h77 => (simp only [ga, gb, gc]; rfl)
          case q77 => exact fun _ _ _ h => h
          case w77 => rfl
          case y77 => (intro W; go_simp; first | done | with_reducible rfl)
          simp only [Act.put, zd, ze, zf]
          refine pure_ (i := 17) (oi := ?o78) (v := ?v78) #[true, true, true, true, true, true, true, true, true, true, true, true, true, true, true, true, true, true, false, false] ?h78 rfl (by kernel_rfl) ?q78 (Or.inl ⟨?w78, ?y78⟩) rfl ?r78
          case h78 => (simp only [ga, gb, gc]; rfl)
          case q78 => exact fun _ _ _ h => h
          case w78 => rfl
          case y78 => (intro W; go_simp; first | done | with_reducible rfl)
          simp only [Act.put, zd, ze, zf]
          refine pure_ (i := 18) (oi := ?o79) (v := ?v79) #[true, true, true, true, true, true, true, true, true, true, true, true, true, true, true, true, true, true, true, false] ?h79 rfl (by kernel_rfl) ?q79 (Or.inl ⟨?w79, ?y79⟩) rfl ?r79
          case h79 => (simp only [ga, gb, gc]; rfl)
          case q79 => exact fun _ _ _ h => h
          case w79 => rfl
          case y79 => (intro W; go_simp; first | done | with_reducible rfl)
          simp only [Act.put, zd, ze, zf]
          refine pure_ (i := 19) (oi := ?o80) (v := ?v80) #[true, true, true, true, true, true, true, true, true, true, true, true, true, true, true, true, true, true, true, true] ?h80 rfl (by kernel_rfl) ?q80 (Or.inl ⟨?w80, ?y80⟩) rfl ?r80
          case h80 => (simp only [ga, gb, gc]; rfl)
          case q80 => exact fun _ _ _ h => h
          case w80 => rfl
          case y80 => (intro W; go_simp; first | done | with_reducible rfl)
          simp only [Act.put, zd, ze, zf]
          refine done_ (by kernel_rfl) ?_
          go_wp2_with fail
          go_meet
          case rel => exact ⟨gA, _, gC, _, rfl, rfl, hq, hr, hHeld⟩
        refine AllReadyL.cons (o := ?o81) ?h81 (by simp) (fun K hK => ?s81) ?m81
        case h81 => (simp only [ga, gb, gc]; rfl)
        case m81 => exact AllReadyL.nil
        case s81 =>
          go_simp
          go_at_call 46
          refine (lshb_int gB g o 1 1 1 65 W29 iB (HI.out.1.only hHeld (fun h => h) (fun _ _ h => h)) HF.out (by decide) (by decide) (by decide) (by decide) (by decide) (by decide)).mono ?_
          rintro en W33 ⟨rfl, oB, hLB, hoB, hob⟩
          replace iC := iC.keep iB hoB (by omega) (fun _ h => by cases h)
          rw [show (1 : Int) * 2 ^ 65 = 36893488147419103232 by decide] at hLB
          refine hK.out _ _ (hHeld.step hoB (by rintro i hi (rfl | h); (omega); (cases h))) (fun hHeldN => ?_)
          clear hK K iB hoB hob hHeld
          have hHeld := hHeldN
          clear hHeldN
          clear W29
          have iL := hLB
          clear hLB
          simp only [Act.put, zd, ze, zf]
          refine wpAnyLast_ready (rs := [0]) (by kernel_rfl) (by simp) ?_
          refine AllReadyL.cons (o := ?o82) ?h82 (by simp) (fun K hK => ?s82) ?m82
          case h82 => (simp only [ga, gb, gc]; rfl)
          case m82 => exact AllReadyL.nil
          go_simp
          have iA := isInt_alloc W33
          have bA : w2.heap.size ≤ W33.heap.size := hHeld.base.size
          have lCA := iC.lt
          replace iC := iC.alloc_ (.cells #[.bool false, .slice none 0 0] 87)
          have lLA := iL.lt
          replace iL := iL.alloc_ (.cells #[.bool false, .slice none 0 0] 87)
          refine hK.out _ _ (hHeld.alloc _) (fun hHeldN => ?_)
          clear hK K hHeld
          have hHeld := hHeldN
          clear hHeldN
          simp only [Act.put, zd, ze, zf]
          generalize W33.heap.size = gA at *
          generalize W33.alloc (.cells #[.bool false, .slice none 0 0] 87) = W34 at *
          clear W33
          refine wpAnyLast_ready (rs := [14]) (by kernel_rfl) (by simp) ?_
          refine AllReadyL.cons (o := ?o83) ?h83 (by simp) (fun K hK => ?s83) ?m83
          case h83 => (simp only [ga, gb, gc]; rfl)
          case m83 => exact AllReadyL.nil
          go_simp
          go_at_call 45
          refine (quoRem_of gA gB g' gC oB o' 36893488147419103232 3 12297829382473034410 2 W34 iA iC iL (HI.out.2.1.only hHeld (fun h => h) (fun _ _ h => h)) (by decide) (by decide) (by decide) (by decide) (by omega) (by omega) (by have := HI.out.2.2; omega) (by omega) (by have := HI.out.2.2; omega) (fun w vu vv hu hv => (div_nat_lit vu vv _ _ w hu hv).mono (fun _ _ h => h))).mono ?_
          rintro en W35 ⟨rfl, bq, br, hq, hr, hbq, hbr, hoQ⟩
          refine hK.out _ _ (hHeld.step hoQ (by rintro i hi (rfl | rfl) <;> omega)) (fun hHeldN => ?_)
          clear hK K hHeld
          have hHeld := hHeldN
          clear hHeldN
          simp only [Act.put, zd, ze, zf]
          refine pure_ (i := 15) (oi := ?o84) (v := ?v84) #[true, true, true, true, true, true, true, true, true, true, true, true, true, true, true, true, false, false, false, false] ?h84 rfl (by kernel_rfl) ?q84 (Or.inl ⟨?w84, ?y84⟩) rfl ?r84
          case h84 => (simp only [ga, gb, gc]; rfl)
          case q84 => exact fun _ _ _ h => h
          case w84 => rfl
          case y84 => (intro W; go_simp; first | done | with_reducible rfl)
          simp only [Act.put, zd, ze, zf]
          refine pure_ (i := 16) (oi := ?o85) (v := ?v85) #[true, true, true, true, true, true, true, true, true, true, true, true, true, true, true, true, true, false, false, false] ?h85 rfl (by kernel_rfl) ?q85 (Or.inl ⟨?w85, ?y85⟩) rfl ?r85
          case h85 => (simp only [ga, gb, gc]; rfl)
          case q85 => exact fun _ _ _ h => h
          case w85 => rfl
          case y85 => (intro W; go_simp; first | done | with_reducible rfl)
          simp only [Act.put, zd, ze, zf]
          refine pure_ (i := 17) (oi := ?o86) (v := ?v86) #[true, true, true, true, true, true, true, true, true, true, true, true, true, true, true, true, true, true, false, false] ?h86 rfl (by kernel_rfl) ?q86 (Or.inl ⟨?w86, ?y86⟩) rfl ?r86
          case h86 => (simp only [ga, gb, gc]; rfl)
          case q86 => exact fun _ _ _ h => h
          case w86 => rfl
          case y86 => (intro W; go_simp; first | done | with_reducible rfl)
          simp only [Act.put, zd, ze, zf]
          refine pure_ (i := 18) (oi := ?o87) (v := ?v87) #[true, true, true, true, true, true, true, true, true, true, true, true, true, true, true, true, true, true, true, false] ?h87 rfl (by kernel_rfl) ?q87 (Or.inl ⟨?w87, ?y87⟩) rfl ?r87
          case h87 => (simp only [ga, gb, gc]; rfl)
          case q87 => exact fun _ _ _ h => h
          case w87 => rfl
          case y87 => (intro W; go_simp; first | done | with_reducible rfl)
          simp only [Act.put, zd, ze, zf]
          refine pure_ (i := 19) (oi := ?o88) (v := ?v88) #[true, true, true, true, true, true, true, true, true, true, true, true, true, true, true, true, true, true, true, true] ?h88 rfl (by kernel_rfl) ?q88 (Or.inl ⟨?w88, ?y88⟩) rfl ?r88
          case h88 => (simp only [ga, gb, gc]; rfl)
          case q88 => exact fun _ _ _ h => h
          case w88 => rfl
          case y88 => (intro W; go_simp; first | done | with_reducible rfl)
          simp only [Act.put, zd, ze, zf]
          refine done_ (by kernel_rfl) ?_
          go_wp2_with fail
          go_meet
          case rel => exact ⟨gA, _, gC, _, rfl, rfl, hq, hr, hHeld⟩
    refine AllReadyL.cons (o := ?o89) ?h89 (by simp) (fun K hK => ?s89) ?m89
    case h89 => (simp only [ga, gb, gc]; rfl)
    case m89 => exact AllReadyL.nil
    case s89 =>
      go_simp
      have iC := isInt_alloc W1
      have bC : w2.heap.size ≤ W1.heap.size := hHeld.base.size
      refine hK.out _ _ (hHeld.alloc _) (fun hHeldN => ?_)
      clear hK K hHeld
      have hHeld := hHeldN
      clear hHeldN
      simp only [Act.put, zd, ze, zf]
      generalize W1.heap.size = gC at *
      generalize W1.alloc (.cells #[.bool false, .slice none 0 0] 87) = W36 at *
      clear W1
      refine wpAnyLast_ready (rs := [0, 1]) (by kernel_rfl) (by simp) ?_
      refine AllReadyL.cons (o := ?o90) ?h90 (by simp) (fun K hK => ?s90) ?m90
      case h90 => (simp only [ga, gb, gc]; rfl)
      case s90 =>
        go_simp
        have iA := isInt_alloc W36
        have bA : w2.heap.size ≤ W36.heap.size := hHeld.base.size
        have lCA := iC.lt
        replace iC := iC.alloc_ (.cells #[.bool false, .slice none 0 0] 87)
        refine hK.out _ _ (hHeld.alloc _) (fun hHeldN => ?_)
        clear hK K hHeld
        have hHeld := hHeldN
        clear hHeldN
        simp only [Act.put, zd, ze, zf]
        generalize W36.heap.size = gA at *
        generalize W36.alloc (.cells #[.bool false, .slice none 0 0] 87) = W37 at *
        clear W36
        refine wpAnyLast_ready (rs := [1]) (by kernel_rfl) (by simp) ?_
        refine AllReadyL.cons (o := ?o91) ?h91 (by simp) (fun K hK => ?s91) ?m91
        case h91 => (simp only [ga, gb, gc]; rfl)
        case m91 => exact AllReadyL.nil
        go_simp
        have iB := isInt_alloc W37
        have bB : w2.heap.size ≤ W37.heap.size := hHeld.base.size
        have lCB := iC.lt
        replace iC := iC.alloc_ (.cells #[.bool false, .slice none 0 0] 87)
        have lAB := iA.lt
        replace iA := iA.alloc_ (.cells #[.bool false, .slice none 0 0] 87)
        refine hK.out _ _ (hHeld.alloc _) (fun hHeldN => ?_)
        clear hK K hHeld
        have hHeld := hHeldN
        clear hHeldN
        simp only [Act.put, zd, ze, zf]
        generalize W37.heap.size = gB at *
        generalize W37.alloc (.cells #[.bool false, .slice none 0 0] 87) = W38 at *
        clear W37
        refine wpAnyLast_ready (rs := [8]) (by kernel_rfl) (by simp) ?_
        refine AllReadyL.cons (o := ?o92) ?h92 (by simp) (fun K hK => ?s92) ?m92
        case h92 => (simp only [ga, gb, gc]; rfl)
        case m92 => exact AllReadyL.nil
        go_simp
        go_at_call 46
        refine (lshb_int gB g o 1 1 1 65 W38 iB (HI.out.1.only hHeld (fun h => h) (fun _ _ h => h)) HF.out (by decide) (by decide) (by decide) (by decide) (by decide) (by decide)).mono ?_
        rintro en W39 ⟨rfl, oB, hLB, hoB, hob⟩
        replace iC := iC.keep iB hoB (by omega) (fun _ h => by cases h)
        replace iA := iA.keep iB hoB (by omega) (fun _ h => by cases h)
        rw [show (1 : Int) * 2 ^ 65 = 36893488147419103232 by decide] at hLB
        refine hK.out _ _ (hHeld.step hoB (by rintro i hi (rfl | h); (omega); (cases h))) (fun hHeldN => ?_)
        clear hK K iB hoB hob hHeld
        have hHeld := hHeldN
        clear hHeldN
        clear W38
        have iL := hLB
        clear hLB
        simp only [Act.put, zd, ze, zf]
        refine wpAnyLast_ready (rs := [14]) (by kernel_rfl) (by simp) ?_
        refine AllReadyL.cons (o := ?o93) ?h93 (by simp) (fun K hK => ?s93) ?m93
        case h93 => (simp only [ga, gb, gc]; rfl)
        case m93 => exact AllReadyL.nil
        go_simp
        go_at_call 45
        refine (quoRem_of gA gB g' gC oB o' 36893488147419103232 3 12297829382473034410 2 W39 iA iC iL (HI.out.2.1.only hHeld (fun h => h) (fun _ _ h => h)) (by decide) (by decide) (by decide) (by decide) (by omega) (by omega) (by have := HI.out.2.2; omega) (by omega) (by have := HI.out.2.2; omega) (fun w vu vv hu hv => (div_nat_lit vu vv _ _ w hu hv).mono (fun _ _ h => h))).mono ?_
        rintro en W40 ⟨rfl, bq, br, hq, hr, hbq, hbr, hoQ⟩
        refine hK.out _ _ (hHeld.step hoQ (by rintro i hi (rfl | rfl) <;> omega)) (fun hHeldN => ?_)
        clear hK K hHeld
        have hHeld := hHeldN
        clear hHeldN
        simp only [Act.put, zd, ze, zf]
        refine pure_ (i := 15) (oi := ?o94) (v := ?v94) #[true, true, true, true, true, true, true, true, true, true, true, true, true, true, true, true, false, false, false, false] ?h94 rfl (by kernel_rfl) ?q94 (Or.inl ⟨?w94, ?y94⟩) rfl ?r94
        case h94 => (simp only [ga, gb, gc]; rfl)
        case q94 => exact fun _ _ _ h => h
        case w94 => rfl
        case y94 => (intro W; go_simp; first | done | with_reducible rfl)
        simp only [Act.put, zd, ze, zf]
        refine pure_ (i := 16) (oi := ?o95) (v := ?v95) #[true, true, true, true, true, true, true, true, true, true, true, true, true, true, true, true, true, false, false, false] ?h95 rfl (by kernel_rfl) ?q95 (Or.inl ⟨?w95, ?y95⟩) rfl ?r95
        case h95 => (simp only [ga, gb, gc]; rfl)
        case q95 => exact fun _ _ _ h => h
        case w95 => rfl
        case y95 => (intro W; go_simp; first | done | with_reducible rfl)
        simp only [Act.put, zd, ze, zf]
        refine pure_ (i := 17) (oi := ?o96) (v := ?v96) #[true, true, true, true, true, true, true, true, true, true, true, true, true, true, true, true, true, true, false, false] ?h96 rfl (by kernel_rfl) ?q96 (Or.inl ⟨?w96, ?y96⟩) rfl ?r96
        case h96 => (simp only [ga, gb, gc]; rfl)
        case q96 => exact fun _ _ _ h => h
        case w96 => rfl
        case y96 => (intro W; go_simp; first | done | with_reducible rfl)
        simp only [Act.put, zd, ze, zf]
        refine pure_ (i := 18) (oi := ?o97) (v := ?v97) #[true, true, true, true, true, true, true, true, true, true, true, true, true, true, true, true, true, true, true, false] ?h97 rfl (by kernel_rfl) ?q97 (Or.inl ⟨?w97, ?y97⟩) rfl ?r97
        case h97 => (simp only [ga, gb, gc]; rfl)
        case q97 => exact fun _ _ _ h => h
        case w97 => rfl
        case y97 => (intro W; go_simp; first | done | with_reducible rfl)
        simp only [Act.put, zd, ze, zf]
        refine pure_ (i := 19) (oi := ?o98) (v := ?v98) #[true, true, true, true, true, true, true, true, true, true, true, true, true, true, true, true, true, true, true, true] ?h98 rfl (by kernel_rfl) ?q98 (Or.inl ⟨?w98, ?y98⟩) rfl ?r98
        case h98 => (simp only [ga, gb, gc]; rfl)
        case q98 => exact fun _ _ _ h => h
        case w98 => rfl
        case y98 => (intro W; go_simp; first | done | with_reducible rfl)
        simp only [Act.put, zd, ze, zf]
        refine done_ (by kernel_rfl) ?_
        go_wp2_with fail
        go_meet
        case rel => exact ⟨gA, _, gC, _, rfl, rfl, hq, hr, hHeld⟩
      refine AllReadyL.cons (o := ?o99) ?h99 (by simp) (fun K hK => ?s99) ?m99
      case h99 => (simp only [ga, gb, gc]; rfl)
      case m99 => exact AllReadyL.nil
      case s99 =>
        go_simp
        have iB := isInt_alloc W36
        have bB : w2.heap.size ≤ W36.heap.size := hHeld.base.size
        have lCB := iC.lt
        replace iC := iC.alloc_ (.cells #[.bool false, .slice none 0 0] 87)
        refine hK.out _ _ (hHeld.alloc _) (fun hHeldN => ?_)
        clear hK K hHeld
        have hHeld := hHeldN
        clear hHeldN
        simp only [Act.put, zd, ze, zf]
        generalize W36.heap.size = gB at *
        generalize W36.alloc (.cells #[.bool false, .slice none 0 0] 87) = W41 at *
        clear W36
        refine wpAnyLast_ready (rs := [0, 8]) (by kernel_rfl) (by simp) ?_
        refine AllReadyL.cons (o := ?o100) ?h100 (by simp) (fun K hK => ?s100) ?m100
        case h100 => (simp only [ga, gb, gc]; rfl)
        case s100 =>
          go_simp
          have iA := isInt_alloc W41
          have bA : w2.heap.size ≤ W41.heap.size := hHeld.base.size
          have lCA := iC.lt
          replace iC := iC.alloc_ (.cells #[.bool false, .slice none 0 0] 87)
          have lBA := iB.lt
          replace iB := iB.alloc_ (.cells #[.bool false, .slice none 0 0] 87)
          refine hK.out _ _ (hHeld.alloc _) (fun hHeldN => ?_)
          clear hK K hHeld
          have hHeld := hHeldN
          clear hHeldN
          simp only [Act.put, zd, ze, zf]
          generalize W41.heap.size = gA at *
          generalize W41.alloc (.cells #[.bool false, .slice none 0 0] 87) = W42 at *
          clear W41
          refine wpAnyLast_ready (rs := [8]) (by kernel_rfl) (by simp) ?_
          refine AllReadyL.cons (o := ?o101) ?h101 (by simp) (fun K hK => ?s101) ?m101
          case h101 => (simp only [ga, gb, gc]; rfl)
          case m101 => exact AllReadyL.nil
          go_simp
          go_at_call 46
          refine (lshb_int gB g o 1 1 1 65 W42 iB (HI.out.1.only hHeld (fun h => h) (fun _ _ h => h)) HF.out (by decide) (by decide) (by decide) (by decide) (by decide) (by decide)).mono ?_
          rintro en W43 ⟨rfl, oB, hLB, hoB, hob⟩
          replace iC := iC.keep iB hoB (by omega) (fun _ h => by cases h)
          replace iA := iA.keep iB hoB (by omega) (fun _ h => by cases h)
          rw [show (1 : Int) * 2 ^ 65 = 36893488147419103232 by decide] at hLB
          refine hK.out _ _ (hHeld.step hoB (by rintro i hi (rfl | h); (omega); (cases h))) (fun hHeldN => ?_)
          clear hK K iB hoB hob hHeld
          have hHeld := hHeldN
          clear hHeldN
          clear W42
          have iL := hLB
          clear hLB
          simp only [Act.put, zd, ze, zf]
          refine wpAnyLast_ready (rs := [14]) (by kernel_rfl) (by simp) ?_
          refine AllReadyL.cons (o := ?o102) ?h102 (by simp) (fun K hK => ?s102) ?m102
          case h102 => (simp only [ga, gb, gc]; rfl)
          case m102 => exact AllReadyL.nil
          go_simp
          go_at_call 45
          refine (quoRem_of gA gB g' gC oB o' 36893488147419103232 3 12297829382473034410 2 W43 iA iC iL (HI.out.2.1.only hHeld (fun h => h) (fun _ _ h => h)) (by decide) (by decide) (by decide) (by decide) (by omega) (by omega) (by have := HI.out.2.2; omega) (by omega) (by have := HI.out.2.2; omega) (fun w vu vv hu hv => (div_nat_lit vu vv _ _ w hu hv).mono (fun _ _ h => h))).mono ?_
          rintro en W44 ⟨rfl, bq, br, hq, hr, hbq, hbr, hoQ⟩
          refine hK.out _ _ (hHeld.step hoQ (by rintro i hi (rfl | rfl) <;> omega)) (fun hHeldN => ?_)
          clear hK K hHeld
          have hHeld := hHeldN
          clear hHeldN
          simp only [Act.put, zd, ze, zf]
          refine pure_ (i := 15) (oi := ?o103) (v := ?v103) #[true, true, true, true, true, true, true, true, true, true, true, true, true, true, true, true, false, false, false, false] ?h103 rfl (by kernel_rfl) ?q103 (Or.inl ⟨?w103, ?y103⟩) rfl ?r103
          case h103 => (simp only [ga, gb, gc]; rfl)
          case q103 => exact fun _ _ _ h => h
          case w103 => rfl
          case y103 => (intro W; go_simp; first | done | with_reducible rfl)
          simp only [Act.put, zd, ze, zf]
          refine pure_ (i := 16) (oi := ?o104) (v := ?v104) #[true, true, true, true, true, true, true, true, true, true, true, true, true, true, true, true, true, false, false, false] ?h104 rfl (by kernel_rfl) ?q104 (Or.inl ⟨?w104, ?y104⟩) rfl ?r104
          case h104 => (simp only [ga, gb, gc]; rfl)
          case q104 => exact fun _ _ _ h => h
          case w104 => rfl
          case y104 => (intro W; go_simp; first | done | with_reducible rfl)
          simp only [Act.put, zd, ze, zf]
          refine pure_ (i := 17) (oi := ?o105) (v := ?v105) #[true, true, true, true, true, true, true, true, true, true, true, true, true, true, true, true, true, true, false, false] ?h105 rfl (by kernel_rfl) ?q105 (Or.inl ⟨?w105, ?y105⟩) rfl ?r105
          case h105 => (simp only [ga, gb, gc]; rfl)
          case q105 => exact fun _ _ _ h => h
          case w105 => rfl
          case y105 => (intro W; go_simp; first | done | with_reducible rfl)
          simp only [Act.put, zd, ze, zf]
          refine pure_ (i := 18) (oi := ?o106) (v := ?v106) #[true, true, true, true, true, true, true, true, true, true, true, true, true, true, true, true, true, true, true, false] ?h106 rfl (by kernel_rfl) ?q106 (Or.inl ⟨?w106, ?y106⟩) rfl ?r106
          case h106 => (simp only [ga, gb, gc]; rfl)
          case q106 => exact fun _ _ _ h => h
          case w106 => rfl
          case y106 => (intro W; go_simp; first | done | with_reducible rfl)
          simp only [Act.put, zd, ze, zf]
          refine pure_ (i := 19) (oi := ?o107) (v := ?v107) #[true, true, true, true, true, true, true, true, true, true, true, true, true, true, true, true, true, true, true, true] ?h107 rfl (by kernel_rfl) ?q107 (Or.inl ⟨?w107, ?y107⟩) rfl ?r107
          case h107 => (simp only [ga, gb, gc]; rfl)
          case q107 => exact fun _ _ _ h => h
          case w107 => rfl
          case y107 => (intro W; go_simp; first | done | with_reducible rfl)
          simp only [Act.put, zd, ze, zf]
          refine done_ (by kernel_rfl) ?_
          go_wp2_with fail
          go_meet
          case rel => exact ⟨gA, _, gC, _, rfl, rfl, hq, hr, hHeld⟩
        refine AllReadyL.cons (o := ?o108) ?h108 (by simp) (fun K hK => ?s108) ?m108
        case h108 => (simp only [ga, gb, gc]; rfl)
        case m108 => exact AllReadyL.nil
        case s108 =>
          go_simp
          go_at_call 46
          refine (lshb_int gB g o 1 1 1 65 W41 iB (HI.out.1.only hHeld (fun h => h) (fun _ _ h => h)) HF.out (by decide) (by decide) (by decide) (by decide) (by decide) (by decide)).mono ?_
          rintro en W45 ⟨rfl, oB, hLB, hoB, hob⟩
          replace iC := iC.keep iB hoB (by omega) (fun _ h => by cases h)
          rw [show (1 : Int) * 2 ^ 65 = 36893488147419103232 by decide] at hLB
          refine hK.out _ _ (hHeld.step hoB (by rintro i hi (rfl | h); (omega); (cases h))) (fun hHeldN => ?_)
          clear hK K iB hoB hob hHeld
          have hHeld := hHeldN
          clear hHeldN
          clear W41
          have iL := hLB
          clear hLB
          simp only [Act.put, zd, ze, zf]
          refine wpAnyLast_ready (rs := [0]) (by kernel_rfl) (by simp) ?_
          refine AllReadyL.cons (o := ?o109) ?h109 (by simp) (fun K hK => ?s109) ?m109
          case h109 => (simp only [ga, gb, gc]; rfl)
          case m109 => exact AllReadyL.nil
          go_simp
          have iA := isInt_alloc W45
          have bA : w2.heap.size ≤ W45.heap.size := hHeld.base.size
          have lCA := iC.lt
          replace iC := iC.alloc_ (.cells #[.bool false, .slice none 0 0] 87)
          have lLA := iL.lt
          replace iL := iL.alloc_ (.cells #[.bool false, .slice none 0 0] 87)
          refine hK.out _ _ (hHeld.alloc _) (fun hHeldN => ?_)
          clear hK K hHeld
          have hHeld := hHeldN
          clear hHeldN
          simp only [Act.put, zd, ze, zf]
          generalize W45.heap.size = gA at *
          generalize W45.alloc (.cells #[.bool false, .slice none 0 0] 87) = W46 at *
          clear W45
          refine wpAnyLast_ready (rs := [14]) (by kernel_rfl) (by simp) ?_
          refine AllReadyL.cons (o := ?o110) ?h110 (by simp) (fun K hK => ?s110) ?m110
          case h110 => (simp only [ga, gb, gc]; rfl)
          case m110 => exact AllReadyL.nil
          go_simp
          go_at_call 45
          refine (quoRem_of gA gB g' gC oB o' 36893488147419103232 3 12297829382473034410 2 W46 iA iC iL (HI.out.2.1.only hHeld (fun h => h) (fun _ _ h => h)) (by decide) (by decide) (by decide) (by decide) (by omega) (by omega) (by have := HI.out.2.2; omega) (by omega) (by have := HI.out.2.2; omega) (fun w vu vv hu hv => (div_nat_lit vu vv _ _ w hu hv).mono (fun _ _ h => h))).mono ?_
          rintro en W47 ⟨rfl, bq, br, hq, hr, hbq, hbr, hoQ⟩
          refine hK.out _ _ (hHeld.step hoQ (by rintro i hi (rfl | rfl) <;> omega)) (fun hHeldN => ?_)
          clear hK K hHeld
          have hHeld := hHeldN
          clear hHeldN
          simp only [Act.put, zd, ze, zf]
          refine pure_ (i := 15) (oi := ?o111) (v := ?v111) #[true, true, true, true, true, true, true, true, true, true, true, true, true, true, true, true, false, false, false, false] ?h111 rfl (by kernel_rfl) ?q111 (Or.inl ⟨?w111, ?y111⟩) rfl ?r111
          case h111 => (simp only [ga, gb, gc]; rfl)
          case q111 => exact fun _ _ _ h => h
          case w111 => rfl
          case y111 => (intro W; go_simp; first | done | with_reducible rfl)
          simp only [Act.put, zd, ze, zf]
          refine pure_ (i := 16) (oi := ?o112) (v := ?v112) #[true, true, true, true, true, true, true, true, true, true, true, true, true, true, true, true, true, false, false, false] ?h112 rfl (by kernel_rfl) ?q112 (Or.inl ⟨?w112, ?y112⟩) rfl ?r112
          case h112 => (simp only [ga, gb, gc]; rfl)
          case q112 => exact fun _ _ _ h => h
          case w112 => rfl
          case y112 => (intro W; go_simp; first | done | with_reducible rfl)
          simp only [Act.put, zd, ze, zf]
          refine pure_ (i := 17) (oi := ?o113) (v := ?v113) #[true, true, true, true, true, true, true, true, true, true, true, true, true, true, true, true, true, true, false, false] ?h113 rfl (by kernel_rfl) ?q113 (Or.inl ⟨?w113, ?y113⟩) rfl ?r113
          case h113 => (simp only [ga, gb, gc]; rfl)
          case q113 => exact fun _ _ _ h => h
          case w113 => rfl
          case y113 => (intro W; go_simp; first | done | with_reducible rfl)
          simp only [Act.put, zd, ze, zf]
          refine pure_ (i := 18) (oi := ?o114) (v := ?v114) #[true, true, true, true, true, true, true, true, true, true, true, true, true, true, true, true, true, true, true, false] ?h114 rfl (by kernel_rfl) ?q114 (Or.inl ⟨?w114, ?y114⟩) rfl ?r114
          case h114 => (simp only [ga, gb, gc]; rfl)
          case q114 => exact fun _ _ _ h => h
          case w114 => rfl
          case y114 => (intro W; go_simp; first | done | with_reducible rfl)
          simp only [Act.put, zd, ze, zf]
          refine pure_ (i := 19) (oi := ?o115) (v := ?v115) #[true, true, true, true, true, true, true, true, true, true, true, true, true, true, true, true, true, true, true, true] ?h115 rfl (by kernel_rfl) ?q115 (Or.inl ⟨?w115, ?y115⟩) rfl ?r115
          case h115 => (simp only [ga, gb, gc]; rfl)
          case q115 => exact fun _ _ _ h => h
          case w115 => rfl
          case y115 => (intro W; go_simp; first | done | with_reducible rfl)
          simp only [Act.put, zd, ze, zf]
          refine done_ (by kernel_rfl) ?_
          go_wp2_with fail
          go_meet
          case rel => exact ⟨gA, _, gC, _, rfl, rfl, hq, hr, hHeld⟩
end Go.Proofs.YtlfmgdpbjapdjaaGreatFmtBesafter
