/- Part 14 of the walk: ExK ExL ExM ExN ExQ. -/
import Derived.Test.YtgbpglojbgicjaaGreatFmtPart12
import Derived.Test.YtgbpglojbgicjaaGreatFmtPart05
import Derived.Test.YtgbpglojbgicjaaGreatFmtPart03
import Derived.Laws.EntriesVeiled
import Derived.Test.YtgbpglojbgicjaaGreatFmtPart13
import Derived.Test.YtgbpglojbgicjaaGreatFmtPart10
namespace Go.Proofs.YtgbpglojbgicjaaGreatFmt
open Go.RowKit Go.Proofs.YtgbpglojbgicjaaGreatFmtW.PrintWords Go.Proofs.YtgbpglojbgicjaaGreatFmtW.PrintLast
theorem Put.keep_ {w W : World} {g g2 : Nat} {z : Int} (h : Put w W g none z) {cs : Array Value} (hc : cs = #[.bool false, .slice none 0 0]) (hz : w.heap[g2]? = some (.cells cs 70 (0, 0))) (hne : g2 ≠ g) : IsInt W g2 none 0 := by
  subst hc
  obtain ⟨o', h1, h2, h3⟩ := h
  have e := h2.kept _ (blk_lt hz) (by rintro (h | h); exact hne h; cases h)
  exact ⟨_, e.trans hz, .nil⟩
theorem plus_end (w w6 : World) (R S : Nat) {wA : World} (g g1 : Nat) (zr e1 : Int) (ho : Only w6 wA (fun _ => False)) (hN : New w6.heap.size wA g zr) (ho6 : Only w w6 (fun _ => False))
    (hR : w6.heap[R]? = some (.cells #[.pointer none, .int .i64 0] 41 (0, 0))) (hS : w6.heap[S]? = some (.cells #[.pointer (some ⟨g1, 0, none⟩), .int .i64 e1] 41 (0, 0))) (hR0 : w.heap.size ≤ R) (hS0 : w.heap.size ≤ S) (hne : R ≠ S) :
    ∃ w7, w7 = (wA.setCell ⟨S, 0, none⟩ (.pointer (some ⟨g, 0, none⟩))).setCell ⟨S, 1, none⟩ (.int .i64 e1) ∧ w7.cell? ⟨S, 0, none⟩ = some (.pointer (some ⟨g, 0, none⟩)) ∧
    w7.cell? ⟨S, 1, none⟩ = some (.int .i64 e1) ∧
    w7.frozen? ⟨R, 0, none⟩ = false ∧
    w7.frozen? ⟨R, 1, none⟩ = false ∧ w7.cell? ⟨R, 0, none⟩ = some (.pointer none) ∧ w7.cell? ⟨R, 1, none⟩ = some (.int .i64 0) ∧
    ((w7.setCell ⟨R, 0, none⟩ (.pointer (some ⟨g, 0, none⟩))).setCell ⟨R, 1, none⟩ (.int .i64 e1)).heap[R]? = some (.cells #[.pointer (some ⟨g, 0, none⟩), .int .i64 e1] 41 (0, 0)) ∧
    New w.heap.size ((w7.setCell ⟨R, 0, none⟩ (.pointer (some ⟨g, 0, none⟩))).setCell ⟨R, 1, none⟩ (.int .i64 e1)) g zr ∧
    Only w ((w7.setCell ⟨R, 0, none⟩ (.pointer (some ⟨g, 0, none⟩))).setCell ⟨R, 1, none⟩ (.int .i64 e1)) (fun _ => False) := by
  have hSA := (ho.kept _ (blk_lt hS) (fun h => h)).trans hS
  have hRA := (ho.kept _ (blk_lt hR) (fun h => h)).trans hR
  have s1 := blk_set (blk_set hSA 0 (.pointer (some ⟨g, 0, none⟩))) 1 (.int .i64 e1)
  have r1 := blk_far (blk_far hRA (p := ⟨S, 0, none⟩) hne (.pointer (some ⟨g, 0, none⟩))) (p := ⟨S, 1, none⟩) hne (.int .i64 e1)
  have r2 := blk_set (blk_set r1 0 (.pointer (some ⟨g, 0, none⟩))) 1 (.int .i64 e1)
  have s2 : ((wA.setCell ⟨S, 0, none⟩ (.pointer (some ⟨g, 0, none⟩))).setCell ⟨S, 1, none⟩ (.int .i64 e1)).heap[S]? = some (.cells #[.pointer (some ⟨g, 0, none⟩), .int .i64 e1] 41 (0, 0)) := by simpa using s1
  have hoE : Only wA ((((wA.setCell ⟨S, 0, none⟩ (.pointer (some ⟨g, 0, none⟩))).setCell ⟨S, 1, none⟩ (.int .i64 e1)).setCell ⟨R, 0, none⟩ (.pointer (some ⟨g, 0, none⟩))).setCell ⟨R, 1, none⟩ (.int .i64 e1)) (fun k => k = S ∨ k = R) :=
    (((((Only.refl wA (fun k => k = S ∨ k = R)).set (.inr (.inl rfl)) _).set (.inr (.inl rfl)) _).set (.inr (.inr rfl)) _).set (.inr (.inr rfl)) _)
  have l1 := blk_lt hS
  have l2 := blk_lt hR
  have l3 := ho6.base.size
  refine ⟨_, rfl, blk_cell s2 0, blk_cell s2 1, blk_frozen r1 0, blk_frozen r1 1, blk_cell r1 0, blk_cell r1 1, by simpa using r2, hN.far l3 hoE ?_, (ho6.trans ho).step hoE ?_⟩
  · rintro k (rfl | rfl) <;> assumption
  · rintro k hk (rfl | rfl) <;> omega
set_option linter.unusedSimpArgs false in
set_option maxRecDepth 100000 in
set_option maxHeartbeats 16000000 in
theorem plus2_up (b g1 g2 : Nat) (o1 o2 : Option Nat) (z1 z2 e1 e2 zs zr : Int) (w : World) (hb : w.heap[b]? = some (.cells #[.pointer (some ⟨g1, 0, none⟩), .int .i64 e1, .pointer (some ⟨g2, 0, none⟩), .int .i64 e2] 41 (0, 0)))
    (h1 : IsInt w g1 o1 z1) (h2 : IsInt w g2 o2 z2) (n1 : z1 ≠ 0) (n2 : z2 ≠ 0) (he : e1 ≤ e2) (hb1 : -4611686018427387904 ≤ e1) (hb2 : e2 ≤ 4611686018427387904)
    (HL : ∀ (W : World) (gz : Nat), Only w W (fun _ => False) → IsInt W gz none 0 → w.heap.size ≤ gz → Calls Tryz.prog 46 #[.pointer (some ⟨gz, 0, none⟩), .pointer (some ⟨g2, 0, none⟩), .int .u64 (e2 - e1)] W fun e W' => e = .returned (.pointer (some ⟨gz, 0, none⟩)) ∧ Put W W' gz none zs)
    (HA : ∀ (W : World) (gz gy : Nat) (oy : Option Nat), Only w W (fun _ => False) → IsInt W gz none 0 → IsInt W gy oy zs → gz ≠ gy → Calls Tryz.prog 66 #[.pointer (some ⟨gz, 0, none⟩), .pointer (some ⟨g1, 0, none⟩), .pointer (some ⟨gy, 0, none⟩)] W fun e W' => e = .returned (.pointer (some ⟨gz, 0, none⟩)) ∧ Put W W' gz none zr) :
    Calls Tryz.prog 42 #[.slice (some ⟨b, 0, none⟩) 2 2] w fun en w' => ∃ g, en = .returned (.agg #[.pointer (some ⟨g, 0, none⟩), .int .i64 e1]) ∧ New w.heap.size w' g zr ∧ Only w w' (fun _ => False) := by
  have hlt : b < w.heap.size := blk_lt hb
  have c0 : w.cell? ⟨b, 0, none⟩ = some (.pointer (some ⟨g1, 0, none⟩)) := blk_cell hb 0
  have c1 : w.cell? ⟨b, 1, none⟩ = some (.int .i64 e1) := blk_cell hb 1
  have hs1 : (z1.sign == 0) = false := by rw [beq_eq_false_iff_ne]; intro h; exact n1 (Int.sign_eq_zero_iff_zero.1 h)
  have hs2 : (z2.sign == 0) = false := by rw [beq_eq_false_iff_ne]; intro h; exact n2 (Int.sign_eq_zero_iff_zero.1 h)
  have HLL := Lib.hid HL
  have HAA := Lib.hid HA
  have HN := Lib.hid (And.intro n1 n2)
  have HB := Lib.hid hb
  clear HL HA n1 n2 hb
  go_enter Tryz.func42, Tryz.ntmps42
  go_wp2_with fail
  obtain ⟨k1, k2, k3⟩ := heap_three w (.cells #[.pointer none, .int .i64 0] 41) (.cells #[.bool false, .slice none 0 0] 70) (.cells #[.pointer (some ⟨w.heap.size + 1, 0, none⟩), .int .i64 0] 41)
  have ho3 : Only w (((w.alloc (.cells #[.pointer none, .int .i64 0] 41)).alloc (.cells #[.bool false, .slice none 0 0] 70)).alloc (.cells #[.pointer (some ⟨w.heap.size + 1, 0, none⟩), .int .i64 0] 41)) (fun _ => False) := (((Only.refl w _).alloc _).alloc _).alloc _
  refine wp_loop_rounds 3 ?_
  rw [rounds_succ]
  generalize hw3 : (((w.alloc (.cells #[.pointer none, .int .i64 0] 41)).alloc (.cells #[.bool false, .slice none 0 0] 70)).alloc (.cells #[.pointer (some ⟨w.heap.size + 1, 0, none⟩), .int .i64 0] 41)) = w3 at *
  clear hw3 c0 c1
  rw [show w.heap.size + 2 = w.heap.size + 1 + 1 from rfl] at k3
  have hb3 := (ho3.kept _ hlt (fun h => h)).trans HB.out
  have hz3 : IsInt w3 (w.heap.size + 1) none 0 := ⟨_, k2, .nil⟩
  have hi1 := h1.only ho3 (fun h => h) (fun _ _ h => h)
  have c0 : w3.cell? ⟨b, 0, none⟩ = some (.pointer (some ⟨g1, 0, none⟩)) := blk_cell hb3 0
  have c1 : w3.cell? ⟨b, 1, none⟩ = some (.int .i64 e1) := blk_cell hb3 1
  have s0 : w3.cell? ⟨w.heap.size + 1 + 1, 0, none⟩ = some (.pointer (some ⟨w.heap.size + 1, 0, none⟩)) := blk_cell k3 0
  have s1 : w3.cell? ⟨w.heap.size + 1 + 1, 1, none⟩ = some (.int .i64 0) := blk_cell k3 1
  have fs0 := blk_frozen k3 0
  have fs1 := blk_frozen k3 1
  have hsz3 : w.heap.size + 1 + 1 < w3.heap.size := blk_lt k3
  have m1 : ¬ w.heap.size + 1 + 1 = w3.heap.size := by omega
  have m2 : ¬ b = w3.heap.size := by omega
  go_wp2_with fail
  refine (sign_int g1 o1 z1 _ (hi1.only ((Only.refl w3 (fun _ => False)).alloc _) (fun h => h) (fun _ _ h => h))).mono ?_
  rintro en w4 ⟨rfl, rfl⟩
  go_wp2_with fail
  refine (sign_nil (w.heap.size + 1) none 0 _ (hz3.only ((Only.refl w3 (fun _ => False)).alloc _) (fun h => h) (fun _ _ h => h)) rfl).mono ?_
  rintro en w4 ⟨rfl, rfl⟩
  go_wp2_with fail
  rw [rounds_succ]
  have hS4 := blk_set (blk_set k3 0 (.pointer (some ⟨g1, 0, none⟩))) 1 (.int .i64 e1)
  have ho4 := (ho3.set (p := ⟨w.heap.size + 1 + 1, 0, none⟩) (.inl (by show w.heap.size ≤ w.heap.size + 1 + 1; omega)) (.pointer (some ⟨g1, 0, none⟩))).set (p := ⟨w.heap.size + 1 + 1, 1, none⟩) (.inl (by show w.heap.size ≤ w.heap.size + 1 + 1; omega)) (.int .i64 e1)
  have hR4 := blk_far (blk_far k1 (p := ⟨w.heap.size + 1 + 1, 0, none⟩) (by show w.heap.size ≠ w.heap.size + 1 + 1; omega) (.pointer (some ⟨g1, 0, none⟩))) (p := ⟨w.heap.size + 1 + 1, 1, none⟩) (by show w.heap.size ≠ w.heap.size + 1 + 1; omega) (.int .i64 e1)
  generalize (w3.setCell ⟨w.heap.size + 1 + 1, 0, none⟩ (.pointer (some ⟨g1, 0, none⟩))).setCell ⟨w.heap.size + 1 + 1, 1, none⟩ (.int .i64 e1) = w4 at *
  have hS4' : w4.heap[w.heap.size + 1 + 1]? = some (.cells #[.pointer (some ⟨g1, 0, none⟩), .int .i64 e1] 41 (0, 0)) := by simpa using hS4
  have hS5 := blk_alloc hS4' (.cells #[.pointer (some ⟨g1, 0, none⟩), .int .i64 e1] 41)
  have hR5 := blk_alloc hR4 (.cells #[.pointer (some ⟨g1, 0, none⟩), .int .i64 e1] 41)
  have ho5 := ho4.alloc (.cells #[.pointer (some ⟨g1, 0, none⟩), .int .i64 e1] 41)
  clear c0 c1 s0 s1 fs0 fs1 hb3 hz3 hi1 k1 k2 k3 ho3 hS4 hR4 ho4 hS4' hsz3 m1 m2
  generalize w4.alloc (.cells #[.pointer (some ⟨g1, 0, none⟩), .int .i64 e1] 41) = w5 at *
  clear w4
  have hb5 := (ho5.kept _ hlt (fun h => h)).trans HB.out
  have hi15 := h1.only ho5 (fun h => h) (fun _ _ h => h)
  have hi25 := h2.only ho5 (fun h => h) (fun _ _ h => h)
  have c2 : w5.cell? ⟨b, 2, none⟩ = some (.pointer (some ⟨g2, 0, none⟩)) := blk_cell hb5 2
  have c3 : w5.cell? ⟨b, 3, none⟩ = some (.int .i64 e2) := blk_cell hb5 3
  have s0 : w5.cell? ⟨w.heap.size + 1 + 1, 0, none⟩ = some (.pointer (some ⟨g1, 0, none⟩)) := blk_cell hS5 0
  have s1 : w5.cell? ⟨w.heap.size + 1 + 1, 1, none⟩ = some (.int .i64 e1) := blk_cell hS5 1
  have hsz5 : w.heap.size + 1 + 1 < w5.heap.size := blk_lt hS5
  have m1 : ¬ w.heap.size + 1 + 1 = w5.heap.size := by omega
  have m2 : ¬ b = w5.heap.size := by omega
  go_wp2_with fail
  have hoB : Only w5 (w5.alloc (.cells #[.pointer (some ⟨g2, 0, none⟩), .int .i64 e2] 41)) (fun _ => False) := (Only.refl w5 _).alloc _
  have hX6 : (w5.alloc (.cells #[.pointer (some ⟨g2, 0, none⟩), .int .i64 e2] 41)).heap[w5.heap.size]? = some (.cells #[.pointer (some ⟨g2, 0, none⟩), .int .i64 e2] 41 (0, 0)) := by simpa using heap_alloc_new w5 (.cells #[.pointer (some ⟨g2, 0, none⟩), .int .i64 e2] 41)
  refine (sign_int g2 o2 z2 _ (hi25.only hoB (fun h => h) (fun _ _ h => h))).mono ?_
  rintro en w6 ⟨rfl, rfl⟩
  go_wp2_with fail
  refine (sign_int g1 o1 z1 _ (hi15.only hoB (fun h => h) (fun _ _ h => h))).mono ?_
  rintro en w6 ⟨rfl, rfl⟩
  have hS6 := blk_alloc hS5 (.cells #[.pointer (some ⟨g2, 0, none⟩), .int .i64 e2] 41)
  have hR6 := blk_alloc hR5 (.cells #[.pointer (some ⟨g2, 0, none⟩), .int .i64 e2] 41)
  have ho6 := ho5.trans hoB
  clear c2 c3 s0 s1 hb5 hi15 hi25 hS5 hR5 ho5 m1 m2 hoB
  generalize hX : w5.heap.size = X at *
  generalize w5.alloc (.cells #[.pointer (some ⟨g2, 0, none⟩), .int .i64 e2] 41) = w6 at *
  clear hX w5
  have s0 : w6.cell? ⟨w.heap.size + 1 + 1, 0, none⟩ = some (.pointer (some ⟨g1, 0, none⟩)) := blk_cell hS6 0
  have s1 : w6.cell? ⟨w.heap.size + 1 + 1, 1, none⟩ = some (.int .i64 e1) := blk_cell hS6 1
  have x0 : w6.cell? ⟨X, 0, none⟩ = some (.pointer (some ⟨g2, 0, none⟩)) := blk_cell hX6 0
  have x1 : w6.cell? ⟨X, 1, none⟩ = some (.int .i64 e2) := blk_cell hX6 1
  have fs0 := blk_frozen hS6 0
  have fs1 := blk_frozen hS6 1
  have hX6l : X < w6.heap.size := blk_lt hX6
  go_wp2_with fail
  have K : ∀ W, Only w6 W (fun _ => False) → W.cell? ⟨w.heap.size + 1 + 1, 0, none⟩ = some (.pointer (some ⟨g1, 0, none⟩)) ∧ W.cell? ⟨w.heap.size + 1 + 1, 1, none⟩ = some (.int .i64 e1) ∧ W.cell? ⟨X, 0, none⟩ = some (.pointer (some ⟨g2, 0, none⟩)) ∧ W.cell? ⟨X, 1, none⟩ = some (.int .i64 e2) ∧ W.frozen? ⟨w.heap.size + 1 + 1, 0, none⟩ = false ∧ W.frozen? ⟨w.heap.size + 1 + 1, 1, none⟩ = false ∧ (¬ w.heap.size + 1 + 1 = W.heap.size) ∧ (¬ X = W.heap.size) ∧ W.heap[w.heap.size + 1 + 1]? = some (.cells #[.pointer (some ⟨g1, 0, none⟩), .int .i64 e1] 41 (0, 0)) ∧ w6.heap.size ≤ W.heap.size := fun W h => by
    have h1 := (h.kept _ (blk_lt hS6) (fun h => h)).trans hS6
    have h2 := (h.kept _ (blk_lt hX6) (fun h => h)).trans hX6
    exact ⟨blk_cell h1 0, blk_cell h1 1, blk_cell h2 0, blk_cell h2 1, blk_frozen h1 0, blk_frozen h1 1, Nat.ne_of_lt (blk_lt h1), Nat.ne_of_lt (blk_lt h2), h1, h.base.size⟩
  have HK := Lib.hid K
  clear K
  have hsz6 : w.heap.size + 1 + 1 < w6.heap.size := blk_lt hS6
  have HSZ := Lib.hid (And.intro hsz6 hX6l)
  have m1 : ¬ w.heap.size + 1 + 1 = w6.heap.size := by omega
  have m2 : ¬ X = w6.heap.size := by omega
  have m3 : ¬ w.heap.size + 1 + 1 = w6.heap.size + 1 := by omega
  have m4 : ¬ X = w6.heap.size + 1 := by omega
  clear hsz6 hX6l
  have ho6a := ho6.alloc (.cells #[.bool false, .slice none 0 0] 70)
  have hoA : Only w6 (w6.alloc (.cells #[.bool false, .slice none 0 0] 70)) (fun _ => False) := (Only.refl w6 _).alloc _
  have hoB : Only w6 ((w6.alloc (.cells #[.bool false, .slice none 0 0] 70)).alloc (.cells #[.bool false, .slice none 0 0] 70)) (fun _ => False) := ((Only.refl w6 _).alloc _).alloc _
  obtain ⟨as0, as1, ax0, ax1, af0, af1, -, -, -, -⟩ := HK.out _ hoA
  obtain ⟨bs0, bs1, bx0, bx1, bf0, bf1, -, -, -, -⟩ := HK.out _ hoB
  have hA1 : (w6.alloc (.cells #[.bool false, .slice none 0 0] 70)).heap[w6.heap.size]? = some (.cells #[.bool false, .slice none 0 0] 70 (0, 0)) := by simpa using heap_alloc_new w6 (.cells #[.bool false, .slice none 0 0] 70)
  have hB1 := heap_two' w6 (.cells #[.bool false, .slice none 0 0] 70) (.cells #[.bool false, .slice none 0 0] 70)
  have hB2 := heap_two w6 (.cells #[.bool false, .slice none 0 0] 70) (.cells #[.bool false, .slice none 0 0] 70)
  have hwr : IntKind.u64.wrap (IntKind.i64.wrap (e2 - e1)) = e2 - e1 := by rw [IntKind.wrap_u64, IntKind.wrap_i64]; omega
  have HLW := HLL.out
  rw [← hwr] at HLW
  have HLL := Lib.hid HLW
  clear HLW hwr
  refine start_ (S := (fun W => Only w6 W (fun _ => False))) (ds := [17]) #[false, false, false, false, false, false, false, false, false, false, false, false, false, false, false, false, false, false] (by kernel_rfl) rfl rfl ?_ (fun hHeld => ?_)
  · exact (Only.refl w6 _).drew
  refine wpAnyLast_take (i := 1) (oi := ?o0) (v := ?v0) ?h0 (by kernel_rfl) (by kernel_rfl) (by kernel_rfl) (by kernel_rfl) (by kernel_rfl) ?q0 (Or.inl ⟨?w0, ?y0⟩) hHeld ?r0
  case h0 => (simp only [List.getElem?_toArray, List.getElem?_cons_succ, List.getElem?_cons_zero]; rfl)
  case q0 => exact fun _ _ _ h => h
  case w0 => rfl
  case y0 => (intro W hSw; obtain ⟨q0, q1, q2, q3, q4, q5, q6, q7, q8, q9⟩ := HK.out _ hSw; go_simp; first | done | with_reducible rfl)
  simp only [Act.put, List.setIfInBounds_toArray, List.set_cons_zero, List.set_cons_succ]
  refine wpAnyLast_take (i := 2) (oi := ?o1) (v := ?v1) ?h1 (by kernel_rfl) (by kernel_rfl) (by kernel_rfl) (by kernel_rfl) (by kernel_rfl) ?q1 (Or.inl ⟨?w1, ?y1⟩) hHeld ?r1
  case h1 => (simp only [List.getElem?_toArray, List.getElem?_cons_succ, List.getElem?_cons_zero]; rfl)
  case q1 => exact fun _ _ _ h => h
  case w1 => rfl
  case y1 => (intro W hSw; obtain ⟨q0, q1, q2, q3, q4, q5, q6, q7, q8, q9⟩ := HK.out _ hSw; go_simp; first | done | with_reducible rfl)
  simp only [Act.put, List.setIfInBounds_toArray, List.set_cons_zero, List.set_cons_succ]
  refine wpAnyLast_take (i := 4) (oi := ?o2) (v := ?v2) ?h2 (by kernel_rfl) (by kernel_rfl) (by kernel_rfl) (by kernel_rfl) (by kernel_rfl) ?q2 (Or.inl ⟨?w2, ?y2⟩) hHeld ?r2
  case h2 => (simp only [List.getElem?_toArray, List.getElem?_cons_succ, List.getElem?_cons_zero]; rfl)
  case q2 => exact fun _ _ _ h => h
  case w2 => rfl
  case y2 => (intro W hSw; obtain ⟨q0, q1, q2, q3, q4, q5, q6, q7, q8, q9⟩ := HK.out _ hSw; go_simp; first | done | with_reducible rfl)
  simp only [Act.put, List.setIfInBounds_toArray, List.set_cons_zero, List.set_cons_succ]
  refine wpAnyLast_take (i := 5) (oi := ?o3) (v := ?v3) ?h3 (by kernel_rfl) (by kernel_rfl) (by kernel_rfl) (by kernel_rfl) (by kernel_rfl) ?q3 (Or.inl ⟨?w3, ?y3⟩) hHeld ?r3
  case h3 => (simp only [List.getElem?_toArray, List.getElem?_cons_succ, List.getElem?_cons_zero]; rfl)
  case q3 => exact fun _ _ _ h => h
  case w3 => rfl
  case y3 => (intro W hSw; obtain ⟨q0, q1, q2, q3, q4, q5, q6, q7, q8, q9⟩ := HK.out _ hSw; go_simp; first | done | with_reducible rfl)
  simp only [Act.put, List.setIfInBounds_toArray, List.set_cons_zero, List.set_cons_succ]
  refine wpAnyLast_take (i := 6) (oi := ?o4) (v := ?v4) ?h4 (by kernel_rfl) (by kernel_rfl) (by kernel_rfl) (by kernel_rfl) (by kernel_rfl) ?q4 (Or.inl ⟨?w4, ?y4⟩) hHeld ?r4
  case h4 => (simp only [List.getElem?_toArray, List.getElem?_cons_succ, List.getElem?_cons_zero]; rfl)
  case q4 => exact fun _ _ _ h => h
  case w4 => rfl
  case y4 => (intro W hSw; obtain ⟨q0, q1, q2, q3, q4, q5, q6, q7, q8, q9⟩ := HK.out _ hSw; go_simp; first | done | with_reducible rfl)
  simp only [Act.put, List.setIfInBounds_toArray, List.set_cons_zero, List.set_cons_succ]
  refine wpAnyLast_take (i := 7) (oi := ?o5) (v := ?v5) ?h5 (by kernel_rfl) (by kernel_rfl) (by kernel_rfl) (by kernel_rfl) (by kernel_rfl) ?q5 (Or.inl ⟨?w5, ?y5⟩) hHeld ?r5
  case h5 => (simp only [List.getElem?_toArray, List.getElem?_cons_succ, List.getElem?_cons_zero]; rfl)
  case q5 => exact fun _ _ _ h => h
  case w5 => rfl
  case y5 => (intro W hSw; obtain ⟨q0, q1, q2, q3, q4, q5, q6, q7, q8, q9⟩ := HK.out _ hSw; go_simp; first | done | with_reducible rfl)
  simp only [Act.put, List.setIfInBounds_toArray, List.set_cons_zero, List.set_cons_succ]
  refine wpAnyLast_take (i := 8) (oi := ?o6) (v := ?v6) ?h6 (by kernel_rfl) (by kernel_rfl) (by kernel_rfl) (by kernel_rfl) (by kernel_rfl) ?q6 (Or.inl ⟨?w6, ?y6⟩) hHeld ?r6
  case h6 => (simp only [List.getElem?_toArray, List.getElem?_cons_succ, List.getElem?_cons_zero]; rfl)
  case q6 => exact fun _ _ _ h => h
  case w6 => rfl
  case y6 => (intro W hSw; obtain ⟨q0, q1, q2, q3, q4, q5, q6, q7, q8, q9⟩ := HK.out _ hSw; go_simp; first | done | with_reducible rfl)
  simp only [Act.put, List.setIfInBounds_toArray, List.set_cons_zero, List.set_cons_succ]
  refine wpAnyLast_take (i := 9) (oi := ?o7) (v := ?v7) ?h7 (by kernel_rfl) (by kernel_rfl) (by kernel_rfl) (by kernel_rfl) (by kernel_rfl) ?q7 (Or.inl ⟨?w7, ?y7⟩) hHeld ?r7
  case h7 => (simp only [List.getElem?_toArray, List.getElem?_cons_succ, List.getElem?_cons_zero]; rfl)
  case q7 => exact fun _ _ _ h => h
  case w7 => rfl
  case y7 => (intro W hSw; obtain ⟨q0, q1, q2, q3, q4, q5, q6, q7, q8, q9⟩ := HK.out _ hSw; go_simp; first | done | with_reducible rfl)
  simp only [Act.put, List.setIfInBounds_toArray, List.set_cons_zero, List.set_cons_succ]
  refine wpAnyLast_take (i := 10) (oi := ?o8) (v := ?v8) ?h8 (by kernel_rfl) (by kernel_rfl) (by kernel_rfl) (by kernel_rfl) (by kernel_rfl) ?q8 (Or.inl ⟨?w8, ?y8⟩) hHeld ?r8
  case h8 => (simp only [List.getElem?_toArray, List.getElem?_cons_succ, List.getElem?_cons_zero]; rfl)
  case q8 => exact fun _ _ _ h => h
  case w8 => rfl
  case y8 => (intro W hSw; obtain ⟨q0, q1, q2, q3, q4, q5, q6, q7, q8, q9⟩ := HK.out _ hSw; go_simp; first | done | with_reducible rfl)
  simp only [Act.put, List.setIfInBounds_toArray, List.set_cons_zero, List.set_cons_succ]
  refine wpAnyLast_take (i := 11) (oi := ?o9) (v := ?v9) ?h9 (by kernel_rfl) (by kernel_rfl) (by kernel_rfl) (by kernel_rfl) (by kernel_rfl) ?q9 (Or.inl ⟨?w9, ?y9⟩) hHeld ?r9
  case h9 => (simp only [List.getElem?_toArray, List.getElem?_cons_succ, List.getElem?_cons_zero]; rfl)
  case q9 => exact fun _ _ _ h => h
  case w9 => rfl
  case y9 => (intro W hSw; obtain ⟨q0, q1, q2, q3, q4, q5, q6, q7, q8, q9⟩ := HK.out _ hSw; go_simp; first | done | with_reducible rfl)
  simp only [Act.put, List.setIfInBounds_toArray, List.set_cons_zero, List.set_cons_succ]
  refine wpAnyLast_take (i := 14) (oi := ?o10) (v := ?v10) ?h10 (by kernel_rfl) (by kernel_rfl) (by kernel_rfl) (by kernel_rfl) (by kernel_rfl) ?q10 (Or.inl ⟨?w10, ?y10⟩) hHeld ?r10
  case h10 => (simp only [List.getElem?_toArray, List.getElem?_cons_succ, List.getElem?_cons_zero]; rfl)
  case q10 => exact fun _ _ _ h => h
  case w10 => rfl
  case y10 => (intro W hSw; obtain ⟨q0, q1, q2, q3, q4, q5, q6, q7, q8, q9⟩ := HK.out _ hSw; go_simp; first | done | with_reducible rfl)
  simp only [Act.put, List.setIfInBounds_toArray, List.set_cons_zero, List.set_cons_succ]
  refine wpAnyLast_take (i := 15) (oi := ?o11) (v := ?v11) ?h11 (by kernel_rfl) (by kernel_rfl) (by kernel_rfl) (by kernel_rfl) (by kernel_rfl) ?q11 (Or.inl ⟨?w11, ?y11⟩) hHeld ?r11
  case h11 => (simp only [List.getElem?_toArray, List.getElem?_cons_succ, List.getElem?_cons_zero]; rfl)
  case q11 => exact fun _ _ _ h => h
  case w11 => rfl
  case y11 => (intro W hSw; obtain ⟨q0, q1, q2, q3, q4, q5, q6, q7, q8, q9⟩ := HK.out _ hSw; go_simp; first | done | with_reducible rfl)
  simp only [Act.put, List.setIfInBounds_toArray, List.set_cons_zero, List.set_cons_succ]
  refine wpAnyLast_ready (rs := [0, 3]) (by kernel_rfl) (by simp) ?_
  refine AllReadyL.cons (o := ?o12) ?h12 (by simp) (fun K hK => ?s12) ?m12
  case h12 => (simp only [List.getElem?_toArray, List.getElem?_cons_succ, List.getElem?_cons_zero]; rfl)
  case s12 =>
    go_simp
    refine hK.out _ _ (hHeld.alloc _) (fun hHeld => ?_)
    clear hK K
    simp only [Act.put, List.setIfInBounds_toArray, List.set_cons_zero, List.set_cons_succ]
    refine wpAnyLast_ready (rs := [3]) (by kernel_rfl) (by simp) ?_
    refine AllReadyL.cons (o := ?o13) ?h13 (by simp) (fun K hK => ?s13) ?m13
    case h13 => (simp only [List.getElem?_toArray, List.getElem?_cons_succ, List.getElem?_cons_zero]; rfl)
    case m13 => exact AllReadyL.nil
    go_simp
    refine hK.out _ _ (hHeld.alloc _) (fun hHeld => ?_)
    clear hK K
    simp only [Act.put, List.setIfInBounds_toArray, List.set_cons_zero, List.set_cons_succ]
    refine wpAnyLast_ready (rs := [12]) (by kernel_rfl) (by simp) ?_
    refine AllReadyL.cons (o := ?o14) ?h14 (by simp) (fun K hK => ?s14) ?m14
    case h14 => (simp only [List.getElem?_toArray, List.getElem?_cons_succ, List.getElem?_cons_zero]; rfl)
    case m14 => exact AllReadyL.nil
    go_simp
    go_at_call 46
    have hsz := HSZ.out
    refine (HLL.out _ _ (ho6.trans hHeld) ?hi (by omega)).mono ?_
    case hi => first | exact ⟨_, blk_drew hA1, .nil⟩ | exact ⟨_, blk_drew hB1, .nil⟩ | exact ⟨_, blk_drew hB2, .nil⟩
    rintro en wL ⟨rfl, hP⟩
    obtain ⟨hNL, hoL⟩ := New.put (w0 := w6) rfl hHeld (by first | exact Nat.le_refl _ | exact Nat.le_succ _) (fun b h => by cases h) hP
    obtain ⟨oL, hLI, hLg, hLo⟩ := hNL
    first
      | have hI48 : IsInt wL w6.heap.size none 0 := hP.keep_ rfl (blk_drew hB1) (by omega)
      | have hI48 : IsInt wL (w6.heap.size + 1) none 0 := hP.keep_ rfl (blk_drew hB2) (by omega)
      | skip
    refine hK.out _ _ (hoL) (fun hHeld => ?_)
    clear hK K
    simp only [Act.put, List.setIfInBounds_toArray, List.set_cons_zero, List.set_cons_succ]
    refine wpAnyLast_ready (rs := [13]) (by kernel_rfl) (by simp) ?_
    refine AllReadyL.cons (o := ?o15) ?h15 (by simp) (fun K hK => ?s15) ?m15
    case h15 => (simp only [List.getElem?_toArray, List.getElem?_cons_succ, List.getElem?_cons_zero]; rfl)
    case m15 => exact AllReadyL.nil
    go_simp
    go_at_call 66
    refine (HAA.out _ _ _ oL (ho6.trans hHeld) ?hi ?hl ?hn).mono ?_
    case hi => first | exact hI48 | exact ⟨_, (show _ = _ by simpa using heap_alloc_new wL (.cells #[.bool false, .slice none 0 0] 70)), .nil⟩
    case hl => first | exact hLI | exact hLI.only ((Only.refl wL (fun _ => False)).alloc _) (fun h => h) (fun _ _ h => h)
    case hn => (have := hLI.lt; omega)
    rintro en wA ⟨rfl, hPA⟩
    obtain ⟨hNA, hoA6⟩ := New.put (w0 := w6) rfl hHeld (by first | exact Nat.le_refl _ | exact Nat.le_succ _ | exact hoL.base.size) (fun b h => by cases h) hPA
    refine hK.out _ _ (hoA6) (fun hHeld => ?_)
    clear hK K
    simp only [Act.put, List.setIfInBounds_toArray, List.set_cons_zero, List.set_cons_succ]
    refine wpAnyLast_take (i := 16) (oi := ?o16) (v := ?v16) ?h16 (by kernel_rfl) (by kernel_rfl) (by kernel_rfl) (by kernel_rfl) (by kernel_rfl) ?q16 (Or.inl ⟨?w16, ?y16⟩) hHeld ?r16
    case h16 => (simp only [List.getElem?_toArray, List.getElem?_cons_succ, List.getElem?_cons_zero]; rfl)
    case q16 => exact fun _ _ _ h => h
    case w16 => rfl
    case y16 => (intro W hSw; obtain ⟨q0, q1, q2, q3, q4, q5, q6, q7, q8, q9⟩ := HK.out _ hSw; go_simp; first | done | with_reducible rfl)
    simp only [Act.put, List.setIfInBounds_toArray, List.set_cons_zero, List.set_cons_succ]
    refine wpAnyLast_ready (rs := [17]) (by kernel_rfl) (by simp) ?_
    refine AllReadyL.cons_last (o := ?o17) ?h17 (by simp) (fun K hK => ?s17) ?m17
    case h17 => (simp only [List.getElem?_toArray, List.getElem?_cons_succ, List.getElem?_cons_zero]; rfl)
    case m17 => exact AllReadyL.nil
    obtain ⟨q0, q1, q2, q3, q4, q5, q6, q7, q8, q9⟩ := HK.out _ hHeld; go_simp
    refine hK.out _ _ ?_
    clear hK K
    simp only [Act.put, List.setIfInBounds_toArray, List.set_cons_zero, List.set_cons_succ]
    refine done_ (by kernel_rfl) ?_
    obtain ⟨w7, h7, t0, t1, t2, t3, t2c, t3c, t4, t5, t6⟩ := plus_end w w6 w.heap.size (w.heap.size + 1 + 1) _ g1 zr e1 hoA6 hNA ho6 hR6 hS6 (Nat.le_refl _) (by omega) (by omega)
    rw [← h7]
    clear h7 s0 s1 x0 x1 fs0 fs1 as0 as1 ax0 ax1 af0 af1 bs0 bs1 bx0 bx1 bf0 bf1 m1 m2 m3 m4 hA1 hB1 hB2 HK HAA HSZ hP hPA hoL hLI hLg hLo ho6a hoA hoB hNA hoA6 hHeld hsz hS6 hX6 hR6 ho6
    go_wp2_with fail
    rw [rounds_succ]
    go_wp2_with fail
    refine bodyPost_ret (results_cell_row rfl _ _ w.heap.size 41 #[.pointer (some ⟨_, 0, none⟩), .int .i64 e1] (0, 0) _ rfl t4 Tryz.underlying41 rfl (by kernel_rfl)) rfl ?_
    exact ⟨_, rfl, t5, t6⟩
  refine AllReadyL.cons (o := ?o18) ?h18 (by simp) (fun K hK => ?s18) ?m18
  case h18 => (simp only [List.getElem?_toArray, List.getElem?_cons_succ, List.getElem?_cons_zero]; rfl)
  case m18 => exact AllReadyL.nil
  case s18 =>
    go_simp
    refine hK.out _ _ (hHeld.alloc _) (fun hHeld => ?_)
    clear hK K
    simp only [Act.put, List.setIfInBounds_toArray, List.set_cons_zero, List.set_cons_succ]
    refine wpAnyLast_ready (rs := [0, 12]) (by kernel_rfl) (by simp) ?_
    refine AllReadyL.cons (o := ?o19) ?h19 (by simp) (fun K hK => ?s19) ?m19
    case h19 => (simp only [List.getElem?_toArray, List.getElem?_cons_succ, List.getElem?_cons_zero]; rfl)
    case s19 =>
      go_simp
      refine hK.out _ _ (hHeld.alloc _) (fun hHeld => ?_)
      clear hK K
      simp only [Act.put, List.setIfInBounds_toArray, List.set_cons_zero, List.set_cons_succ]
      refine wpAnyLast_ready (rs := [12]) (by kernel_rfl) (by simp) ?_
      refine AllReadyL.cons (o := ?o20) ?h20 (by simp) (fun K hK => ?s20) ?m20
      case h20 => (simp only [List.getElem?_toArray, List.getElem?_cons_succ, List.getElem?_cons_zero]; rfl)
      case m20 => exact AllReadyL.nil
      go_simp
      go_at_call 46
      have hsz := HSZ.out
      refine (HLL.out _ _ (ho6.trans hHeld) ?hi (by omega)).mono ?_
      case hi => first | exact ⟨_, blk_drew hA1, .nil⟩ | exact ⟨_, blk_drew hB1, .nil⟩ | exact ⟨_, blk_drew hB2, .nil⟩
      rintro en wL ⟨rfl, hP⟩
      obtain ⟨hNL, hoL⟩ := New.put (w0 := w6) rfl hHeld (by first | exact Nat.le_refl _ | exact Nat.le_succ _) (fun b h => by cases h) hP
      obtain ⟨oL, hLI, hLg, hLo⟩ := hNL
      first
        | have hI48 : IsInt wL w6.heap.size none 0 := hP.keep_ rfl (blk_drew hB1) (by omega)
        | have hI48 : IsInt wL (w6.heap.size + 1) none 0 := hP.keep_ rfl (blk_drew hB2) (by omega)
        | skip
      refine hK.out _ _ (hoL) (fun hHeld => ?_)
      clear hK K
      simp only [Act.put, List.setIfInBounds_toArray, List.set_cons_zero, List.set_cons_succ]
      refine wpAnyLast_ready (rs := [13]) (by kernel_rfl) (by simp) ?_
      refine AllReadyL.cons (o := ?o21) ?h21 (by simp) (fun K hK => ?s21) ?m21
      case h21 => (simp only [List.getElem?_toArray, List.getElem?_cons_succ, List.getElem?_cons_zero]; rfl)
      case m21 => exact AllReadyL.nil
      go_simp
      go_at_call 66
      refine (HAA.out _ _ _ oL (ho6.trans hHeld) ?hi ?hl ?hn).mono ?_
      case hi => first | exact hI48 | exact ⟨_, (show _ = _ by simpa using heap_alloc_new wL (.cells #[.bool false, .slice none 0 0] 70)), .nil⟩
      case hl => first | exact hLI | exact hLI.only ((Only.refl wL (fun _ => False)).alloc _) (fun h => h) (fun _ _ h => h)
      case hn => (have := hLI.lt; omega)
      rintro en wA ⟨rfl, hPA⟩
      obtain ⟨hNA, hoA6⟩ := New.put (w0 := w6) rfl hHeld (by first | exact Nat.le_refl _ | exact Nat.le_succ _ | exact hoL.base.size) (fun b h => by cases h) hPA
      refine hK.out _ _ (hoA6) (fun hHeld => ?_)
      clear hK K
      simp only [Act.put, List.setIfInBounds_toArray, List.set_cons_zero, List.set_cons_succ]
      refine wpAnyLast_take (i := 16) (oi := ?o22) (v := ?v22) ?h22 (by kernel_rfl) (by kernel_rfl) (by kernel_rfl) (by kernel_rfl) (by kernel_rfl) ?q22 (Or.inl ⟨?w22, ?y22⟩) hHeld ?r22
      case h22 => (simp only [List.getElem?_toArray, List.getElem?_cons_succ, List.getElem?_cons_zero]; rfl)
      case q22 => exact fun _ _ _ h => h
      case w22 => rfl
      case y22 => (intro W hSw; obtain ⟨q0, q1, q2, q3, q4, q5, q6, q7, q8, q9⟩ := HK.out _ hSw; go_simp; first | done | with_reducible rfl)
      simp only [Act.put, List.setIfInBounds_toArray, List.set_cons_zero, List.set_cons_succ]
      refine wpAnyLast_ready (rs := [17]) (by kernel_rfl) (by simp) ?_
      refine AllReadyL.cons_last (o := ?o23) ?h23 (by simp) (fun K hK => ?s23) ?m23
      case h23 => (simp only [List.getElem?_toArray, List.getElem?_cons_succ, List.getElem?_cons_zero]; rfl)
      case m23 => exact AllReadyL.nil
      obtain ⟨q0, q1, q2, q3, q4, q5, q6, q7, q8, q9⟩ := HK.out _ hHeld; go_simp
      refine hK.out _ _ ?_
      clear hK K
      simp only [Act.put, List.setIfInBounds_toArray, List.set_cons_zero, List.set_cons_succ]
      refine done_ (by kernel_rfl) ?_
      obtain ⟨w7, h7, t0, t1, t2, t3, t2c, t3c, t4, t5, t6⟩ := plus_end w w6 w.heap.size (w.heap.size + 1 + 1) _ g1 zr e1 hoA6 hNA ho6 hR6 hS6 (Nat.le_refl _) (by omega) (by omega)
      rw [← h7]
      clear h7 s0 s1 x0 x1 fs0 fs1 as0 as1 ax0 ax1 af0 af1 bs0 bs1 bx0 bx1 bf0 bf1 m1 m2 m3 m4 hA1 hB1 hB2 HK HAA HSZ hP hPA hoL hLI hLg hLo ho6a hoA hoB hNA hoA6 hHeld hsz hS6 hX6 hR6 ho6
      go_wp2_with fail
      rw [rounds_succ]
      go_wp2_with fail
      refine bodyPost_ret (results_cell_row rfl _ _ w.heap.size 41 #[.pointer (some ⟨_, 0, none⟩), .int .i64 e1] (0, 0) _ rfl t4 Tryz.underlying41 rfl (by kernel_rfl)) rfl ?_
      exact ⟨_, rfl, t5, t6⟩
    refine AllReadyL.cons (o := ?o24) ?h24 (by simp) (fun K hK => ?s24) ?m24
    case h24 => (simp only [List.getElem?_toArray, List.getElem?_cons_succ, List.getElem?_cons_zero]; rfl)
    case m24 => exact AllReadyL.nil
    case s24 =>
      go_simp
      go_at_call 46
      have hsz := HSZ.out
      refine (HLL.out _ _ (ho6.trans hHeld) ?hi (by omega)).mono ?_
      case hi => first | exact ⟨_, blk_drew hA1, .nil⟩ | exact ⟨_, blk_drew hB1, .nil⟩ | exact ⟨_, blk_drew hB2, .nil⟩
      rintro en wL ⟨rfl, hP⟩
      obtain ⟨hNL, hoL⟩ := New.put (w0 := w6) rfl hHeld (by first | exact Nat.le_refl _ | exact Nat.le_succ _) (fun b h => by cases h) hP
      obtain ⟨oL, hLI, hLg, hLo⟩ := hNL
      first
        | have hI48 : IsInt wL w6.heap.size none 0 := hP.keep_ rfl (blk_drew hB1) (by omega)
        | have hI48 : IsInt wL (w6.heap.size + 1) none 0 := hP.keep_ rfl (blk_drew hB2) (by omega)
        | skip
      refine hK.out _ _ (hoL) (fun hHeld => ?_)
      clear hK K
      simp only [Act.put, List.setIfInBounds_toArray, List.set_cons_zero, List.set_cons_succ]
      refine wpAnyLast_ready (rs := [0]) (by kernel_rfl) (by simp) ?_
      refine AllReadyL.cons (o := ?o25) ?h25 (by simp) (fun K hK => ?s25) ?m25
      case h25 => (simp only [List.getElem?_toArray, List.getElem?_cons_succ, List.getElem?_cons_zero]; rfl)
      case m25 => exact AllReadyL.nil
      go_simp
      refine hK.out _ _ (hHeld.alloc _) (fun hHeld => ?_)
      clear hK K
      simp only [Act.put, List.setIfInBounds_toArray, List.set_cons_zero, List.set_cons_succ]
      refine wpAnyLast_ready (rs := [13]) (by kernel_rfl) (by simp) ?_
      refine AllReadyL.cons (o := ?o26) ?h26 (by simp) (fun K hK => ?s26) ?m26
      case h26 => (simp only [List.getElem?_toArray, List.getElem?_cons_succ, List.getElem?_cons_zero]; rfl)
      case m26 => exact AllReadyL.nil
      go_simp
      go_at_call 66
      refine (HAA.out _ _ _ oL (ho6.trans hHeld) ?hi ?hl ?hn).mono ?_
      case hi => first | exact hI48 | exact ⟨_, (show _ = _ by simpa using heap_alloc_new wL (.cells #[.bool false, .slice none 0 0] 70)), .nil⟩
      case hl => first | exact hLI | exact hLI.only ((Only.refl wL (fun _ => False)).alloc _) (fun h => h) (fun _ _ h => h)
      case hn => (have := hLI.lt; omega)
      rintro en wA ⟨rfl, hPA⟩
      obtain ⟨hNA, hoA6⟩ := New.put (w0 := w6) rfl hHeld (by first | exact Nat.le_refl _ | exact Nat.le_succ _ | exact hoL.base.size) (fun b h => by cases h) hPA
      refine hK.out _ _ (hoA6) (fun hHeld => ?_)
      clear hK K
      simp only [Act.put, List.setIfInBounds_toArray, List.set_cons_zero, List.set_cons_succ]
      refine wpAnyLast_take (i := 16) (oi := ?o27) (v := ?v27) ?h27 (by kernel_rfl) (by kernel_rfl) (by kernel_rfl) (by kernel_rfl) (by kernel_rfl) ?q27 (Or.inl ⟨?w27, ?y27⟩) hHeld ?r27
      case h27 => (simp only [List.getElem?_toArray, List.getElem?_cons_succ, List.getElem?_cons_zero]; rfl)
      case q27 => exact fun _ _ _ h => h
      case w27 => rfl
      case y27 => (intro W hSw; obtain ⟨q0, q1, q2, q3, q4, q5, q6, q7, q8, q9⟩ := HK.out _ hSw; go_simp; first | done | with_reducible rfl)
      simp only [Act.put, List.setIfInBounds_toArray, List.set_cons_zero, List.set_cons_succ]
      refine wpAnyLast_ready (rs := [17]) (by kernel_rfl) (by simp) ?_
      refine AllReadyL.cons_last (o := ?o28) ?h28 (by simp) (fun K hK => ?s28) ?m28
      case h28 => (simp only [List.getElem?_toArray, List.getElem?_cons_succ, List.getElem?_cons_zero]; rfl)
      case m28 => exact AllReadyL.nil
      obtain ⟨q0, q1, q2, q3, q4, q5, q6, q7, q8, q9⟩ := HK.out _ hHeld; go_simp
      refine hK.out _ _ ?_
      clear hK K
      simp only [Act.put, List.setIfInBounds_toArray, List.set_cons_zero, List.set_cons_succ]
      refine done_ (by kernel_rfl) ?_
      obtain ⟨w7, h7, t0, t1, t2, t3, t2c, t3c, t4, t5, t6⟩ := plus_end w w6 w.heap.size (w.heap.size + 1 + 1) _ g1 zr e1 hoA6 hNA ho6 hR6 hS6 (Nat.le_refl _) (by omega) (by omega)
      rw [← h7]
      clear h7 s0 s1 x0 x1 fs0 fs1 as0 as1 ax0 ax1 af0 af1 bs0 bs1 bx0 bx1 bf0 bf1 m1 m2 m3 m4 hA1 hB1 hB2 HK HAA HSZ hP hPA hoL hLI hLg hLo ho6a hoA hoB hNA hoA6 hHeld hsz hS6 hX6 hR6 ho6
      go_wp2_with fail
      rw [rounds_succ]
      go_wp2_with fail
      refine bodyPost_ret (results_cell_row rfl _ _ w.heap.size 41 #[.pointer (some ⟨_, 0, none⟩), .int .i64 e1] (0, 0) _ rfl t4 Tryz.underlying41 rfl (by kernel_rfl)) rfl ?_
      exact ⟨_, rfl, t5, t6⟩
end Go.Proofs.YtgbpglojbgicjaaGreatFmt
namespace Go.Proofs.YtgbpglojbgicjaaGreatFmt
open Go.RowKit Go.Proofs.YtgbpglojbgicjaaGreatFmtW.PrintWords
set_option maxRecDepth 100000 in
set_option maxHeartbeats 8000000 in
theorem add_of (neg neg' : Bool) (A A' : Option Addr) (c c' : Nat) (ds ds' : List Int) (e e' z f0 : Int) (w : World) (hr : ReadsInt w .i64 A ds.length ds) (hc : ds.length ≤ c) (hv : vB neg ds e = true) (hr' : ReadsInt w .i64 A' ds'.length ds') (hc' : ds'.length ≤ c') (hv' : vB neg' ds' e' = true) (hT : Tab w)
    (hfit : Fits ((Int.natAbs z : Nat) : Int)) (h01 : -2305843009213693952 ≤ f0) (h02 : f0 ≤ 2305843009213693952)
    (HP : ∀ (W : World) (b g g' : Nat) (o o' : Option Nat), Only w W (fun _ => False) → W.heap[b]? = some (.cells #[.pointer (some ⟨g, 0, none⟩), .int .i64 e, .pointer (some ⟨g', 0, none⟩), .int .i64 e'] 41 (0, 0)) → IsInt W g o (sval neg ds) → IsInt W g' o' (sval neg' ds') →
      Calls Tryz.prog 42 #[.slice (some ⟨b, 0, none⟩) 2 2] W fun en w' => ∃ k, en = .returned (.agg #[.pointer (some ⟨k, 0, none⟩), .int .i64 f0]) ∧ New W.heap.size w' k z ∧ Only W w' (fun _ => False)) :
    Calls Tryz.prog 14 #[.agg #[.bool neg, .slice A ds.length c, .int .i64 e], .agg #[.bool neg', .slice A' ds'.length c', .int .i64 e']] w (Ans w z f0) := by
  have HV := Lib.hid (And.intro hv hv')
  have HPP := Lib.hid HP
  have HO := Lib.hid (fun a b c d : Obj => (((((Only.refl w (fun _ => False)).alloc a).alloc b).alloc c).alloc d))
  clear hv hv' HP
  go_enter_defers Tryz.func14, Tryz.ntmps14
  go_wp2_with fail
  obtain ⟨h1, h2, h3, h4⟩ := heap_four w (.cells #[.bool neg, .slice A ds.length c, .int .i64 e] 24) (.cells #[.bool neg', .slice A' ds'.length c', .int .i64 e'] 24) (.cells #[.bool false, .slice none 0 0, .int .i64 0] 24) (.cells #[.int .i64 0] 25)
  have ho4 := HO.out (.cells #[.bool neg, .slice A ds.length c, .int .i64 e] 24) (.cells #[.bool neg', .slice A' ds'.length c', .int .i64 e'] 24) (.cells #[.bool false, .slice none 0 0, .int .i64 0] 24) (.cells #[.int .i64 0] 25)
  have hsz4 : ((((w.alloc (.cells #[.bool neg, .slice A ds.length c, .int .i64 e] 24)).alloc (.cells #[.bool neg', .slice A' ds'.length c', .int .i64 e'] 24)).alloc (.cells #[.bool false, .slice none 0 0, .int .i64 0] 24)).alloc (.cells #[.int .i64 0] 25)).heap.size = w.heap.size + 1 + 1 + 1 + 1 := by simp
  generalize hw4 : ((((w.alloc (.cells #[.bool neg, .slice A ds.length c, .int .i64 e] 24)).alloc (.cells #[.bool neg', .slice A' ds'.length c', .int .i64 e'] 24)).alloc (.cells #[.bool false, .slice none 0 0, .int .i64 0] 24)).alloc (.cells #[.int .i64 0] 25)) = w4 at *
  clear hw4
  have hY4 := h3
  have hE4 := h4
  have hb5 := heap_alloc_new w4 (.cells #[.bool neg, .slice A ds.length c, .int .i64 e, .bool neg', .slice A' ds'.length c', .int .i64 e'] 24)
  have ho5 := ho4.alloc (.cells #[.bool neg, .slice A ds.length c, .int .i64 e, .bool neg', .slice A' ds'.length c', .int .i64 e'] 24)
  have ho45 : Only w4 (w4.alloc (.cells #[.bool neg, .slice A ds.length c, .int .i64 e, .bool neg', .slice A' ds'.length c', .int .i64 e'] 24)) (fun _ => False) := (Only.refl w4 _).alloc _
  rw [← hsz4]
  generalize w4.alloc (.cells #[.bool neg, .slice A ds.length c, .int .i64 e, .bool neg', .slice A' ds'.length c', .int .i64 e'] 24) = w5 at *
  refine (open2_ok w4.heap.size neg neg' A A' c c' ds ds' e e' w5 hb5 (reads_only hr ho5 (fun _ _ h => h)) hc HV.out.1 (reads_only hr' ho5 (fun _ _ h => h)) hc' HV.out.2).mono ?_
  rintro en w6 ⟨rfl, ho56, g, g', m, hout, hm, ⟨o, hi, _⟩, ⟨o', hi', _⟩⟩
  go_wp2_with fail
  refine (HPP.out w6 _ g g' o o' (ho5.trans ho56) hout hi hi').mono ?_
  rintro en w7 ⟨k, rfl, ⟨ok, hk, _⟩, ho67⟩
  have ho47 : Only w w7 (fun _ => False) := (ho5.trans ho56).trans ho67
  have hq47 := (ho45.trans ho56).trans ho67
  have hY6 := (hq47.kept _ (blk_lt hY4) (fun h => h)).trans hY4
  have hE6 := (hq47.kept _ (blk_lt hE4) (fun h => h)).trans hE4
  have HTL := Lib.hid (told_any k ok z f0 w7 hk hfit (hT.only ho47) h01 h02)
  clear h1 h2 h3 h4 hY4 hE4 hb5 hout hi hi' hk ho45 hq47 ho67 ho56 ho5 ho4 HPP HV HO hr hr' hfit
  go_wp2_with fail
  refine HTL.out.mono ?_
  clear HTL
  rintro en w7 ⟨ho7, hcase⟩
  have hY7 := (ho7.kept _ (blk_lt hY6) (fun h => h)).trans hY6
  have hE7 := (ho7.kept _ (blk_lt hE6) (fun h => h)).trans hE6
  have y0 : w7.cell? ⟨w.heap.size + 1 + 1, 0, none⟩ = some (.bool false) := blk_cell hY7 0
  have y1 : w7.cell? ⟨w.heap.size + 1 + 1, 1, none⟩ = some (.slice none 0 0) := blk_cell hY7 1
  have y2 : w7.cell? ⟨w.heap.size + 1 + 1, 2, none⟩ = some (.int .i64 0) := blk_cell hY7 2
  have e0 : w7.cell? ⟨w.heap.size + 1 + 1 + 1, 0, none⟩ = some (.int .i64 0) := blk_cell hE7 0
  have fy0 := blk_frozen hY7 0
  have fy1 := blk_frozen hY7 1
  have fy2 := blk_frozen hY7 2
  have fe0 := blk_frozen hE7 0
  have HST := Lib.hid (stored hY7 hE7)
  have HOW := Lib.hid ((ho47).trans ho7)
  rcases hcase with ⟨hz, rfl⟩ | ⟨hz, t, k, q, a1, a2, a3, a4, ⟨hbad, rfl⟩ | ⟨b1, b2, b3, A7, ds7, c7, rfl, hown, hval, hnm⟩⟩
  · have HZ := Lib.hid hz
    clear hz
    go_wp2_with fail
    obtain ⟨s1, s2, s3⟩ := HST.out (.bool false) (.slice none 0 0) (.int .i64 0) (.int .i64 0)
    refine door_ok rfl _ _ (w.heap.size + 1 + 1) (w.heap.size + 1 + 1 + 1) _ _ _ 0 _ rfl rfl s1 s2 ?_
    rw [HZ.out]
    exact Ans.zero HOW.out (s3.mono (by rintro i hi (rfl | rfl) <;> omega))
  · refine door_panic rfl _ w7 (w.heap.size + 1 + 1) (w.heap.size + 1 + 1 + 1) 2 _ rfl rfl hY7 hE7 (fun w' hw' => ?_)
    exact Ans.long hz a1 a2 a3 a4 hbad HOW.out (hw'.mono (by rintro i hi rfl; omega))
  · have HA := Lib.hid (And.intro hz (And.intro a1 (And.intro a2 (And.intro a3 (And.intro a4 (And.intro hown (And.intro hval hnm)))))))
    clear hz a1 a2 a3 a4 hown hval hnm
    go_wp2_with fail
    obtain ⟨s1, s2, s3⟩ := HST.out (.bool (decide (z < 0))) (.slice A7 ds7.length c7) (.int .i64 (f0 + t)) (.int .i64 0)
    obtain ⟨g1, g2, g3, g4, g5, g6, g7, g8⟩ := HA.out
    refine door_ok rfl _ _ (w.heap.size + 1 + 1) (w.heap.size + 1 + 1 + 1) _ _ _ 0 _ rfl rfl s1 s2 ?_
    refine Ans.some_ g1 g2 g3 g4 g5 b1 b2 b3 HOW.out (s3.mono (by rintro i hi (rfl | rfl) <;> omega)) (own_two g6 hY7 hE7 s3) ?_ g7 g8
    have := (ho47).base.size
    exact this
end Go.Proofs.YtgbpglojbgicjaaGreatFmt
namespace Go.Proofs.YtgbpglojbgicjaaGreatFmt
open Go.RowKit Go.Proofs.YtgbpglojbgicjaaGreatFmtW.PrintWords
theorem plus_31 (b g g' : Nat) (o o' : Option Nat) (W : World) (hb : W.heap[b]? = some (.cells #[.pointer (some ⟨g, 0, none⟩), .int .i64 0, .pointer (some ⟨g', 0, none⟩), .int .i64 0] 41 (0, 0))) (hi : IsInt W g o (-3)) (hi' : IsInt W g' o' 1) :
    Calls Tryz.prog 42 #[.slice (some ⟨b, 0, none⟩) 2 2] W fun en w' => ∃ k, en = .returned (.agg #[.pointer (some ⟨k, 0, none⟩), .int .i64 0]) ∧ New W.heap.size w' k (-2) ∧ Only W w' (fun _ => False) := by
  refine plus2_up b g g' o o' (-3) 1 0 0 1 (-2) W hb hi hi' (by decide) (by decide) (by decide) (by decide) (by decide) ?_ ?_
  · intro V gz ho hz _
    exact lsh0_int gz g' o' 1 V hz (hi'.only ho (fun h => h) (fun _ _ h => h)) (Fits.of (k := 2) (by decide) (by decide)) (by decide)
  · intro V gz gy oy ho hz hy _
    exact add_opp gz g gy none o oy 0 (-3) 1 V hz (hi.only ho (fun h => h) (fun _ _ h => h)) hy (by decide) (by decide) (by decide)
theorem add_31 (A A' : Option Addr) (c c' : Nat) (w : World) (hr : ReadsInt w .i64 A 1 [3]) (hc : 1 ≤ c) (hr' : ReadsInt w .i64 A' 1 [1]) (hc' : 1 ≤ c') (hT : Tab w) :
    Calls Tryz.prog 14 #[.agg #[.bool true, .slice A 1 c, .int .i64 0], .agg #[.bool false, .slice A' 1 c', .int .i64 0]] w (Ans w (-2) 0) := by
  refine add_of true false A A' c c' [3] [1] 0 0 (-2) 0 w hr hc (by decide) hr' hc' (by decide) hT (Fits.of (k := 2) (by decide) (by decide)) (by decide) (by decide) ?_
  intro W b g g' o o' _ hb hi hi'
  exact plus_31 b g g' o o' W hb hi hi'
end Go.Proofs.YtgbpglojbgicjaaGreatFmt
namespace Go.Proofs.YtgbpglojbgicjaaGreatFmt
open Go.RowKit Go.Proofs.YtgbpglojbgicjaaGreatFmtW.PrintWords
set_option maxRecDepth 100000 in
set_option maxHeartbeats 8000000 in
theorem ways_calls (w : World) : Calls Tryz.prog 48 #[] w fun e w' => e = .returned (.agg #[.func (.func 74) #[] #[], .func (.func 75) #[] #[], .func (.func 77) #[] #[]]) ∧ Only w w' (fun _ => False) := by
  go_enter Tryz.func48, Tryz.ntmps48
  go_wp2_with fail
  refine bodyPost_ret (results_cell_row rfl _ _ w.heap.size 92 _ (0, 0) _ rfl (by simpa using heap_alloc_new w (.cells #[.func (.func 74) #[] #[], .func (.func 75) #[] #[], .func (.func 77) #[] #[]] 92)) Tryz.underlying92 rfl (by kernel_rfl)) rfl ?_
  exact ⟨rfl, (Only.refl _ _).alloc _⟩
theorem near_calls (b wd : Int) (ab : Bool) (w : World) : Calls Tryz.prog 74 #[.int .i64 b, .int .i64 wd, .bool ab] w fun e w' => e = .returned (.int .i64 b) ∧ w' = w := by
  go_enter Tryz.func74, Tryz.ntmps74
  go_wp2_with fail
  go_ret
  exact ⟨rfl, rfl⟩
end Go.Proofs.YtgbpglojbgicjaaGreatFmt
namespace Go.Proofs.YtgbpglojbgicjaaGreatFmt
open Go.RowKit Go.Proofs.YtgbpglojbgicjaaGreatFmtW.PrintWords Go.Proofs.YtgbpglojbgicjaaGreatFmtW.PrintLast
set_option linter.unusedVariables false in
set_option linter.unusedSimpArgs false in
set_option maxRecDepth 100000 in
set_option maxHeartbeats 8000000 in
theorem to_lit (gq : Nat) (oq : Option Nat) (w : World) (hq : IsInt w gq oq 12297829382473034410) :
    Calls Tryz.prog 47 #[.agg #[.pointer (some ⟨gq, 0, none⟩), .int .i64 (-65), .bool true], .int .i64 64, .agg #[.func (.func 74) #[] #[]]] w fun en w' => en = .returned (.tuple #[.int .i64 4599676419421066581, .bool true]) ∧ Only w w' (fun _ => False) := by
  obtain ⟨wA, hwA, h1, h2, hoA, hsA⟩ : ∃ wA, wA = ((w.alloc (.cells #[.pointer (some ⟨gq, 0, none⟩), .int .i64 (-65), .bool true] 51)).alloc (.cells #[.func (.func 74) #[] #[]] 91)) ∧ wA.heap[w.heap.size]? = some (.cells #[.pointer (some ⟨gq, 0, none⟩), .int .i64 (-65), .bool true] 51 (0, 0)) ∧ wA.heap[w.heap.size + 1]? = some (.cells #[.func (.func 74) #[] #[]] 91 (0, 0)) ∧ Only w wA (fun _ => False) ∧ w.heap.size + 1 < wA.heap.size :=
    ⟨_, rfl, heap_two' w _ _, heap_two w _ _, ((Only.refl w (fun _ => False)).alloc _).alloc _, by simp⟩
  have hqA := hq.only hoA (fun h => h) (fun _ _ h => h)
  obtain ⟨wB, hwB, hA, hB, hoB⟩ : ∃ wB, wB = (wA.alloc (.cells #[.bool false, .slice none 0 0] 70)).alloc (.cells #[.bool false, .slice none 0 0] 70) ∧ IsInt wB wA.heap.size none 0 ∧ IsInt wB (wA.heap.size + 1) none 0 ∧ Only wA wB (fun _ => False) :=
    ⟨_, rfl, (isInt_alloc wA).alloc_ _, by simpa using isInt_alloc (wA.alloc (.cells #[.bool false, .slice none 0 0] 70)), ((Only.refl wA (fun _ => False)).alloc _).alloc _⟩
  have hbx : ∀ W, Only wA W (fun _ => False) → W.cell? ⟨w.heap.size, 0, none⟩ = some (.pointer (some ⟨gq, 0, none⟩)) ∧ W.cell? ⟨w.heap.size, 1, none⟩ = some (.int .i64 (-65)) ∧ W.cell? ⟨w.heap.size, 2, none⟩ = some (.bool true) ∧ W.cell? ⟨w.heap.size + 1, 0, none⟩ = some (.func (.func 74) #[] #[]) := fun W hW => by
    have a := (hW.kept _ (blk_lt h1) (fun h => h)).trans h1
    have b := (hW.kept _ (blk_lt h2) (fun h => h)).trans h2
    exact ⟨blk_cell a 0, blk_cell a 1, blk_cell a 2, blk_cell b 0⟩
  have HBX := Lib.hid hbx
  have hQn : ((Int.natAbs 12297829382473034410 : Nat) : Int) = 12297829382473034410 := natAbs_nonneg (by decide)
  have hFq : Fits ((Int.natAbs 12297829382473034410 : Nat) : Int) := by rw [hQn]; exact Fits.of (k := 64) (by decide +kernel) (by decide)
  have hFq2 : Fits (12297829382473034410 * 2 ^ 1 : Int) := Fits.of (k := 66) (by decide +kernel) (by decide)
  have HQ := Lib.hid (And.intro hqA (And.intro hFq (And.intro hFq2 hQn)))
  have HO := Lib.hid hoA
  have hlq : gq < wA.heap.size := hqA.lt
  have HLQ := Lib.hid hlq
  have HSA := Lib.hid hsA
  clear hbx hqA hFq hFq2 hQn hoA hlq hsA h1 h2 hq
  go_enter Tryz.func47, Tryz.ntmps47
  go_upto_region 1 with (fail)
  rw [← hwA]
  clear hwA
  obtain ⟨c0, c1, c2, d0⟩ := HBX.out _ (((Only.refl wA (fun _ => False)).alloc (.cells #[.bool false, .slice none 0 0] 70)).alloc (.cells #[.bool false, .slice none 0 0] 70))
  go_wp2_with fail
  rw [← hwB]
  clear hwB c0 c1 c2 d0
  refine (abs_int (wA.heap.size + 1) gq none oq 0 12297829382473034410 wB hB (HQ.out.1.only hoB (fun h => h) (fun _ _ h => h)) HQ.out.2.1 (by have := HLQ.out; omega)).mono ?_
  rintro en wC ⟨rfl, hP⟩
  have hAC : IsInt wC wA.heap.size none 0 := by
    obtain ⟨_, _, ho, _⟩ := hP
    exact hA.keep hB ho (by omega) (fun b h => by cases h)
  rw [HQ.out.2.2.2] at hP
  obtain ⟨⟨oB, hBC, _, _⟩, hoC⟩ := New.put (B := wA.heap.size) rfl hoB (Nat.le_succ _) (fun b h => by cases h) hP
  clear hP hA hB hoB
  obtain ⟨c0, c1, c2, d0⟩ := HBX.out wC hoC
  go_wp2_with fail
  refine (lsh_int wA.heap.size (wA.heap.size + 1) none oB 0 12297829382473034410 1 wC hAC hBC HQ.out.2.1 (by decide) (by decide)).mono ?_
  rintro en wD ⟨rfl, hP⟩
  obtain ⟨⟨oA, hAD, _, hoAb⟩, hoD⟩ := New.put (B := wA.heap.size) rfl hoC (Nat.le_refl _) (fun b h => by cases h) hP
  clear hP hBC hAC hoC c0 c1 c2 d0
  obtain ⟨c0, c1, c2, d0⟩ := HBX.out wD hoD
  go_wp2_with fail
  refine (newInt_any 1 wD (by decide) (by decide)).mono ?_
  rintro en wE ⟨g1, rfl, ⟨o1, h1E, _, _⟩, hoE0⟩
  have hAE := hAD.only hoE0 (fun h => h) (fun _ _ h => h)
  have hoE := hoD.trans hoE0
  clear c0 c1 c2 d0 hoE0 hoD hAD
  go_wp2_with fail
  refine (or_int wA.heap.size wA.heap.size g1 oA oA o1 (12297829382473034410 * 2 ^ 1) (12297829382473034410 * 2 ^ 1) 1 1 wE hAE hAE h1E (by decide +kernel) (by decide) HQ.out.2.2.1 (by decide) (by decide +kernel) (by decide)).mono ?_
  rintro en wF ⟨rfl, hP⟩
  obtain ⟨⟨oF, hAF, _, _⟩, hoF⟩ := New.put (B := wA.heap.size) rfl hoE (Nat.le_refl _) hoAb hP
  rw [show (12297829382473034410 * 2 ^ 1 + 1 : Int) = 24595658764946068821 by decide +kernel] at hAF
  clear hP hAE h1E hoE hoAb
  obtain ⟨c0, c1, c2, d0⟩ := HBX.out wF hoF
  go_wp2_with fail
  refine (sign_pos gq oq 12297829382473034410 wF (HQ.out.1.only hoF (fun h => h) (fun _ _ h => h)) (by decide)).mono ?_
  rintro en w' ⟨rfl, hw⟩
  rw [hw]
  clear hw w'
  go_wp2_with fail
  refine (setInt_lit wF.heap.size wA.heap.size oF _ (heap_alloc_new wF _) (hAF.alloc_ _)).mono ?_
  rintro en wH ⟨rfl, b, c, ys, hfH, hbH, hl, y0, y1, hoG, hbb⟩
  have hsF := hoF.base.size
  have hbb2 : wA.heap.size ≤ b := Nat.le_trans (Nat.le_trans hsF (Nat.le_of_lt (by simp))) hbb
  have hoH : Only wA wH (fun _ => False) := (hoF.alloc _).step hoG (by rintro i hi rfl; omega)
  clear hAF hoG hbb c0 c1 c2 d0
  obtain ⟨c0, c1, c2, d0⟩ := HBX.out wH hoH
  have hm : min (max (-66 : Int) (-4194304)) 4194304 = -66 := by decide
  go_wp2_with fail
  refine (setMantExp_lit wF.heap.size b c ys wH hfH hbH hl y0).mono ?_
  rintro en wI ⟨rfl, hfI, hbI, hoI0⟩
  have hoI : Only wA wI (fun _ => False) := hoH.step hoI0 (by rintro i hi (rfl | rfl) <;> omega)
  clear hfH hbH hoI0 c0 c1 c2 d0 hm hoH hoF
  have z0 : (ys.set 0 9223372036854775808).getD 0 0 = 9223372036854775808 := by simp [List.getD, show 0 < ys.length by omega]
  have z1 : (ys.set 0 9223372036854775808).getD 1 0 = 12297829382473034410 := by simpa [List.getD, show 1 < ys.length by omega] using y1
  go_wp2_with fail
  refine (float64_lit wF.heap.size b c _ wI hfI hbI (by rw [List.length_set]; exact hl) z0 z1).mono ?_
  rintro en wJ ⟨rfl, hoJ0⟩
  have hoJ := hoI.trans hoJ0
  clear hfI hbI z0 z1 y0 y1 hoJ0 hoI hsF hbb2 hl
  obtain ⟨c0, c1, c2, d0⟩ := HBX.out wJ hoJ
  go_wp2_with fail
  refine (of_third wJ).mono ?_
  rintro en w' ⟨rfl, hw⟩
  rw [hw]
  clear hw w'
  go_wp2_with fail
  refine (near_calls _ _ _ _).mono ?_
  rintro en w' ⟨rfl, hw⟩
  rw [hw]
  clear hw w'
  have HOJ := Lib.hid hoJ
  clear c0 c1 c2 d0 hoJ
  go_wp2_with fail
  refine start_ (S := (fun W => Only wJ W (fun _ => False))) (ds := ([] : List Nat)) #[false, false, false, false, false, false, false, false, false, false, false] (by kernel_rfl) rfl rfl ?_ (fun hHeld => ?_)
  · exact (Only.refl wJ _).drew
  generalize wJ.drew = W1 at *
  refine pure_ (i := 0) (oi := ?o0) (v := ?v0) #[true, false, false, false, false, false, false, false, false, false, false] ?h0 rfl (by kernel_rfl) ?q0 (Or.inl ⟨?w0, ?y0⟩) rfl ?r0
  case h0 => (simp only [List.getElem?_toArray, List.getElem?_cons_succ, List.getElem?_cons_zero]; rfl)
  case q0 => exact fun _ _ _ h => h
  case w0 => rfl
  case y0 => (intro W; go_simp; first | done | with_reducible rfl)
  simp only [Act.put, List.setIfInBounds_toArray, List.set_cons_zero, List.set_cons_succ]
  refine pure_ (i := 1) (oi := ?o1) (v := ?v1) #[true, true, false, false, false, false, false, false, false, false, false] ?h1 rfl (by kernel_rfl) ?q1 (Or.inl ⟨?w1, ?y1⟩) rfl ?r1
  case h1 => (simp only [List.getElem?_toArray, List.getElem?_cons_succ, List.getElem?_cons_zero]; rfl)
  case q1 => exact fun _ _ _ h => h
  case w1 => rfl
  case y1 => (intro W; go_simp; first | done | with_reducible rfl)
  simp only [Act.put, List.setIfInBounds_toArray, List.set_cons_zero, List.set_cons_succ]
  refine pure_ (i := 3) (oi := ?o2) (v := ?v2) #[true, true, false, true, false, false, false, false, false, false, false] ?h2 rfl (by kernel_rfl) ?q2 (Or.inl ⟨?w2, ?y2⟩) rfl ?r2
  case h2 => (simp only [List.getElem?_toArray, List.getElem?_cons_succ, List.getElem?_cons_zero]; rfl)
  case q2 => exact fun _ _ _ h => h
  case w2 => rfl
  case y2 => (intro W; go_simp; first | done | with_reducible rfl)
  simp only [Act.put, List.setIfInBounds_toArray, List.set_cons_zero, List.set_cons_succ]
  refine pure_ (i := 4) (oi := ?o3) (v := ?v3) #[true, true, false, true, true, false, false, false, false, false, false] ?h3 rfl (by kernel_rfl) ?q3 (Or.inl ⟨?w3, ?y3⟩) rfl ?r3
  case h3 => (simp only [List.getElem?_toArray, List.getElem?_cons_succ, List.getElem?_cons_zero]; rfl)
  case q3 => exact fun _ _ _ h => h
  case w3 => rfl
  case y3 => (intro W; go_simp; first | done | with_reducible rfl)
  simp only [Act.put, List.setIfInBounds_toArray, List.set_cons_zero, List.set_cons_succ]
  refine wpAnyLast_ready (rs := [2]) (by kernel_rfl) (by simp) ?_
  refine AllReadyL.cons (o := ?o4) ?h4 (by simp) (fun K hK => ?s4) ?m4
  case h4 => (simp only [List.getElem?_toArray, List.getElem?_cons_succ, List.getElem?_cons_zero]; rfl)
  case m4 => exact AllReadyL.nil
  go_simp
  go_at_call 8
  refine (canon_third W1).mono ?_
  rintro en W2 ⟨rfl, ho⟩
  refine hK.out _ _ (hHeld.trans ho) (fun hHeldN => ?_)
  clear hK K hHeld ho
  have hHeld := hHeldN
  clear hHeldN
  simp only [Act.put, List.setIfInBounds_toArray, List.set_cons_zero, List.set_cons_succ]
  refine pure_ (i := 5) (oi := ?o5) (v := ?v5) #[true, true, true, true, true, true, false, false, false, false, false] ?h5 rfl (by kernel_rfl) ?q5 (Or.inl ⟨?w5, ?y5⟩) rfl ?r5
  case h5 => (simp only [List.getElem?_toArray, List.getElem?_cons_succ, List.getElem?_cons_zero]; rfl)
  case q5 => exact fun _ _ _ h => h
  case w5 => rfl
  case y5 => (intro W; go_simp; first | done | with_reducible rfl)
  simp only [Act.put, List.setIfInBounds_toArray, List.set_cons_zero, List.set_cons_succ]
  refine pure_ (i := 9) (oi := ?o6) (v := ?v6) #[true, true, true, true, true, true, false, false, false, true, false] ?h6 rfl (by kernel_rfl) ?q6 (Or.inl ⟨?w6, ?y6⟩) rfl ?r6
  case h6 => (simp only [List.getElem?_toArray, List.getElem?_cons_succ, List.getElem?_cons_zero]; rfl)
  case q6 => exact fun _ _ _ h => h
  case w6 => rfl
  case y6 => (intro W; go_simp; first | done | with_reducible rfl)
  simp only [Act.put, List.setIfInBounds_toArray, List.set_cons_zero, List.set_cons_succ]
  refine pure_ (i := 6) (oi := ?o7) (v := undef) #[true, true, true, true, true, true, true, false, false, true, false] ?h7 rfl (by kernel_rfl) ?q7 (Or.inr ⟨?w7, rfl⟩) rfl ?r7
  case h7 => (simp only [List.getElem?_toArray, List.getElem?_cons_succ, List.getElem?_cons_zero]; rfl)
  case q7 => exact fun _ _ _ h => h
  case w7 => rfl
  simp only [Act.put, List.setIfInBounds_toArray, List.set_cons_zero, List.set_cons_succ]
  refine pure_ (i := 7) (oi := ?o8) (v := undef) #[true, true, true, true, true, true, true, true, false, true, false] ?h8 rfl (by kernel_rfl) ?q8 (Or.inr ⟨?w8, rfl⟩) rfl ?r8
  case h8 => (simp only [List.getElem?_toArray, List.getElem?_cons_succ, List.getElem?_cons_zero]; rfl)
  case q8 => exact fun _ _ _ h => h
  case w8 => rfl
  simp only [Act.put, List.setIfInBounds_toArray, List.set_cons_zero, List.set_cons_succ]
  refine pure_ (i := 8) (oi := ?o9) (v := ?v9) #[true, true, true, true, true, true, true, true, true, true, false] ?h9 rfl (by kernel_rfl) ?q9 (Or.inl ⟨?w9, ?y9⟩) rfl ?r9
  case h9 => (simp only [List.getElem?_toArray, List.getElem?_cons_succ, List.getElem?_cons_zero]; rfl)
  case q9 => exact fun _ _ _ h => h
  case w9 => rfl
  case y9 => (intro W; go_simp; first | done | with_reducible rfl)
  simp only [Act.put, List.setIfInBounds_toArray, List.set_cons_zero, List.set_cons_succ]
  refine pure_ (i := 10) (oi := ?o10) (v := ?v10) #[true, true, true, true, true, true, true, true, true, true, true] ?h10 rfl (by kernel_rfl) ?q10 (Or.inl ⟨?w10, ?y10⟩) rfl ?r10
  case h10 => (simp only [List.getElem?_toArray, List.getElem?_cons_succ, List.getElem?_cons_zero]; rfl)
  case q10 => exact fun _ _ _ h => h
  case w10 => rfl
  case y10 => (intro W; go_simp; first | done | with_reducible rfl)
  simp only [Act.put, List.setIfInBounds_toArray, List.set_cons_zero, List.set_cons_succ]
  refine done_ (by kernel_rfl) ?_
  go_wp2_with fail
  go_ret2
  exact ⟨rfl, (HO.out.trans HOJ.out).trans hHeld⟩
end Go.Proofs.YtgbpglojbgicjaaGreatFmt
