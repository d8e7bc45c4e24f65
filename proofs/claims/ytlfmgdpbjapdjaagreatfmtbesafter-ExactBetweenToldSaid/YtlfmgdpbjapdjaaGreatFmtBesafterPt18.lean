/- Part 18 of the walk: ExT NatZ ExU LawA LawB LawC LawD. -/
import Derived.Test.YtlfmgdpbjapdjaaGreatFmtBesafterPt12
import Derived.Test.YtlfmgdpbjapdjaaGreatFmtBesafterPt14
import Derived.Test.YtlfmgdpbjapdjaaGreatFmtBesafterPt15
import Derived.Test.YtlfmgdpbjapdjaaGreatFmtBesafterPt03
import Derived.Test.YtlfmgdpbjapdjaaGreatFmtBesafterPt05
import Derived.Lib.AppendZerosOnto
import Derived.Maps.AppendAt
import Derived.StillTailTactics
namespace Go.Proofs.YtlfmgdpbjapdjaaGreatFmtBesafter
open Go.RowKit Go.Proofs.YtlfmgdpbjapdjaaGreatFmtBesafterW.PrintWords Go.Proofs.YtlfmgdpbjapdjaaGreatFmtBesafterW.PrintLast
theorem plus_stop (w w6 : World) (R S : Nat) {wA : World} (g g1 : Nat) (zr e1 e0 : Int) (ho : Only w6 wA (fun _ => False)) (hN : New w6.heap.size wA g zr) (ho6 : Only w w6 (fun _ => False))
    (hR : w6.heap[R]? = some (.cells #[.pointer none, .int .i64 0] 44 (0, 0))) (hS : w6.heap[S]? = some (.cells #[.pointer (some ⟨g1, 0, none⟩), .int .i64 e1] 44 (0, 0))) (hR0 : w.heap.size ≤ R) (hS0 : w.heap.size ≤ S) (hne : R ≠ S) :
    ∃ w7, w7 = (wA.setCell ⟨S, 0, none⟩ (.pointer (some ⟨g, 0, none⟩))).setCell ⟨S, 1, none⟩ (.int .i64 e0) ∧ w7.cell? ⟨S, 0, none⟩ = some (.pointer (some ⟨g, 0, none⟩)) ∧
    w7.cell? ⟨S, 1, none⟩ = some (.int .i64 e0) ∧
    w7.frozen? ⟨R, 0, none⟩ = false ∧
    w7.frozen? ⟨R, 1, none⟩ = false ∧ w7.cell? ⟨R, 0, none⟩ = some (.pointer none) ∧ w7.cell? ⟨R, 1, none⟩ = some (.int .i64 0) ∧
    ((w7.setCell ⟨R, 0, none⟩ (.pointer (some ⟨g, 0, none⟩))).setCell ⟨R, 1, none⟩ (.int .i64 e0)).heap[R]? = some (.cells #[.pointer (some ⟨g, 0, none⟩), .int .i64 e0] 44 (0, 0)) ∧
    New w.heap.size ((w7.setCell ⟨R, 0, none⟩ (.pointer (some ⟨g, 0, none⟩))).setCell ⟨R, 1, none⟩ (.int .i64 e0)) g zr ∧
    Only w ((w7.setCell ⟨R, 0, none⟩ (.pointer (some ⟨g, 0, none⟩))).setCell ⟨R, 1, none⟩ (.int .i64 e0)) (fun _ => False) := by
  have hSA := (ho.kept _ (blk_lt hS) (fun h => h)).trans hS
  have hRA := (ho.kept _ (blk_lt hR) (fun h => h)).trans hR
  have s1 := blk_set (blk_set hSA 0 (.pointer (some ⟨g, 0, none⟩))) 1 (.int .i64 e0)
  have r1 := blk_far (blk_far hRA (p := ⟨S, 0, none⟩) hne (.pointer (some ⟨g, 0, none⟩))) (p := ⟨S, 1, none⟩) hne (.int .i64 e0)
  have r2 := blk_set (blk_set r1 0 (.pointer (some ⟨g, 0, none⟩))) 1 (.int .i64 e0)
  have s2 : ((wA.setCell ⟨S, 0, none⟩ (.pointer (some ⟨g, 0, none⟩))).setCell ⟨S, 1, none⟩ (.int .i64 e0)).heap[S]? = some (.cells #[.pointer (some ⟨g, 0, none⟩), .int .i64 e0] 44 (0, 0)) := by simpa using s1
  have hoE : Only wA ((((wA.setCell ⟨S, 0, none⟩ (.pointer (some ⟨g, 0, none⟩))).setCell ⟨S, 1, none⟩ (.int .i64 e0)).setCell ⟨R, 0, none⟩ (.pointer (some ⟨g, 0, none⟩))).setCell ⟨R, 1, none⟩ (.int .i64 e0)) (fun k => k = S ∨ k = R) :=
    (((((Only.refl wA (fun k => k = S ∨ k = R)).set (.inr (.inl rfl)) _).set (.inr (.inl rfl)) _).set (.inr (.inr rfl)) _).set (.inr (.inr rfl)) _)
  have l1 := blk_lt hS
  have l2 := blk_lt hR
  have l3 := ho6.base.size
  refine ⟨_, rfl, blk_cell s2 0, blk_cell s2 1, blk_frozen r1 0, blk_frozen r1 1, blk_cell r1 0, blk_cell r1 1, by simpa using r2, hN.far l3 hoE ?_, (ho6.trans ho).step hoE ?_⟩
  · rintro k (rfl | rfl) <;> assumption
  · rintro k hk (rfl | rfl) <;> omega
set_option linter.unusedSimpArgs false in
set_option maxRecDepth 100000 in
set_option maxHeartbeats 16000000 in
theorem plus2_down (b g1 g2 : Nat) (o1 o2 : Option Nat) (z1 z2 e1 e2 zs zr : Int) (w : World) (hb : w.heap[b]? = some (.cells #[.pointer (some ⟨g1, 0, none⟩), .int .i64 e1, .pointer (some ⟨g2, 0, none⟩), .int .i64 e2] 44 (0, 0)))
    (h1 : IsInt w g1 o1 z1) (h2 : IsInt w g2 o2 z2) (n1 : z1 ≠ 0) (n2 : z2 ≠ 0) (he : e2 < e1) (hb1 : -4611686018427387904 ≤ e2) (hb2 : e1 ≤ 4611686018427387904)
    (HL : ∀ (W : World) (gz : Nat), Only w W (fun _ => False) → IsInt W gz none 0 → w.heap.size ≤ gz → Calls Tryz.prog 46 #[.pointer (some ⟨gz, 0, none⟩), .pointer (some ⟨g1, 0, none⟩), .int .u64 (e1 - e2)] W fun e W' => e = .returned (.pointer (some ⟨gz, 0, none⟩)) ∧ Put W W' gz none zs)
    (HA : ∀ (W : World) (gz gy : Nat) (oy : Option Nat), Only w W (fun _ => False) → IsInt W gz none 0 → IsInt W gy oy zs → gz ≠ gy → Calls Tryz.prog 71 #[.pointer (some ⟨gz, 0, none⟩), .pointer (some ⟨g2, 0, none⟩), .pointer (some ⟨gy, 0, none⟩)] W fun e W' => e = .returned (.pointer (some ⟨gz, 0, none⟩)) ∧ Put W W' gz none zr) :
    Calls Tryz.prog 37 #[.slice (some ⟨b, 0, none⟩) 2 2] w fun en w' => ∃ g, en = .returned (.agg #[.pointer (some ⟨g, 0, none⟩), .int .i64 e2]) ∧ New w.heap.size w' g zr ∧ Only w w' (fun _ => False) := by
  have hlt : b < w.heap.size := blk_lt hb
  have c0 : w.cell? ⟨b, 0, none⟩ = some (.pointer (some ⟨g1, 0, none⟩)) := blk_cell hb 0
  have c1 : w.cell? ⟨b, 1, none⟩ = some (.int .i64 e1) := blk_cell hb 1
  have hs1 : (z1.sign == 0) = false := by rw [beq_eq_false_iff_ne]; intro h; exact n1 (Int.sign_eq_zero_iff_zero.1 h)
  have hs2 : (z2.sign == 0) = false := by rw [beq_eq_false_iff_ne]; intro h; exact n2 (Int.sign_eq_zero_iff_zero.1 h)
  have HLL := Lib.hid HL
  have HAA := Lib.hid HA
  have HN := Lib.hid (And.intro n1 n2)
  have HB := Lib.hid hb
  clear HL HA n1 n2 hb
  go_enter Tryz.func37, Tryz.ntmps37
  go_wp2_with fail
  obtain ⟨k1, k2, k3⟩ := heap_three w (.cells #[.pointer none, .int .i64 0] 44) (.cells #[.bool false, .slice none 0 0] 87) (.cells #[.pointer (some ⟨w.heap.size + 1, 0, none⟩), .int .i64 0] 44)
  have ho3 : Only w (((w.alloc (.cells #[.pointer none, .int .i64 0] 44)).alloc (.cells #[.bool false, .slice none 0 0] 87)).alloc (.cells #[.pointer (some ⟨w.heap.size + 1, 0, none⟩), .int .i64 0] 44)) (fun _ => False) := (((Only.refl w _).alloc _).alloc _).alloc _
  refine wp_loop_rounds 3 ?_
  rw [rounds_succ]
  generalize hw3 : (((w.alloc (.cells #[.pointer none, .int .i64 0] 44)).alloc (.cells #[.bool false, .slice none 0 0] 87)).alloc (.cells #[.pointer (some ⟨w.heap.size + 1, 0, none⟩), .int .i64 0] 44)) = w3 at *
  clear hw3 c0 c1
  rw [show w.heap.size + 2 = w.heap.size + 1 + 1 from rfl] at k3
  have hb3 := (ho3.kept _ hlt (fun h => h)).trans HB.out
  have hz3 : IsInt w3 (w.heap.size + 1) none 0 := ⟨_, k2, .nil⟩
  have hi1 := h1.only ho3 (fun h => h) (fun _ _ h => h)
  have c0 : w3.cell? ⟨b, 0, none⟩ = some (.pointer (some ⟨g1, 0, none⟩)) := blk_cell hb3 0
  have c1 : w3.cell? ⟨b, 1, none⟩ = some (.int .i64 e1) := blk_cell hb3 1
  have s0 : w3.cell? ⟨w.heap.size + 1 + 1, 0, none⟩ = some (.pointer (some ⟨w.heap.size + 1, 0, none⟩)) := blk_cell k3 0
  have s1 : w3.cell? ⟨w.heap.size + 1 + 1, 1, none⟩ = some (.int .i64 0) := blk_cell k3 1
  have fs0 := blk_frozen k3 0
  have fs1 := blk_frozen k3 1
  have hsz3 : w.heap.size + 1 + 1 < w3.heap.size := blk_lt k3
  have m1 : ¬ w.heap.size + 1 + 1 = w3.heap.size := by omega
  have m2 : ¬ b = w3.heap.size := by omega
  go_wp2_with fail
  refine (sign_int g1 o1 z1 _ (hi1.only ((Only.refl w3 (fun _ => False)).alloc _) (fun h => h) (fun _ _ h => h))).mono ?_
  rintro en w4 ⟨rfl, rfl⟩
  go_wp2_with fail
  refine (sign_nil (w.heap.size + 1) none 0 _ (hz3.only ((Only.refl w3 (fun _ => False)).alloc _) (fun h => h) (fun _ _ h => h)) rfl).mono ?_
  rintro en w4 ⟨rfl, rfl⟩
  go_wp2_with fail
  rw [rounds_succ]
  have hS4 := blk_set (blk_set k3 0 (.pointer (some ⟨g1, 0, none⟩))) 1 (.int .i64 e1)
  have ho4 := (ho3.set (p := ⟨w.heap.size + 1 + 1, 0, none⟩) (.inl (by show w.heap.size ≤ w.heap.size + 1 + 1; omega)) (.pointer (some ⟨g1, 0, none⟩))).set (p := ⟨w.heap.size + 1 + 1, 1, none⟩) (.inl (by show w.heap.size ≤ w.heap.size + 1 + 1; omega)) (.int .i64 e1)
  have hR4 := blk_far (blk_far k1 (p := ⟨w.heap.size + 1 + 1, 0, none⟩) (by show w.heap.size ≠ w.heap.size + 1 + 1; omega) (.pointer (some ⟨g1, 0, none⟩))) (p := ⟨w.heap.size + 1 + 1, 1, none⟩) (by show w.heap.size ≠ w.heap.size + 1 + 1; omega) (.int .i64 e1)
  generalize (w3.setCell ⟨w.heap.size + 1 + 1, 0, none⟩ (.pointer (some ⟨g1, 0, none⟩))).setCell ⟨w.heap.size + 1 + 1, 1, none⟩ (.int .i64 e1) = w4 at *
  have hS4' : w4.heap[w.heap.size + 1 + 1]? = some (.cells #[.pointer (some ⟨g1, 0, none⟩), .int .i64 e1] 44 (0, 0)) := by simpa using hS4
  have hS5 := blk_alloc hS4' (.cells #[.pointer (some ⟨g1, 0, none⟩), .int .i64 e1] 44)
  have hR5 := blk_alloc hR4 (.cells #[.pointer (some ⟨g1, 0, none⟩), .int .i64 e1] 44)
  have ho5 := ho4.alloc (.cells #[.pointer (some ⟨g1, 0, none⟩), .int .i64 e1] 44)
  clear c0 c1 s0 s1 fs0 fs1 hb3 hz3 hi1 k1 k2 k3 ho3 hS4 hR4 ho4 hS4' hsz3 m1 m2
  generalize w4.alloc (.cells #[.pointer (some ⟨g1, 0, none⟩), .int .i64 e1] 44) = w5 at *
  clear w4
  have hb5 := (ho5.kept _ hlt (fun h => h)).trans HB.out
  have hi15 := h1.only ho5 (fun h => h) (fun _ _ h => h)
  have hi25 := h2.only ho5 (fun h => h) (fun _ _ h => h)
  have c2 : w5.cell? ⟨b, 2, none⟩ = some (.pointer (some ⟨g2, 0, none⟩)) := blk_cell hb5 2
  have c3 : w5.cell? ⟨b, 3, none⟩ = some (.int .i64 e2) := blk_cell hb5 3
  have s0 : w5.cell? ⟨w.heap.size + 1 + 1, 0, none⟩ = some (.pointer (some ⟨g1, 0, none⟩)) := blk_cell hS5 0
  have s1 : w5.cell? ⟨w.heap.size + 1 + 1, 1, none⟩ = some (.int .i64 e1) := blk_cell hS5 1
  have hsz5 : w.heap.size + 1 + 1 < w5.heap.size := blk_lt hS5
  have m1 : ¬ w.heap.size + 1 + 1 = w5.heap.size := by omega
  have m2 : ¬ b = w5.heap.size := by omega
  go_wp2_with fail
  have hoB : Only w5 (w5.alloc (.cells #[.pointer (some ⟨g2, 0, none⟩), .int .i64 e2] 44)) (fun _ => False) := (Only.refl w5 _).alloc _
  have hX6 : (w5.alloc (.cells #[.pointer (some ⟨g2, 0, none⟩), .int .i64 e2] 44)).heap[w5.heap.size]? = some (.cells #[.pointer (some ⟨g2, 0, none⟩), .int .i64 e2] 44 (0, 0)) := by simpa using heap_alloc_new w5 (.cells #[.pointer (some ⟨g2, 0, none⟩), .int .i64 e2] 44)
  refine (sign_int g2 o2 z2 _ (hi25.only hoB (fun h => h) (fun _ _ h => h))).mono ?_
  rintro en w6 ⟨rfl, rfl⟩
  go_wp2_with fail
  refine (sign_int g1 o1 z1 _ (hi15.only hoB (fun h => h) (fun _ _ h => h))).mono ?_
  rintro en w6 ⟨rfl, rfl⟩
  have hS6 := blk_alloc hS5 (.cells #[.pointer (some ⟨g2, 0, none⟩), .int .i64 e2] 44)
  have hR6 := blk_alloc hR5 (.cells #[.pointer (some ⟨g2, 0, none⟩), .int .i64 e2] 44)
  have ho6 := ho5.trans hoB
  clear c2 c3 s0 s1 hb5 hi15 hi25 hS5 hR5 ho5 m1 m2 hoB
  generalize hX : w5.heap.size = X at *
  generalize w5.alloc (.cells #[.pointer (some ⟨g2, 0, none⟩), .int .i64 e2] 44) = w6 at *
  clear hX w5
  have s0 : w6.cell? ⟨w.heap.size + 1 + 1, 0, none⟩ = some (.pointer (some ⟨g1, 0, none⟩)) := blk_cell hS6 0
  have s1 : w6.cell? ⟨w.heap.size + 1 + 1, 1, none⟩ = some (.int .i64 e1) := blk_cell hS6 1
  have x0 : w6.cell? ⟨X, 0, none⟩ = some (.pointer (some ⟨g2, 0, none⟩)) := blk_cell hX6 0
  have x1 : w6.cell? ⟨X, 1, none⟩ = some (.int .i64 e2) := blk_cell hX6 1
  have fs0 := blk_frozen hS6 0
  have fs1 := blk_frozen hS6 1
  have hX6l : X < w6.heap.size := blk_lt hX6
  go_wp2_with fail
  have K : ∀ W, Only w6 W (fun _ => False) → W.cell? ⟨w.heap.size + 1 + 1, 0, none⟩ = some (.pointer (some ⟨g1, 0, none⟩)) ∧ W.cell? ⟨w.heap.size + 1 + 1, 1, none⟩ = some (.int .i64 e1) ∧ W.cell? ⟨X, 0, none⟩ = some (.pointer (some ⟨g2, 0, none⟩)) ∧ W.cell? ⟨X, 1, none⟩ = some (.int .i64 e2) ∧ W.frozen? ⟨w.heap.size + 1 + 1, 0, none⟩ = false ∧ W.frozen? ⟨w.heap.size + 1 + 1, 1, none⟩ = false ∧ (¬ w.heap.size + 1 + 1 = W.heap.size) ∧ (¬ X = W.heap.size) ∧ W.heap[w.heap.size + 1 + 1]? = some (.cells #[.pointer (some ⟨g1, 0, none⟩), .int .i64 e1] 44 (0, 0)) ∧ w6.heap.size ≤ W.heap.size := fun W h => by
    have h1 := (h.kept _ (blk_lt hS6) (fun h => h)).trans hS6
    have h2 := (h.kept _ (blk_lt hX6) (fun h => h)).trans hX6
    exact ⟨blk_cell h1 0, blk_cell h1 1, blk_cell h2 0, blk_cell h2 1, blk_frozen h1 0, blk_frozen h1 1, Nat.ne_of_lt (blk_lt h1), Nat.ne_of_lt (blk_lt h2), h1, h.base.size⟩
  have HK := Lib.hid K
  clear K
  have hsz6 : w.heap.size + 1 + 1 < w6.heap.size := blk_lt hS6
  have HSZ := Lib.hid (And.intro hsz6 hX6l)
  have m1 : ¬ w.heap.size + 1 + 1 = w6.heap.size := by omega
  have m2 : ¬ X = w6.heap.size := by omega
  have m3 : ¬ w.heap.size + 1 + 1 = w6.heap.size + 1 := by omega
  have m4 : ¬ X = w6.heap.size + 1 := by omega
  clear hsz6 hX6l
  have ho6a := ho6.alloc (.cells #[.bool false, .slice none 0 0] 87)
  have hoA : Only w6 (w6.alloc (.cells #[.bool false, .slice none 0 0] 87)) (fun _ => False) := (Only.refl w6 _).alloc _
  have hoB : Only w6 ((w6.alloc (.cells #[.bool false, .slice none 0 0] 87)).alloc (.cells #[.bool false, .slice none 0 0] 87)) (fun _ => False) := ((Only.refl w6 _).alloc _).alloc _
  obtain ⟨as0, as1, ax0, ax1, af0, af1, -, -, -, -⟩ := HK.out _ hoA
  obtain ⟨bs0, bs1, bx0, bx1, bf0, bf1, -, -, -, -⟩ := HK.out _ hoB
  have hA1 : (w6.alloc (.cells #[.bool false, .slice none 0 0] 87)).heap[w6.heap.size]? = some (.cells #[.bool false, .slice none 0 0] 87 (0, 0)) := by simpa using heap_alloc_new w6 (.cells #[.bool false, .slice none 0 0] 87)
  have hB1 := heap_two' w6 (.cells #[.bool false, .slice none 0 0] 87) (.cells #[.bool false, .slice none 0 0] 87)
  have hB2 := heap_two w6 (.cells #[.bool false, .slice none 0 0] 87) (.cells #[.bool false, .slice none 0 0] 87)
  have hwr : IntKind.u64.wrap (IntKind.i64.wrap (e1 - e2)) = e1 - e2 := by rw [IntKind.wrap_u64, IntKind.wrap_i64]; omega
  have HLW := HLL.out
  rw [← hwr] at HLW
  have HLL := Lib.hid HLW
  clear HLW hwr
  refine start_ (S := (fun W => Only w6 W (fun _ => False))) (ds := [17]) #[false, false, false, false, false, false, false, false, false, false, false, false, false, false, false, false, false, false] (by kernel_rfl) rfl rfl ?_ (fun hHeld => ?_)
  · exact (Only.refl w6 _).drew
  refine wpAnyLast_take (i := 1) (oi := ?o0) (v := ?v0) ?h0 (by kernel_rfl) (by kernel_rfl) (by kernel_rfl) (by kernel_rfl) (by kernel_rfl) ?q0 (Or.inl ⟨?w0, ?y0⟩) hHeld ?r0
  case h0 => (simp only [ga, gb, gc]; rfl)
  case q0 => exact fun _ _ _ h => h
  case w0 => rfl
  case y0 => (intro W hSw; obtain ⟨q0, q1, q2, q3, q4, q5, q6, q7, q8, q9⟩ := HK.out _ hSw; go_simp; first | done | with_reducible rfl)
  simp only [Act.put, zd, ze, zf]
  refine wpAnyLast_take (i := 2) (oi := ?o1) (v := ?v1) ?h1 (by kernel_rfl) (by kernel_rfl) (by kernel_rfl) (by kernel_rfl) (by kernel_rfl) ?q1 (Or.inl ⟨?w1, ?y1⟩) hHeld ?r1
  case h1 => (simp only [ga, gb, gc]; rfl)
  case q1 => exact fun _ _ _ h => h
  case w1 => rfl
  case y1 => (intro W hSw; obtain ⟨q0, q1, q2, q3, q4, q5, q6, q7, q8, q9⟩ := HK.out _ hSw; go_simp; first | done | with_reducible rfl)
  simp only [Act.put, zd, ze, zf]
  refine wpAnyLast_take (i := 4) (oi := ?o2) (v := ?v2) ?h2 (by kernel_rfl) (by kernel_rfl) (by kernel_rfl) (by kernel_rfl) (by kernel_rfl) ?q2 (Or.inl ⟨?w2, ?y2⟩) hHeld ?r2
  case h2 => (simp only [ga, gb, gc]; rfl)
  case q2 => exact fun _ _ _ h => h
  case w2 => rfl
  case y2 => (intro W hSw; obtain ⟨q0, q1, q2, q3, q4, q5, q6, q7, q8, q9⟩ := HK.out _ hSw; go_simp; first | done | with_reducible rfl)
  simp only [Act.put, zd, ze, zf]
  refine wpAnyLast_take (i := 5) (oi := ?o3) (v := ?v3) ?h3 (by kernel_rfl) (by kernel_rfl) (by kernel_rfl) (by kernel_rfl) (by kernel_rfl) ?q3 (Or.inl ⟨?w3, ?y3⟩) hHeld ?r3
  case h3 => (simp only [ga, gb, gc]; rfl)
  case q3 => exact fun _ _ _ h => h
  case w3 => rfl
  case y3 => (intro W hSw; obtain ⟨q0, q1, q2, q3, q4, q5, q6, q7, q8, q9⟩ := HK.out _ hSw; go_simp; first | done | with_reducible rfl)
  simp only [Act.put, zd, ze, zf]
  refine wpAnyLast_take (i := 6) (oi := ?o4) (v := ?v4) ?h4 (by kernel_rfl) (by kernel_rfl) (by kernel_rfl) (by kernel_rfl) (by kernel_rfl) ?q4 (Or.inl ⟨?w4, ?y4⟩) hHeld ?r4
  case h4 => (simp only [ga, gb, gc]; rfl)
  case q4 => exact fun _ _ _ h => h
  case w4 => rfl
  case y4 => (intro W hSw; obtain ⟨q0, q1, q2, q3, q4, q5, q6, q7, q8, q9⟩ := HK.out _ hSw; go_simp; first | done | with_reducible rfl)
  simp only [Act.put, zd, ze, zf]
  refine wpAnyLast_take (i := 7) (oi := ?o5) (v := ?v5) ?h5 (by kernel_rfl) (by kernel_rfl) (by kernel_rfl) (by kernel_rfl) (by kernel_rfl) ?q5 (Or.inl ⟨?w5, ?y5⟩) hHeld ?r5
  case h5 => (simp only [ga, gb, gc]; rfl)
  case q5 => exact fun _ _ _ h => h
  case w5 => rfl
  case y5 => (intro W hSw; obtain ⟨q0, q1, q2, q3, q4, q5, q6, q7, q8, q9⟩ := HK.out _ hSw; go_simp; first | done | with_reducible rfl)
  simp only [Act.put, zd, ze, zf]
  refine wpAnyLast_take (i := 8) (oi := ?o6) (v := ?v6) ?h6 (by kernel_rfl) (by kernel_rfl) (by kernel_rfl) (by kernel_rfl) (by kernel_rfl) ?q6 (Or.inl ⟨?w6, ?y6⟩) hHeld ?r6
  case h6 => (simp only [ga, gb, gc]; rfl)
  case q6 => exact fun _ _ _ h => h
  case w6 => rfl
  case y6 => (intro W hSw; obtain ⟨q0, q1, q2, q3, q4, q5, q6, q7, q8, q9⟩ := HK.out _ hSw; go_simp; first | done | with_reducible rfl)
  simp only [Act.put, zd, ze, zf]
  refine wpAnyLast_take (i := 9) (oi := ?o7) (v := ?v7) ?h7 (by kernel_rfl) (by kernel_rfl) (by kernel_rfl) (by kernel_rfl) (by kernel_rfl) ?q7 (Or.inl ⟨?w7, ?y7⟩) hHeld ?r7
  case h7 => (simp only [ga, gb, gc]; rfl)
  case q7 => exact fun _ _ _ h => h
  case w7 => rfl
  case y7 => (intro W hSw; obtain ⟨q0, q1, q2, q3, q4, q5, q6, q7, q8, q9⟩ := HK.out _ hSw; go_simp; first | done | with_reducible rfl)
  simp only [Act.put, zd, ze, zf]
  refine wpAnyLast_take (i := 10) (oi := ?o8) (v := ?v8) ?h8 (by kernel_rfl) (by kernel_rfl) (by kernel_rfl) (by kernel_rfl) (by kernel_rfl) ?q8 (Or.inl ⟨?w8, ?y8⟩) hHeld ?r8
  case h8 => (simp only [ga, gb, gc]; rfl)
  case q8 => exact fun _ _ _ h => h
  case w8 => rfl
  case y8 => (intro W hSw; obtain ⟨q0, q1, q2, q3, q4, q5, q6, q7, q8, q9⟩ := HK.out _ hSw; go_simp; first | done | with_reducible rfl)
  simp only [Act.put, zd, ze, zf]
  refine wpAnyLast_take (i := 11) (oi := ?o9) (v := ?v9) ?h9 (by kernel_rfl) (by kernel_rfl) (by kernel_rfl) (by kernel_rfl) (by kernel_rfl) ?q9 (Or.inl ⟨?w9, ?y9⟩) hHeld ?r9
  case h9 => (simp only [ga, gb, gc]; rfl)
  case q9 => exact fun _ _ _ h => h
  case w9 => rfl
  case y9 => (intro W hSw; obtain ⟨q0, q1, q2, q3, q4, q5, q6, q7, q8, q9⟩ := HK.out _ hSw; go_simp; first | done | with_reducible rfl)
  simp only [Act.put, zd, ze, zf]
  refine wpAnyLast_take (i := 14) (oi := ?o10) (v := ?v10) ?h10 (by kernel_rfl) (by kernel_rfl) (by kernel_rfl) (by kernel_rfl) (by kernel_rfl) ?q10 (Or.inl ⟨?w10, ?y10⟩) hHeld ?r10
  case h10 => (simp only [ga, gb, gc]; rfl)
  case q10 => exact fun _ _ _ h => h
  case w10 => rfl
  case y10 => (intro W hSw; obtain ⟨q0, q1, q2, q3, q4, q5, q6, q7, q8, q9⟩ := HK.out _ hSw; go_simp; first | done | with_reducible rfl)
  simp only [Act.put, zd, ze, zf]
  refine wpAnyLast_take (i := 15) (oi := ?o11) (v := ?v11) ?h11 (by kernel_rfl) (by kernel_rfl) (by kernel_rfl) (by kernel_rfl) (by kernel_rfl) ?q11 (Or.inl ⟨?w11, ?y11⟩) hHeld ?r11
  case h11 => (simp only [ga, gb, gc]; rfl)
  case q11 => exact fun _ _ _ h => h
  case w11 => rfl
  case y11 => (intro W hSw; obtain ⟨q0, q1, q2, q3, q4, q5, q6, q7, q8, q9⟩ := HK.out _ hSw; go_simp; first | done | with_reducible rfl)
  simp only [Act.put, zd, ze, zf]
  refine wpAnyLast_ready (rs := [0, 3]) (by kernel_rfl) (by simp) ?_
  refine AllReadyL.cons (o := ?o12) ?h12 (by simp) (fun K hK => ?s12) ?m12
  case h12 => (simp only [ga, gb, gc]; rfl)
  case s12 =>
    go_simp
    refine hK.out _ _ (hHeld.alloc _) (fun hHeld => ?_)
    clear hK K
    simp only [Act.put, zd, ze, zf]
    refine wpAnyLast_ready (rs := [3]) (by kernel_rfl) (by simp) ?_
    refine AllReadyL.cons (o := ?o13) ?h13 (by simp) (fun K hK => ?s13) ?m13
    case h13 => (simp only [ga, gb, gc]; rfl)
    case m13 => exact AllReadyL.nil
    go_simp
    refine hK.out _ _ (hHeld.alloc _) (fun hHeld => ?_)
    clear hK K
    simp only [Act.put, zd, ze, zf]
    refine wpAnyLast_ready (rs := [12]) (by kernel_rfl) (by simp) ?_
    refine AllReadyL.cons (o := ?o14) ?h14 (by simp) (fun K hK => ?s14) ?m14
    case h14 => (simp only [ga, gb, gc]; rfl)
    case m14 => exact AllReadyL.nil
    go_simp
    go_at_call 46
    have hsz := HSZ.out
    refine (HLL.out _ _ (ho6.trans hHeld) ?hi (by omega)).mono ?_
    case hi => first | exact ⟨_, blk_drew hA1, .nil⟩ | exact ⟨_, blk_drew hB1, .nil⟩ | exact ⟨_, blk_drew hB2, .nil⟩
    rintro en wL ⟨rfl, hP⟩
    obtain ⟨hNL, hoL⟩ := New.put (w0 := w6) rfl hHeld (by first | exact Nat.le_refl _ | exact Nat.le_succ _) (fun b h => by cases h) hP
    obtain ⟨oL, hLI, hLg, hLo⟩ := hNL
    first
      | have hI48 : IsInt wL w6.heap.size none 0 := hP.keep_ rfl (blk_drew hB1) (by omega)
      | have hI48 : IsInt wL (w6.heap.size + 1) none 0 := hP.keep_ rfl (blk_drew hB2) (by omega)
      | skip
    refine hK.out _ _ (hoL) (fun hHeld => ?_)
    clear hK K
    simp only [Act.put, zd, ze, zf]
    refine wpAnyLast_ready (rs := [13]) (by kernel_rfl) (by simp) ?_
    refine AllReadyL.cons (o := ?o15) ?h15 (by simp) (fun K hK => ?s15) ?m15
    case h15 => (simp only [ga, gb, gc]; rfl)
    case m15 => exact AllReadyL.nil
    go_simp
    go_at_call 71
    refine (HAA.out _ _ _ oL (ho6.trans hHeld) ?hi ?hl ?hn).mono ?_
    case hi => first | exact hI48 | exact ⟨_, (show _ = _ by simpa using heap_alloc_new wL (.cells #[.bool false, .slice none 0 0] 87)), .nil⟩
    case hl => first | exact hLI | exact hLI.only ((Only.refl wL (fun _ => False)).alloc _) (fun h => h) (fun _ _ h => h)
    case hn => (have := hLI.lt; omega)
    rintro en wA ⟨rfl, hPA⟩
    obtain ⟨hNA, hoA6⟩ := New.put (w0 := w6) rfl hHeld (by first | exact Nat.le_refl _ | exact Nat.le_succ _ | exact hoL.base.size) (fun b h => by cases h) hPA
    refine hK.out _ _ (hoA6) (fun hHeld => ?_)
    clear hK K
    simp only [Act.put, zd, ze, zf]
    refine wpAnyLast_take (i := 16) (oi := ?o16) (v := ?v16) ?h16 (by kernel_rfl) (by kernel_rfl) (by kernel_rfl) (by kernel_rfl) (by kernel_rfl) ?q16 (Or.inl ⟨?w16, ?y16⟩) hHeld ?r16
    case h16 => (simp only [ga, gb, gc]; rfl)
    case q16 => exact fun _ _ _ h => h
    case w16 => rfl
    case y16 => (intro W hSw; obtain ⟨q0, q1, q2, q3, q4, q5, q6, q7, q8, q9⟩ := HK.out _ hSw; go_simp; first | done | with_reducible rfl)
    simp only [Act.put, zd, ze, zf]
    refine wpAnyLast_ready (rs := [17]) (by kernel_rfl) (by simp) ?_
    refine AllReadyL.cons_last (o := ?o17) ?h17 (by simp) (fun K hK => ?s17) ?m17
    case h17 => (simp only [ga, gb, gc]; rfl)
    case m17 => exact AllReadyL.nil
    obtain ⟨q0, q1, q2, q3, q4, q5, q6, q7, q8, q9⟩ := HK.out _ hHeld; go_simp
    refine hK.out _ _ ?_
    clear hK K
    simp only [Act.put, zd, ze, zf]
    refine done_ (by kernel_rfl) ?_
    obtain ⟨w7, h7, t0, t1, t2, t3, t2c, t3c, t4, t5, t6⟩ := plus_stop w w6 w.heap.size (w.heap.size + 1 + 1) _ g1 zr e1 e2 hoA6 hNA ho6 hR6 hS6 (Nat.le_refl _) (by omega) (by omega)
    rw [← h7]
    clear h7 s0 s1 x0 x1 fs0 fs1 as0 as1 ax0 ax1 af0 af1 bs0 bs1 bx0 bx1 bf0 bf1 m1 m2 m3 m4 hA1 hB1 hB2 HK HAA HSZ hP hPA hoL hLI hLg hLo ho6a hoA hoB hNA hoA6 hHeld hsz hS6 hX6 hR6 ho6
    go_wp2_with fail
    rw [rounds_succ]
    go_wp2_with fail
    refine bodyPost_ret (results_cell_row rfl _ _ w.heap.size 44 #[.pointer (some ⟨_, 0, none⟩), .int .i64 e2] (0, 0) _ rfl t4 Tryz.underlying44 rfl (by kernel_rfl)) rfl ?_
    exact ⟨_, rfl, t5, t6⟩
  refine AllReadyL.cons (o := ?o18) ?h18 (by simp) (fun K hK => ?s18) ?m18
  case h18 => (simp only [ga, gb, gc]; rfl)
  case m18 => exact AllReadyL.nil
  case s18 =>
    go_simp
    refine hK.out _ _ (hHeld.alloc _) (fun hHeld => ?_)
    clear hK K
    simp only [Act.put, zd, ze, zf]
    refine wpAnyLast_ready (rs := [0, 12]) (by kernel_rfl) (by simp) ?_
    refine AllReadyL.cons (o := ?o19) ?h19 (by simp) (fun K hK => ?s19) ?m19
    case h19 => (simp only [ga, gb, gc]; rfl)
    case s19 =>
      go_simp
      refine hK.out _ _ (hHeld.alloc _) (fun hHeld => ?_)
      clear hK K
      simp only [Act.put, zd, ze, zf]
      refine wpAnyLast_ready (rs := [12]) (by kernel_rfl) (by simp) ?_
      refine AllReadyL.cons (o := ?o20) ?h20 (by simp) (fun K hK => ?s20) ?m20
      case h20 => (simp only [ga, gb, gc]; rfl)
      case m20 => exact AllReadyL.nil
      go_simp
      go_at_call 46
      have hsz := HSZ.out
      refine (HLL.out _ _ (ho6.trans hHeld) ?hi (by omega)).mono ?_
      case hi => first | exact ⟨_, blk_drew hA1, .nil⟩ | exact ⟨_, blk_drew hB1, .nil⟩ | exact ⟨_, blk_drew hB2, .nil⟩
      rintro en wL ⟨rfl, hP⟩
      obtain ⟨hNL, hoL⟩ := New.put (w0 := w6) rfl hHeld (by first | exact Nat.le_refl _ | exact Nat.le_succ _) (fun b h => by cases h) hP
      obtain ⟨oL, hLI, hLg, hLo⟩ := hNL
      first
        | have hI48 : IsInt wL w6.heap.size none 0 := hP.keep_ rfl (blk_drew hB1) (by omega)
        | have hI48 : IsInt wL (w6.heap.size + 1) none 0 := hP.keep_ rfl (blk_drew hB2) (by omega)
        | skip
      refine hK.out _ _ (hoL) (fun hHeld => ?_)
      clear hK K
      simp only [Act.put, zd, ze, zf]
      refine wpAnyLast_ready (rs := [13]) (by kernel_rfl) (by simp) ?_
      refine AllReadyL.cons (o := ?o21) ?h21 (by simp) (fun K hK => ?s21) ?m21
      case h21 => (simp only [ga, gb, gc]; rfl)
      case m21 => exact AllReadyL.nil
      go_simp
      go_at_call 71
      refine (HAA.out _ _ _ oL (ho6.trans hHeld) ?hi ?hl ?hn).mono ?_
      case hi => first | exact hI48 | exact ⟨_, (show _ = _ by simpa using heap_alloc_new wL (.cells #[.bool false, .slice none 0 0] 87)), .nil⟩
      case hl => first | exact hLI | exact hLI.only ((Only.refl wL (fun _ => False)).alloc _) (fun h => h) (fun _ _ h => h)
      case hn => (have := hLI.lt; omega)
      rintro en wA ⟨rfl, hPA⟩
      obtain ⟨hNA, hoA6⟩ := New.put (w0 := w6) rfl hHeld (by first | exact Nat.le_refl _ | exact Nat.le_succ _ | exact hoL.base.size) (fun b h => by cases h) hPA
      refine hK.out _ _ (hoA6) (fun hHeld => ?_)
      clear hK K
      simp only [Act.put, zd, ze, zf]
      refine wpAnyLast_take (i := 16) (oi := ?o22) (v := ?v22) ?h22 (by kernel_rfl) (by kernel_rfl) (by kernel_rfl) (by kernel_rfl) (by kernel_rfl) ?q22 (Or.inl ⟨?w22, ?y22⟩) hHeld ?r22
      case h22 => (simp only [ga, gb, gc]; rfl)
      case q22 => exact fun _ _ _ h => h
      case w22 => rfl
      case y22 => (intro W hSw; obtain ⟨q0, q1, q2, q3, q4, q5, q6, q7, q8, q9⟩ := HK.out _ hSw; go_simp; first | done | with_reducible rfl)
      simp only [Act.put, zd, ze, zf]
      refine wpAnyLast_ready (rs := [17]) (by kernel_rfl) (by simp) ?_
      refine AllReadyL.cons_last (o := ?o23) ?h23 (by simp) (fun K hK => ?s23) ?m23
      case h23 => (simp only [ga, gb, gc]; rfl)
      case m23 => exact AllReadyL.nil
      obtain ⟨q0, q1, q2, q3, q4, q5, q6, q7, q8, q9⟩ := HK.out _ hHeld; go_simp
      refine hK.out _ _ ?_
      clear hK K
      simp only [Act.put, zd, ze, zf]
      refine done_ (by kernel_rfl) ?_
      obtain ⟨w7, h7, t0, t1, t2, t3, t2c, t3c, t4, t5, t6⟩ := plus_stop w w6 w.heap.size (w.heap.size + 1 + 1) _ g1 zr e1 e2 hoA6 hNA ho6 hR6 hS6 (Nat.le_refl _) (by omega) (by omega)
      rw [← h7]
      clear h7 s0 s1 x0 x1 fs0 fs1 as0 as1 ax0 ax1 af0 af1 bs0 bs1 bx0 bx1 bf0 bf1 m1 m2 m3 m4 hA1 hB1 hB2 HK HAA HSZ hP hPA hoL hLI hLg hLo ho6a hoA hoB hNA hoA6 hHeld hsz hS6 hX6 hR6 ho6
      go_wp2_with fail
      rw [rounds_succ]
      go_wp2_with fail
      refine bodyPost_ret (results_cell_row rfl _ _ w.heap.size 44 #[.pointer (some ⟨_, 0, none⟩), .int .i64 e2] (0, 0) _ rfl t4 Tryz.underlying44 rfl (by kernel_rfl)) rfl ?_
      exact ⟨_, rfl, t5, t6⟩
    refine AllReadyL.cons (o := ?o24) ?h24 (by simp) (fun K hK => ?s24) ?m24
    case h24 => (simp only [ga, gb, gc]; rfl)
    case m24 => exact AllReadyL.nil
    case s24 =>
      go_simp
      go_at_call 46
      have hsz := HSZ.out
      refine (HLL.out _ _ (ho6.trans hHeld) ?hi (by omega)).mono ?_
      case hi => first | exact ⟨_, blk_drew hA1, .nil⟩ | exact ⟨_, blk_drew hB1, .nil⟩ | exact ⟨_, blk_drew hB2, .nil⟩
      rintro en wL ⟨rfl, hP⟩
      obtain ⟨hNL, hoL⟩ := New.put (w0 := w6) rfl hHeld (by first | exact Nat.le_refl _ | exact Nat.le_succ _) (fun b h => by cases h) hP
      obtain ⟨oL, hLI, hLg, hLo⟩ := hNL
      first
        | have hI48 : IsInt wL w6.heap.size none 0 := hP.keep_ rfl (blk_drew hB1) (by omega)
        | have hI48 : IsInt wL (w6.heap.size + 1) none 0 := hP.keep_ rfl (blk_drew hB2) (by omega)
        | skip
      refine hK.out _ _ (hoL) (fun hHeld => ?_)
      clear hK K
      simp only [Act.put, zd, ze, zf]
      refine wpAnyLast_ready (rs := [0]) (by kernel_rfl) (by simp) ?_
      refine AllReadyL.cons (o := ?o25) ?h25 (by simp) (fun K hK => ?s25) ?m25
      case h25 => (simp only [ga, gb, gc]; rfl)
      case m25 => exact AllReadyL.nil
      go_simp
      refine hK.out _ _ (hHeld.alloc _) (fun hHeld => ?_)
      clear hK K
      simp only [Act.put, zd, ze, zf]
      refine wpAnyLast_ready (rs := [13]) (by kernel_rfl) (by simp) ?_
      refine AllReadyL.cons (o := ?o26) ?h26 (by simp) (fun K hK => ?s26) ?m26
      case h26 => (simp only [ga, gb, gc]; rfl)
      case m26 => exact AllReadyL.nil
      go_simp
      go_at_call 71
      refine (HAA.out _ _ _ oL (ho6.trans hHeld) ?hi ?hl ?hn).mono ?_
      case hi => first | exact hI48 | exact ⟨_, (show _ = _ by simpa using heap_alloc_new wL (.cells #[.bool false, .slice none 0 0] 87)), .nil⟩
      case hl => first | exact hLI | exact hLI.only ((Only.refl wL (fun _ => False)).alloc _) (fun h => h) (fun _ _ h => h)
      case hn => (have := hLI.lt; omega)
      rintro en wA ⟨rfl, hPA⟩
      obtain ⟨hNA, hoA6⟩ := New.put (w0 := w6) rfl hHeld (by first | exact Nat.le_refl _ | exact Nat.le_succ _ | exact hoL.base.size) (fun b h => by cases h) hPA
      refine hK.out _ _ (hoA6) (fun hHeld => ?_)
      clear hK K
      simp only [Act.put, zd, ze, zf]
      refine wpAnyLast_take (i := 16) (oi := ?o27) (v := ?v27) ?h27 (by kernel_rfl) (by kernel_rfl) (by kernel_rfl) (by kernel_rfl) (by kernel_rfl) ?q27 (Or.inl ⟨?w27, ?y27⟩) hHeld ?r27
      case h27 => (simp only [ga, gb, gc]; rfl)
      case q27 => exact fun _ _ _ h => h
      case w27 => rfl
      case y27 => (intro W hSw; obtain ⟨q0, q1, q2, q3, q4, q5, q6, q7, q8, q9⟩ := HK.out _ hSw; go_simp; first | done | with_reducible rfl)
      simp only [Act.put, zd, ze, zf]
      refine wpAnyLast_ready (rs := [17]) (by kernel_rfl) (by simp) ?_
      refine AllReadyL.cons_last (o := ?o28) ?h28 (by simp) (fun K hK => ?s28) ?m28
      case h28 => (simp only [ga, gb, gc]; rfl)
      case m28 => exact AllReadyL.nil
      obtain ⟨q0, q1, q2, q3, q4, q5, q6, q7, q8, q9⟩ := HK.out _ hHeld; go_simp
      refine hK.out _ _ ?_
      clear hK K
      simp only [Act.put, zd, ze, zf]
      refine done_ (by kernel_rfl) ?_
      obtain ⟨w7, h7, t0, t1, t2, t3, t2c, t3c, t4, t5, t6⟩ := plus_stop w w6 w.heap.size (w.heap.size + 1 + 1) _ g1 zr e1 e2 hoA6 hNA ho6 hR6 hS6 (Nat.le_refl _) (by omega) (by omega)
      rw [← h7]
      clear h7 s0 s1 x0 x1 fs0 fs1 as0 as1 ax0 ax1 af0 af1 bs0 bs1 bx0 bx1 bf0 bf1 m1 m2 m3 m4 hA1 hB1 hB2 HK HAA HSZ hP hPA hoL hLI hLg hLo ho6a hoA hoB hNA hoA6 hHeld hsz hS6 hX6 hR6 ho6
      go_wp2_with fail
      rw [rounds_succ]
      go_wp2_with fail
      refine bodyPost_ret (results_cell_row rfl _ _ w.heap.size 44 #[.pointer (some ⟨_, 0, none⟩), .int .i64 e2] (0, 0) _ rfl t4 Tryz.underlying44 rfl (by kernel_rfl)) rfl ?_
      exact ⟨_, rfl, t5, t6⟩
theorem plus_ret (w w6 : World) (R S : Nat) (g : Nat) (e : Int) (ho6 : Only w w6 (fun _ => False)) (hR : w6.heap[R]? = some (.cells #[.pointer none, .int .i64 0] 44 (0, 0))) (hS : w6.heap[S]? = some (.cells #[.pointer (some ⟨g, 0, none⟩), .int .i64 e] 44 (0, 0))) (hR0 : w.heap.size ≤ R) :
    w6.cell? ⟨S, 0, none⟩ = some (.pointer (some ⟨g, 0, none⟩)) ∧ w6.cell? ⟨S, 1, none⟩ = some (.int .i64 e) ∧ w6.frozen? ⟨R, 0, none⟩ = false ∧ w6.frozen? ⟨R, 1, none⟩ = false ∧ w6.cell? ⟨R, 0, none⟩ = some (.pointer none) ∧ w6.cell? ⟨R, 1, none⟩ = some (.int .i64 0) ∧
    ((w6.setCell ⟨R, 0, none⟩ (.pointer (some ⟨g, 0, none⟩))).setCell ⟨R, 1, none⟩ (.int .i64 e)).heap[R]? = some (.cells #[.pointer (some ⟨g, 0, none⟩), .int .i64 e] 44 (0, 0)) ∧ Only w ((w6.setCell ⟨R, 0, none⟩ (.pointer (some ⟨g, 0, none⟩))).setCell ⟨R, 1, none⟩ (.int .i64 e)) (fun _ => False) :=
  ⟨blk_cell hS 0, blk_cell hS 1, blk_frozen hR 0, blk_frozen hR 1, blk_cell hR 0, blk_cell hR 1, by simpa using blk_set (blk_set hR 0 (.pointer (some ⟨g, 0, none⟩))) 1 (.int .i64 e), (ho6.set (.inl hR0) _).set (.inl hR0) _⟩
set_option linter.unusedSimpArgs false in
set_option maxRecDepth 100000 in
set_option maxHeartbeats 16000000 in
theorem plus2_fst (b g1 g2 : Nat) (o1 o2 : Option Nat) (z1 z2 e1 e2 : Int) (w : World) (hb : w.heap[b]? = some (.cells #[.pointer (some ⟨g1, 0, none⟩), .int .i64 e1, .pointer (some ⟨g2, 0, none⟩), .int .i64 e2] 44 (0, 0)))
    (h1 : IsInt w g1 o1 z1) (h2 : IsInt w g2 o2 z2) (n1 : z1 ≠ 0) (n2 : z2 = 0) :
    Calls Tryz.prog 37 #[.slice (some ⟨b, 0, none⟩) 2 2] w fun en w' => en = .returned (.agg #[.pointer (some ⟨g1, 0, none⟩), .int .i64 e1]) ∧ Only w w' (fun _ => False) := by
  have hlt : b < w.heap.size := blk_lt hb
  have c0 : w.cell? ⟨b, 0, none⟩ = some (.pointer (some ⟨g1, 0, none⟩)) := blk_cell hb 0
  have c1 : w.cell? ⟨b, 1, none⟩ = some (.int .i64 e1) := blk_cell hb 1
  have hs1 : (z1.sign == 0) = false := by rw [beq_eq_false_iff_ne]; intro h; exact n1 (Int.sign_eq_zero_iff_zero.1 h)
  have hs2 : (z2.sign == 0) = true := by rw [n2]; rfl
  have HN := Lib.hid (And.intro n1 n2)
  have HB := Lib.hid hb
  clear n1 n2 hb
  go_enter Tryz.func37, Tryz.ntmps37
  go_wp2_with fail
  obtain ⟨k1, k2, k3⟩ := heap_three w (.cells #[.pointer none, .int .i64 0] 44) (.cells #[.bool false, .slice none 0 0] 87) (.cells #[.pointer (some ⟨w.heap.size + 1, 0, none⟩), .int .i64 0] 44)
  have ho3 : Only w (((w.alloc (.cells #[.pointer none, .int .i64 0] 44)).alloc (.cells #[.bool false, .slice none 0 0] 87)).alloc (.cells #[.pointer (some ⟨w.heap.size + 1, 0, none⟩), .int .i64 0] 44)) (fun _ => False) := (((Only.refl w _).alloc _).alloc _).alloc _
  refine wp_loop_rounds 3 ?_
  rw [rounds_succ]
  generalize hw3 : (((w.alloc (.cells #[.pointer none, .int .i64 0] 44)).alloc (.cells #[.bool false, .slice none 0 0] 87)).alloc (.cells #[.pointer (some ⟨w.heap.size + 1, 0, none⟩), .int .i64 0] 44)) = w3 at *
  clear hw3 c0 c1
  rw [show w.heap.size + 2 = w.heap.size + 1 + 1 from rfl] at k3
  have hb3 := (ho3.kept _ hlt (fun h => h)).trans HB.out
  have hz3 : IsInt w3 (w.heap.size + 1) none 0 := ⟨_, k2, .nil⟩
  have hi1 := h1.only ho3 (fun h => h) (fun _ _ h => h)
  have c0 : w3.cell? ⟨b, 0, none⟩ = some (.pointer (some ⟨g1, 0, none⟩)) := blk_cell hb3 0
  have c1 : w3.cell? ⟨b, 1, none⟩ = some (.int .i64 e1) := blk_cell hb3 1
  have s0 : w3.cell? ⟨w.heap.size + 1 + 1, 0, none⟩ = some (.pointer (some ⟨w.heap.size + 1, 0, none⟩)) := blk_cell k3 0
  have s1 : w3.cell? ⟨w.heap.size + 1 + 1, 1, none⟩ = some (.int .i64 0) := blk_cell k3 1
  have fs0 := blk_frozen k3 0
  have fs1 := blk_frozen k3 1
  have hsz3 : w.heap.size + 1 + 1 < w3.heap.size := blk_lt k3
  have m1 : ¬ w.heap.size + 1 + 1 = w3.heap.size := by omega
  have m2 : ¬ b = w3.heap.size := by omega
  go_wp2_with fail
  refine (sign_int g1 o1 z1 _ (hi1.only ((Only.refl w3 (fun _ => False)).alloc _) (fun h => h) (fun _ _ h => h))).mono ?_
  rintro en w4 ⟨rfl, rfl⟩
  go_wp2_with fail
  refine (sign_nil (w.heap.size + 1) none 0 _ (hz3.only ((Only.refl w3 (fun _ => False)).alloc _) (fun h => h) (fun _ _ h => h)) rfl).mono ?_
  rintro en w4 ⟨rfl, rfl⟩
  go_wp2_with fail
  rw [rounds_succ]
  have hS4 := blk_set (blk_set k3 0 (.pointer (some ⟨g1, 0, none⟩))) 1 (.int .i64 e1)
  have ho4 := (ho3.set (p := ⟨w.heap.size + 1 + 1, 0, none⟩) (.inl (by show w.heap.size ≤ w.heap.size + 1 + 1; omega)) (.pointer (some ⟨g1, 0, none⟩))).set (p := ⟨w.heap.size + 1 + 1, 1, none⟩) (.inl (by show w.heap.size ≤ w.heap.size + 1 + 1; omega)) (.int .i64 e1)
  have hR4 := blk_far (blk_far k1 (p := ⟨w.heap.size + 1 + 1, 0, none⟩) (by show w.heap.size ≠ w.heap.size + 1 + 1; omega) (.pointer (some ⟨g1, 0, none⟩))) (p := ⟨w.heap.size + 1 + 1, 1, none⟩) (by show w.heap.size ≠ w.heap.size + 1 + 1; omega) (.int .i64 e1)
  generalize (w3.setCell ⟨w.heap.size + 1 + 1, 0, none⟩ (.pointer (some ⟨g1, 0, none⟩))).setCell ⟨w.heap.size + 1 + 1, 1, none⟩ (.int .i64 e1) = w4 at *
  have hS4' : w4.heap[w.heap.size + 1 + 1]? = some (.cells #[.pointer (some ⟨g1, 0, none⟩), .int .i64 e1] 44 (0, 0)) := by simpa using hS4
  have hS5 := blk_alloc hS4' (.cells #[.pointer (some ⟨g1, 0, none⟩), .int .i64 e1] 44)
  have hR5 := blk_alloc hR4 (.cells #[.pointer (some ⟨g1, 0, none⟩), .int .i64 e1] 44)
  have ho5 := ho4.alloc (.cells #[.pointer (some ⟨g1, 0, none⟩), .int .i64 e1] 44)
  clear c0 c1 s0 s1 fs0 fs1 hb3 hz3 hi1 k1 k2 k3 ho3 hS4 hR4 ho4 hS4' hsz3 m1 m2
  generalize w4.alloc (.cells #[.pointer (some ⟨g1, 0, none⟩), .int .i64 e1] 44) = w5 at *
  clear w4
  have hb5 := (ho5.kept _ hlt (fun h => h)).trans HB.out
  have hi15 := h1.only ho5 (fun h => h) (fun _ _ h => h)
  have hi25 := h2.only ho5 (fun h => h) (fun _ _ h => h)
  have c2 : w5.cell? ⟨b, 2, none⟩ = some (.pointer (some ⟨g2, 0, none⟩)) := blk_cell hb5 2
  have c3 : w5.cell? ⟨b, 3, none⟩ = some (.int .i64 e2) := blk_cell hb5 3
  have s0 : w5.cell? ⟨w.heap.size + 1 + 1, 0, none⟩ = some (.pointer (some ⟨g1, 0, none⟩)) := blk_cell hS5 0
  have s1 : w5.cell? ⟨w.heap.size + 1 + 1, 1, none⟩ = some (.int .i64 e1) := blk_cell hS5 1
  have hsz5 : w.heap.size + 1 + 1 < w5.heap.size := blk_lt hS5
  have m1 : ¬ w.heap.size + 1 + 1 = w5.heap.size := by omega
  have m2 : ¬ b = w5.heap.size := by omega
  go_wp2_with fail
  have hoB : Only w5 (w5.alloc (.cells #[.pointer (some ⟨g2, 0, none⟩), .int .i64 e2] 44)) (fun _ => False) := (Only.refl w5 _).alloc _
  have hX6 : (w5.alloc (.cells #[.pointer (some ⟨g2, 0, none⟩), .int .i64 e2] 44)).heap[w5.heap.size]? = some (.cells #[.pointer (some ⟨g2, 0, none⟩), .int .i64 e2] 44 (0, 0)) := by simpa using heap_alloc_new w5 (.cells #[.pointer (some ⟨g2, 0, none⟩), .int .i64 e2] 44)
  refine (sign_int g2 o2 z2 _ (hi25.only hoB (fun h => h) (fun _ _ h => h))).mono ?_
  rintro en w6 ⟨rfl, rfl⟩
  go_wp2_with fail
  have hS6 := (hoB.kept _ (blk_lt hS5) (fun h => h)).trans hS5
  have hR6 := (hoB.kept _ (blk_lt hR5) (fun h => h)).trans hR5
  have ho6 := ho5.trans hoB
  clear c2 c3 s0 s1 hb5 hi15 hi25 hS5 hR5 ho5 m1 m2 hoB hX6 hsz5
  generalize w5.alloc (.cells #[.pointer (some ⟨g2, 0, none⟩), .int .i64 e2] 44) = w6 at *
  obtain ⟨t0, t1, t2, t3, t4, t5, t6, t7⟩ := plus_ret w w6 w.heap.size (w.heap.size + 1 + 1) g1 e1 ho6 hR6 hS6 (Nat.le_refl _)
  rw [rounds_succ]
  go_wp2_with fail
  refine bodyPost_ret (results_cell_row rfl _ _ w.heap.size 44 #[.pointer (some ⟨g1, 0, none⟩), .int .i64 e1] (0, 0) _ rfl t6 Tryz.underlying44 rfl (by kernel_rfl)) rfl ?_
  exact ⟨rfl, t7⟩
set_option linter.unusedSimpArgs false in
set_option maxRecDepth 100000 in
set_option maxHeartbeats 16000000 in
theorem plus2_none (b g1 g2 : Nat) (o1 o2 : Option Nat) (z1 z2 e1 e2 : Int) (w : World) (hb : w.heap[b]? = some (.cells #[.pointer (some ⟨g1, 0, none⟩), .int .i64 e1, .pointer (some ⟨g2, 0, none⟩), .int .i64 e2] 44 (0, 0)))
    (h1 : IsInt w g1 o1 z1) (h2 : IsInt w g2 o2 z2) (n1 : z1 = 0) (n2 : z2 = 0) :
    Calls Tryz.prog 37 #[.slice (some ⟨b, 0, none⟩) 2 2] w fun en w' => (∃ g, en = .returned (.agg #[.pointer (some ⟨g, 0, none⟩), .int .i64 0]) ∧ New w.heap.size w' g 0) ∧ Only w w' (fun _ => False) := by
  have hlt : b < w.heap.size := blk_lt hb
  have c0 : w.cell? ⟨b, 0, none⟩ = some (.pointer (some ⟨g1, 0, none⟩)) := blk_cell hb 0
  have c1 : w.cell? ⟨b, 1, none⟩ = some (.int .i64 e1) := blk_cell hb 1
  have hs1 : (z1.sign == 0) = true := by rw [n1]; rfl
  have hs2 : (z2.sign == 0) = true := by rw [n2]; rfl
  have HN := Lib.hid (And.intro n1 n2)
  have HB := Lib.hid hb
  clear n1 n2 hb
  go_enter Tryz.func37, Tryz.ntmps37
  go_wp2_with fail
  obtain ⟨k1, k2, k3⟩ := heap_three w (.cells #[.pointer none, .int .i64 0] 44) (.cells #[.bool false, .slice none 0 0] 87) (.cells #[.pointer (some ⟨w.heap.size + 1, 0, none⟩), .int .i64 0] 44)
  have ho3 : Only w (((w.alloc (.cells #[.pointer none, .int .i64 0] 44)).alloc (.cells #[.bool false, .slice none 0 0] 87)).alloc (.cells #[.pointer (some ⟨w.heap.size + 1, 0, none⟩), .int .i64 0] 44)) (fun _ => False) := (((Only.refl w _).alloc _).alloc _).alloc _
  refine wp_loop_rounds 3 ?_
  rw [rounds_succ]
  generalize hw3 : (((w.alloc (.cells #[.pointer none, .int .i64 0] 44)).alloc (.cells #[.bool false, .slice none 0 0] 87)).alloc (.cells #[.pointer (some ⟨w.heap.size + 1, 0, none⟩), .int .i64 0] 44)) = w3 at *
  clear hw3 c0 c1
  rw [show w.heap.size + 2 = w.heap.size + 1 + 1 from rfl] at k3
  have hb3 := (ho3.kept _ hlt (fun h => h)).trans HB.out
  have hz3 : IsInt w3 (w.heap.size + 1) none 0 := ⟨_, k2, .nil⟩
  have hi1 := h1.only ho3 (fun h => h) (fun _ _ h => h)
  have c0 : w3.cell? ⟨b, 0, none⟩ = some (.pointer (some ⟨g1, 0, none⟩)) := blk_cell hb3 0
  have c1 : w3.cell? ⟨b, 1, none⟩ = some (.int .i64 e1) := blk_cell hb3 1
  have s0 : w3.cell? ⟨w.heap.size + 1 + 1, 0, none⟩ = some (.pointer (some ⟨w.heap.size + 1, 0, none⟩)) := blk_cell k3 0
  have s1 : w3.cell? ⟨w.heap.size + 1 + 1, 1, none⟩ = some (.int .i64 0) := blk_cell k3 1
  have fs0 := blk_frozen k3 0
  have fs1 := blk_frozen k3 1
  have hsz3 : w.heap.size + 1 + 1 < w3.heap.size := blk_lt k3
  have m1 : ¬ w.heap.size + 1 + 1 = w3.heap.size := by omega
  have m2 : ¬ b = w3.heap.size := by omega
  go_wp2_with fail
  refine (sign_int g1 o1 z1 _ (hi1.only ((Only.refl w3 (fun _ => False)).alloc _) (fun h => h) (fun _ _ h => h))).mono ?_
  rintro en w4 ⟨rfl, rfl⟩
  go_wp2_with fail
  rw [rounds_succ]
  have hoB : Only w3 (w3.alloc (.cells #[.pointer (some ⟨g1, 0, none⟩), .int .i64 e1] 44)) (fun _ => False) := (Only.refl w3 _).alloc _
  have hS5 := (hoB.kept _ (blk_lt k3) (fun h => h)).trans k3
  have hR5 := (hoB.kept _ (blk_lt k1) (fun h => h)).trans k1
  have hz5 := hz3.only hoB (fun h => h) (fun _ _ h => h)
  have ho5 := ho3.trans hoB
  clear c0 c1 s0 s1 fs0 fs1 hb3 hz3 hi1 k1 k2 k3 ho3 hsz3 m1 m2 hoB
  generalize w3.alloc (.cells #[.pointer (some ⟨g1, 0, none⟩), .int .i64 e1] 44) = w5 at *
  have hb5 := (ho5.kept _ hlt (fun h => h)).trans HB.out
  have hi25 := h2.only ho5 (fun h => h) (fun _ _ h => h)
  have c2 : w5.cell? ⟨b, 2, none⟩ = some (.pointer (some ⟨g2, 0, none⟩)) := blk_cell hb5 2
  have c3 : w5.cell? ⟨b, 3, none⟩ = some (.int .i64 e2) := blk_cell hb5 3
  have s0 : w5.cell? ⟨w.heap.size + 1 + 1, 0, none⟩ = some (.pointer (some ⟨w.heap.size + 1, 0, none⟩)) := blk_cell hS5 0
  have s1 : w5.cell? ⟨w.heap.size + 1 + 1, 1, none⟩ = some (.int .i64 0) := blk_cell hS5 1
  have fs0 := blk_frozen hS5 0
  have fs1 := blk_frozen hS5 1
  have hsz5 : w.heap.size + 1 + 1 < w5.heap.size := blk_lt hS5
  have m1 : ¬ w.heap.size + 1 + 1 = w5.heap.size := by omega
  have m2 : ¬ b = w5.heap.size := by omega
  go_wp2_with fail
  have hoB : Only w5 (w5.alloc (.cells #[.pointer (some ⟨g2, 0, none⟩), .int .i64 e2] 44)) (fun _ => False) := (Only.refl w5 _).alloc _
  refine (sign_int g2 o2 z2 _ (hi25.only hoB (fun h => h) (fun _ _ h => h))).mono ?_
  rintro en w6 ⟨rfl, rfl⟩
  go_wp2_with fail
  have hS6 := (hoB.kept _ (blk_lt hS5) (fun h => h)).trans hS5
  have hR6 := (hoB.kept _ (blk_lt hR5) (fun h => h)).trans hR5
  have hz6 := hz5.only hoB (fun h => h) (fun _ _ h => h)
  have ho6 := ho5.trans hoB
  clear c2 c3 s0 s1 fs0 fs1 hb5 hi25 hS5 hR5 ho5 m1 m2 hoB hsz5 hz5
  generalize w5.alloc (.cells #[.pointer (some ⟨g2, 0, none⟩), .int .i64 e2] 44) = w6 at *
  obtain ⟨t0, t1, t2, t3, t4, t5, t6, t7⟩ := plus_ret w w6 w.heap.size (w.heap.size + 1 + 1) (w.heap.size + 1) 0 ho6 hR6 hS6 (Nat.le_refl _)
  have hN : New w.heap.size ((w6.setCell ⟨w.heap.size, 0, none⟩ (.pointer (some ⟨w.heap.size + 1, 0, none⟩))).setCell ⟨w.heap.size, 1, none⟩ (.int .i64 0)) (w.heap.size + 1) 0 :=
    ⟨none, hz6.only (((Only.refl w6 (fun k => k = w.heap.size)).set (.inr rfl) _).set (.inr rfl) _) (by omega) (fun _ h => by cases h), Nat.le_succ _, fun b h => by cases h⟩
  rw [rounds_succ]
  go_wp2_with fail
  refine bodyPost_ret (results_cell_row rfl _ _ w.heap.size 44 #[.pointer (some ⟨w.heap.size + 1, 0, none⟩), .int .i64 0] (0, 0) _ rfl t6 Tryz.underlying44 rfl (by kernel_rfl)) rfl ?_
  exact ⟨⟨_, rfl, hN⟩, t7⟩
set_option linter.unusedSimpArgs false in
set_option maxRecDepth 100000 in
set_option maxHeartbeats 16000000 in
theorem plus2_snd (b g1 g2 : Nat) (o1 o2 : Option Nat) (z1 z2 e1 e2 : Int) (w : World) (hb : w.heap[b]? = some (.cells #[.pointer (some ⟨g1, 0, none⟩), .int .i64 e1, .pointer (some ⟨g2, 0, none⟩), .int .i64 e2] 44 (0, 0)))
    (h1 : IsInt w g1 o1 z1) (h2 : IsInt w g2 o2 z2) (n1 : z1 = 0) (n2 : z2 ≠ 0) :
    Calls Tryz.prog 37 #[.slice (some ⟨b, 0, none⟩) 2 2] w fun en w' => en = .returned (.agg #[.pointer (some ⟨g2, 0, none⟩), .int .i64 e2]) ∧ Only w w' (fun _ => False) := by
  have hlt : b < w.heap.size := blk_lt hb
  have c0 : w.cell? ⟨b, 0, none⟩ = some (.pointer (some ⟨g1, 0, none⟩)) := blk_cell hb 0
  have c1 : w.cell? ⟨b, 1, none⟩ = some (.int .i64 e1) := blk_cell hb 1
  have hs1 : (z1.sign == 0) = true := by rw [n1]; rfl
  have hs2 : (z2.sign == 0) = false := by rw [beq_eq_false_iff_ne]; intro h; exact n2 (Int.sign_eq_zero_iff_zero.1 h)
  have HN := Lib.hid (And.intro n1 n2)
  have HB := Lib.hid hb
  clear n1 n2 hb
  go_enter Tryz.func37, Tryz.ntmps37
  go_wp2_with fail
  obtain ⟨k1, k2, k3⟩ := heap_three w (.cells #[.pointer none, .int .i64 0] 44) (.cells #[.bool false, .slice none 0 0] 87) (.cells #[.pointer (some ⟨w.heap.size + 1, 0, none⟩), .int .i64 0] 44)
  have ho3 : Only w (((w.alloc (.cells #[.pointer none, .int .i64 0] 44)).alloc (.cells #[.bool false, .slice none 0 0] 87)).alloc (.cells #[.pointer (some ⟨w.heap.size + 1, 0, none⟩), .int .i64 0] 44)) (fun _ => False) := (((Only.refl w _).alloc _).alloc _).alloc _
  refine wp_loop_rounds 3 ?_
  rw [rounds_succ]
  generalize hw3 : (((w.alloc (.cells #[.pointer none, .int .i64 0] 44)).alloc (.cells #[.bool false, .slice none 0 0] 87)).alloc (.cells #[.pointer (some ⟨w.heap.size + 1, 0, none⟩), .int .i64 0] 44)) = w3 at *
  clear hw3 c0 c1
  rw [show w.heap.size + 2 = w.heap.size + 1 + 1 from rfl] at k3
  have hb3 := (ho3.kept _ hlt (fun h => h)).trans HB.out
  have hz3 : IsInt w3 (w.heap.size + 1) none 0 := ⟨_, k2, .nil⟩
  have hi1 := h1.only ho3 (fun h => h) (fun _ _ h => h)
  have c0 : w3.cell? ⟨b, 0, none⟩ = some (.pointer (some ⟨g1, 0, none⟩)) := blk_cell hb3 0
  have c1 : w3.cell? ⟨b, 1, none⟩ = some (.int .i64 e1) := blk_cell hb3 1
  have s0 : w3.cell? ⟨w.heap.size + 1 + 1, 0, none⟩ = some (.pointer (some ⟨w.heap.size + 1, 0, none⟩)) := blk_cell k3 0
  have s1 : w3.cell? ⟨w.heap.size + 1 + 1, 1, none⟩ = some (.int .i64 0) := blk_cell k3 1
  have fs0 := blk_frozen k3 0
  have fs1 := blk_frozen k3 1
  have hsz3 : w.heap.size + 1 + 1 < w3.heap.size := blk_lt k3
  have m1 : ¬ w.heap.size + 1 + 1 = w3.heap.size := by omega
  have m2 : ¬ b = w3.heap.size := by omega
  go_wp2_with fail
  refine (sign_int g1 o1 z1 _ (hi1.only ((Only.refl w3 (fun _ => False)).alloc _) (fun h => h) (fun _ _ h => h))).mono ?_
  rintro en w4 ⟨rfl, rfl⟩
  go_wp2_with fail
  rw [rounds_succ]
  have hoB : Only w3 (w3.alloc (.cells #[.pointer (some ⟨g1, 0, none⟩), .int .i64 e1] 44)) (fun _ => False) := (Only.refl w3 _).alloc _
  have hS5 := (hoB.kept _ (blk_lt k3) (fun h => h)).trans k3
  have hR5 := (hoB.kept _ (blk_lt k1) (fun h => h)).trans k1
  have hz5 := hz3.only hoB (fun h => h) (fun _ _ h => h)
  have ho5 := ho3.trans hoB
  clear c0 c1 s0 s1 fs0 fs1 hb3 hz3 hi1 k1 k2 k3 ho3 hsz3 m1 m2 hoB
  generalize w3.alloc (.cells #[.pointer (some ⟨g1, 0, none⟩), .int .i64 e1] 44) = w5 at *
  have hb5 := (ho5.kept _ hlt (fun h => h)).trans HB.out
  have hi25 := h2.only ho5 (fun h => h) (fun _ _ h => h)
  have c2 : w5.cell? ⟨b, 2, none⟩ = some (.pointer (some ⟨g2, 0, none⟩)) := blk_cell hb5 2
  have c3 : w5.cell? ⟨b, 3, none⟩ = some (.int .i64 e2) := blk_cell hb5 3
  have s0 : w5.cell? ⟨w.heap.size + 1 + 1, 0, none⟩ = some (.pointer (some ⟨w.heap.size + 1, 0, none⟩)) := blk_cell hS5 0
  have s1 : w5.cell? ⟨w.heap.size + 1 + 1, 1, none⟩ = some (.int .i64 0) := blk_cell hS5 1
  have fs0 := blk_frozen hS5 0
  have fs1 := blk_frozen hS5 1
  have hsz5 : w.heap.size + 1 + 1 < w5.heap.size := blk_lt hS5
  have m1 : ¬ w.heap.size + 1 + 1 = w5.heap.size := by omega
  have m2 : ¬ b = w5.heap.size := by omega
  go_wp2_with fail
  have hoB : Only w5 (w5.alloc (.cells #[.pointer (some ⟨g2, 0, none⟩), .int .i64 e2] 44)) (fun _ => False) := (Only.refl w5 _).alloc _
  refine (sign_int g2 o2 z2 _ (hi25.only hoB (fun h => h) (fun _ _ h => h))).mono ?_
  rintro en w6 ⟨rfl, rfl⟩
  go_wp2_with fail
  refine (sign_nil (w.heap.size + 1) none 0 _ (hz5.only hoB (fun h => h) (fun _ _ h => h)) rfl).mono ?_
  rintro en w6 ⟨rfl, rfl⟩
  go_wp2_with fail
  have hS7 := blk_alloc (blk_set (blk_set hS5 0 (.pointer (some ⟨g2, 0, none⟩))) 1 (.int .i64 e2)) (.cells #[.pointer (some ⟨g2, 0, none⟩), .int .i64 e2] 44)
  have hR7 := blk_alloc (blk_far (blk_far hR5 (p := ⟨w.heap.size + 1 + 1, 0, none⟩) (by show w.heap.size ≠ w.heap.size + 1 + 1; omega) (.pointer (some ⟨g2, 0, none⟩))) (p := ⟨w.heap.size + 1 + 1, 1, none⟩) (by show w.heap.size ≠ w.heap.size + 1 + 1; omega) (.int .i64 e2)) (.cells #[.pointer (some ⟨g2, 0, none⟩), .int .i64 e2] 44)
  have ho7 := ((ho5.set (p := ⟨w.heap.size + 1 + 1, 0, none⟩) (.inl (by show w.heap.size ≤ w.heap.size + 1 + 1; omega)) (.pointer (some ⟨g2, 0, none⟩))).set (p := ⟨w.heap.size + 1 + 1, 1, none⟩) (.inl (by show w.heap.size ≤ w.heap.size + 1 + 1; omega)) (.int .i64 e2)).alloc (.cells #[.pointer (some ⟨g2, 0, none⟩), .int .i64 e2] 44)
  clear c2 c3 s0 s1 fs0 fs1 hb5 hi25 hS5 hR5 ho5 m1 m2 hoB hsz5 hz5
  generalize (((w5.setCell ⟨w.heap.size + 1 + 1, 0, none⟩ (.pointer (some ⟨g2, 0, none⟩))).setCell ⟨w.heap.size + 1 + 1, 1, none⟩ (.int .i64 e2)).alloc (.cells #[.pointer (some ⟨g2, 0, none⟩), .int .i64 e2] 44)) = w7 at *
  have hS8 : w7.heap[w.heap.size + 1 + 1]? = some (.cells #[.pointer (some ⟨g2, 0, none⟩), .int .i64 e2] 44 (0, 0)) := by simpa using hS7
  obtain ⟨t0, t1, t2, t3, t4, t5, t6, t7⟩ := plus_ret w w7 w.heap.size (w.heap.size + 1 + 1) g2 e2 ho7 hR7 hS8 (Nat.le_refl _)
  rw [rounds_succ]
  go_wp2_with fail
  refine bodyPost_ret (results_cell_row rfl _ _ w.heap.size 44 #[.pointer (some ⟨g2, 0, none⟩), .int .i64 e2] (0, 0) _ rfl t6 Tryz.underlying44 rfl (by kernel_rfl)) rfl ?_
  exact ⟨rfl, t7⟩
end Go.Proofs.YtlfmgdpbjapdjaaGreatFmtBesafter
namespace Go.Proofs.YtlfmgdpbjapdjaaGreatFmtBesafter
open Go.RowKit Go.Proofs.YtlfmgdpbjapdjaaGreatFmtBesafterW.PrintWords
set_option maxRecDepth 100000 in
set_option maxHeartbeats 4000000 in
theorem lsh_wds (bx m c q : Nat) (xs : List Int) (w : World) (hx : Blk w bx xs) (hm : 0 < m) (hmx : m ≤ xs.length) (hm2 : m + q + 5 ≤ most) (hw : Wd (fun i => xs.getD i 0) m) (hq : 0 < q) :
    Calls Tryz.prog 83 #[.slice none 0 0, .slice (some ⟨bx, 0, none⟩) m c, .int .u64 ((64 * q : Nat) : Int)] w (Got w none (num (fun i => xs.getD i 0) m * 2 ^ (64 * q))) := by
  have h1 : (((64 * q : Nat) : Int) == 0) = false := by rw [beq_eq_false_iff_ne]; omega
  have h2 : ((m : Int) == 0) = false := by rw [beq_eq_false_iff_ne]; omega
  have h3 : ((64 * q : Nat) : Int) / 64 = q := by omega
  have h4 : ((64 * q : Nat) : Int) % 64 = 0 := by omega
  have hmm : most = 274877906944 := rfl
  have hm3 : m + q + 5 ≤ 274877906944 := hm2
  have h6 : (m : Int) + q - m = q := by omega
  have h7 : (m : Int) + q + 1 = ((m + q + 1 : Nat) : Int) := by omega
  have hmk : ∀ w, Calls Tryz.prog 111 #[.slice none 0 0, .int .i64 ((m : Int) + q + 1)] w fun e w' => ∃ b zs, e = .returned (.slice (some ⟨b, 0, none⟩) (m + q + 1) zs.length) ∧ Blk w' b zs ∧ m + q + 1 ≤ zs.length ∧ zs.length ≤ most ∧ Only w w' (fun _ => False) ∧ b = w.heap.size := fun w => by
    rw [h7]
    refine (make_any (.slice none 0 0) none (m + q + 1) w .nil (by omega) (by omega)).mono ?_
    rintro e w' ⟨b, zs, h1, h2, h3, h4, h5, h6⟩
    refine ⟨b, zs, h1, h2, h3, h4, h5, ?_⟩
    rcases h6 with ⟨h, _⟩ | h
    · cases h
    · exact h
  have HX := Lib.hid hmm
  clear h7 hmm
  generalize hS : ((64 * q : Nat) : Int) = S at h1 h3 h4
  go_enter Tryz.func83, Tryz.ntmps83
  go_wp2_with fail
  refine (hmk w).mono ?_
  rintro e w1 ⟨b, zs, rfl, hb, hnz, hzm, ho, rfl⟩
  have hx1 : Blk w1 bx xs := ho.blk hx (fun h => h)
  have hne : bx ≠ w.heap.size := by have := blk_lt hx; omega
  have h8 : (zs.length : Int) - q = ((zs.length - q : Nat) : Int) := by omega
  have hcp := fun X => copy_run w.heap.size q m (zs.length - q) bx 0 m c m zs (fun j => xs.getD j 0) w1 85 X Tryz.underlying85 hb (Nat.min_self _).symm (fun j hj => (hx1.cell (0 + j) (by omega)).trans (by rw [Nat.zero_add])) (by omega)
  obtain ⟨ys, hys⟩ : ∃ ys, ys = splice zs q ((List.range m).map fun j => xs.getD j 0) := ⟨_, rfl⟩
  have hyl : ys.length = zs.length := by rw [hys]; exact length_splice _ _ _ (by simp; omega)
  have hat : ∀ j, ys.getD j 0 = if q ≤ j ∧ j < q + m then xs.getD (j - q) 0 else zs.getD j 0 := fun j => by
    rw [hys, splice_at _ _ _ _ (by simp; omega)]
    simp only [List.length_map, List.length_range]
    split
    · simp only [List.getD, List.getElem?_map]
      rw [List.getElem?_range (by omega)]; rfl
    · rfl
  rw [← hys] at hcp
  obtain ⟨w2, hw2⟩ : ∃ w2, w2 = w1.setRow w.heap.size (words ys) := ⟨_, rfl⟩
  rw [← hw2] at hcp
  have hy : Blk w2 w.heap.size ys := by rw [hw2]; exact hb.row _
  have ho2 : Only w w2 (fun _ => False) := by rw [hw2]; exact ho.row (.inl (Nat.le_refl _)) _
  have cz := hy.cell (m + q) (by omega)
  have fz := blk_frozen hy (m + q)
  have hy2 := hy.set (m + q) 0
  have hl2 : (ys.set (m + q) 0).length = zs.length := by simpa using hyl
  have hcl : ∀ ty, (Builtin.clear_ #[85] ty #[.slice (some ⟨w.heap.size, 0, none⟩) q zs.length]).run Tryz.prog (w2.setCell ⟨w.heap.size, m + q, none⟩ (.int .u64 0)) = .ok (.tuple #[]) ((w2.setCell ⟨w.heap.size, m + q, none⟩ (.int .u64 0)).setCells w.heap.size 0 (List.replicate q (.int .u64 0))) := fun ty => clear_words w.heap.size q zs.length ty _ _ hy2 hq (by omega)
  obtain ⟨vs, hv1, hv2, hv3, hv4, hv5⟩ := Blk.zeros q 0 _ _ hy2 (by omega)
  clear hw2 hys
  go_wp2_with fail
  have hmm := HX.out
  have at_s : ∀ j, q ≤ j → vs.getD j 0 = if j = m + q then 0 else ys.getD j 0 := by
    intro j hj
    rw [hv4 j (.inr (by omega))]
    simp only [List.getD, List.getElem?_set]
    by_cases h : j = m + q
    · subst h; rw [if_pos rfl, if_pos (by omega), if_pos rfl]; rfl
    · rw [if_neg (by omega), if_neg h]
  have at_x : ∀ j, j < m → vs.getD (q + j) 0 = xs.getD j 0 := fun j hj => by
    rw [at_s (q + j) (by omega), if_neg (by omega), hat, if_pos (by omega)]
    congr 1; omega
  have hn := norm_got w.heap.size (m + q + 1) _ _ hv1 (by rw [hv2, hl2]; exact hnz) (by rw [hv2, hl2]; exact hzm) (fun j hj => by
    show 0 ≤ vs.getD j 0 ∧ vs.getD j 0 < 18446744073709551616
    by_cases h0 : j < q
    · rw [hv3 j (Nat.zero_le _) (by omega)]; omega
    · by_cases h1 : j = m + q
      · rw [at_s j (by omega), if_pos h1]; omega
      · have := at_x (j - q) (by omega)
        rw [show q + (j - q) = j by omega] at this
        rw [this]; exact hw (j - q) (by omega))
  rw [hv2, hl2] at hn
  refine hn.mono ?_
  rintro e w3 ⟨v, rfl, hv, ho3⟩
  go_wp2_with fail
  go_ret
  refine ⟨v, some w.heap.size, rfl, ?_, ?_, .inr ⟨_, rfl, Nat.le_refl _⟩⟩
  · have e : num (fun i => vs.getD i 0) (m + q + 1) = num (fun i => xs.getD i 0) m * 2 ^ (64 * q) := by
      rw [show m + q + 1 = q + (m + 1) by omega, num_add, num_zero q (fun i hi => hv3 i (Nat.zero_le _) (by omega)), Int.zero_add, num, num_congr (f := fun i => vs.getD (q + i) 0) (g := fun i => xs.getD i 0) m at_x]
      show (_ + vs.getD (q + m) 0 * _) * _ = _
      rw [at_s (q + m) (by omega), if_pos (by omega)]
      simp
    rw [← e]; exact hv
  · refine (((ho2.mono (fun _ _ h => h.elim)).set (.inl (Nat.le_refl _)) _).step hv5 ?_).step ho3 (fun _ _ h => h.elim)
    rintro i hi rfl; omega
theorem lsh_new (vx : Value) (ox : Option Nat) (x : Int) (s : Nat) (w : World) (hx : IsNat w vx ox x) (hf : Fits x) (hp : 0 < x) (hs : s ≤ 68719476736) :
    Calls Tryz.prog 83 #[.slice none 0 0, vx, .int .u64 (s : Int)] w (Got w none (x * 2 ^ s)) := by
  have hmm : most = 274877906944 := rfl
  by_cases h0 : s = 0
  · subst h0
    rw [Int.pow_zero, Int.mul_one]
    exact lsh0_nat vx ox x w hx hf hp
  by_cases h1 : s < 64
  · exact lsh_nat _ none vx ox x s w .nil hx hf (by omega) h1
  by_cases h2 : s % 64 = 0
  · obtain ⟨q, rfl⟩ : ∃ q, s = 64 * q := ⟨s / 64, by omega⟩
    rcases hx.cases_ with ⟨rfl, A, c, rfl⟩ | ⟨_, b, n, ys, rfl, rfl, hb, hn, hny, hym, hr', rfl⟩
    · omega
    · have := hr'.short hf
      exact lsh_wds b n ys.length q ys w hb hn hny (by omega) hr'.1 (by omega)
  · obtain ⟨q, r, rfl, h3, h4⟩ : ∃ q r, s = 64 * q + r ∧ 0 < r ∧ r < 64 := ⟨s / 64, s % 64, by omega, by omega, by omega⟩
    exact lshb_nat vx ox x q r w hx hf hp (by omega) (by omega) h3 h4
set_option maxRecDepth 100000 in
set_option maxHeartbeats 2000000 in
theorem lsh_new_int (gz gx : Nat) (ox : Option Nat) (x : Int) (s : Nat) (w : World) (hz : IsInt w gz none 0) (hx : IsInt w gx ox x) (hf : Fits (Int.natAbs x)) (hp : x ≠ 0) (hs : s ≤ 68719476736) :
    Calls Tryz.prog 46 #[.pointer (some ⟨gz, 0, none⟩), .pointer (some ⟨gx, 0, none⟩), .int .u64 (s : Int)] w fun e w' => e = .returned (.pointer (some ⟨gz, 0, none⟩)) ∧ Put w w' gz none (x * 2 ^ s) := by
  obtain ⟨vz, hgz, hnz⟩ := id hz
  obtain ⟨vx, hgx, hnx⟩ := id hx
  have hx1 := hnx.drew
  have hvz := hnz.none_ rfl
  subst hvz
  have c1 : w.cell? ⟨gz, 1, none⟩ = some (.slice none 0 0) := blk_cell hgz 1
  have d1 : w.cell? ⟨gx, 1, none⟩ = some vx := blk_cell hgx 1
  have K : ∀ w1, Only w.drew w1 (fun k => (none : Option Nat) = some k) → w1.cell? ⟨gz, 1, none⟩ = some (.slice none 0 0) ∧ w1.frozen? ⟨gz, 1, none⟩ = false ∧ w1.frozen? ⟨gz, 0, none⟩ = false ∧ w1.cell? ⟨gz, 0, none⟩ = some (.bool (decide ((0 : Int) < 0))) ∧ w1.cell? ⟨gx, 0, none⟩ = some (.bool (decide (x < 0))) := fun w1 ho => by
    have e1 := blk_held hnz hgz ho
    have e2 := blk_held hnz hgx ho
    exact ⟨blk_cell e1 1, blk_frozen e1 1, blk_frozen e1 0, blk_cell e1 0, blk_cell e2 0⟩
  have HK := Lib.hid K
  have HL := Lib.hid (lsh_new vx ox _ s w.drew hx1 hf (by omega) hs)
  clear K
  go_enter Tryz.func46, Tryz.ntmps46
  go_wp2_with fail
  go_region_law (go_simp; go_at_call 83; refine HL.out.mono ?_; rintro e w1 ⟨v, o', rfl, hv, ho, hoo⟩; obtain ⟨A, n, c, rfl⟩ := hv.slice_; obtain ⟨k1, k2, k3, k4, k5⟩ := HK.out _ ho)
  all_goals
    go_wp2_with fail
    go_ret
    have h := Put.from_drew (r := x * 2 ^ s) hz (o' := o') (by rw [natAbs_pow]; exact hv) ho hoo
    rw [sign_pow] at h
    exact ⟨rfl, h⟩
def sumZ (z1 e1 z2 e2 : Int) : Int := if z1 = 0 then z2 else if z2 = 0 then z1 else z1 * 2 ^ (e1 - min e1 e2).toNat + z2 * 2 ^ (e2 - min e1 e2).toNat
def sumE (z1 e1 z2 e2 : Int) : Int := if z1 = 0 then (if z2 = 0 then 0 else e2) else if z2 = 0 then e1 else min e1 e2
def Bits (k : Nat) (z : Int) : Prop := (Int.natAbs z : Int) < 2 ^ k
theorem Bits.fits {k : Nat} {z : Int} (h : Bits k z) (hk : k ≤ 1073741824) : Fits (Int.natAbs z : Nat) := Fits.of h hk
theorem Bits.shl {k s : Nat} {z : Int} (h : Bits k z) : Bits (k + s) (z * 2 ^ s) := by
  unfold Bits at *
  rw [natAbs_pow, Int.pow_add]
  exact Int.mul_lt_mul_of_pos_right h (Int.pow_pos (by omega))
theorem Bits.neg {k : Nat} {z : Int} (h : Bits k z) : Bits k (-z) := by unfold Bits at *; rwa [Int.natAbs_neg]
theorem plus_any (b g1 g2 : Nat) (o1 o2 : Option Nat) (z1 z2 e1 e2 : Int) (k1 k2 : Nat) (w : World) (hb : w.heap[b]? = some (.cells #[.pointer (some ⟨g1, 0, none⟩), .int .i64 e1, .pointer (some ⟨g2, 0, none⟩), .int .i64 e2] 44 (0, 0)))
    (h1 : IsInt w g1 o1 z1) (h2 : IsInt w g2 o2 z2) (hk1 : Bits k1 z1) (hk2 : Bits k2 z2) (l1 : k1 ≤ 1000000) (l2 : k2 ≤ 1000000) (a1 : -4194304 ≤ e1) (a2 : e1 ≤ 4194304) (b1 : -4194304 ≤ e2) (b2 : e2 ≤ 4194304) :
    Calls Tryz.prog 37 #[.slice (some ⟨b, 0, none⟩) 2 2] w fun en w' => ∃ g, en = .returned (.agg #[.pointer (some ⟨g, 0, none⟩), .int .i64 (sumE z1 e1 z2 e2)]) ∧ (∃ o, IsInt w' g o (sumZ z1 e1 z2 e2)) ∧ Only w w' (fun _ => False) := by
  by_cases n1 : z1 = 0
  · by_cases n2 : z2 = 0
    · refine (plus2_none b g1 g2 o1 o2 z1 z2 e1 e2 w hb h1 h2 n1 n2).mono ?_
      rintro en w' ⟨⟨g, rfl, o, h, _⟩, ho⟩
      refine ⟨g, ?_, ⟨o, ?_⟩, ho⟩
      · unfold sumE; rw [if_pos n1, if_pos n2]
      · unfold sumZ; rw [if_pos n1, n2]; exact h
    · refine (plus2_snd b g1 g2 o1 o2 z1 z2 e1 e2 w hb h1 h2 n1 n2).mono ?_
      rintro en w' ⟨rfl, ho⟩
      refine ⟨g2, ?_, ⟨o2, ?_⟩, ho⟩
      · unfold sumE; rw [if_pos n1, if_neg n2]
      · unfold sumZ; rw [if_pos n1]; exact h2.only ho (fun h => h) (fun _ _ h => h)
  · by_cases n2 : z2 = 0
    · refine (plus2_fst b g1 g2 o1 o2 z1 z2 e1 e2 w hb h1 h2 n1 n2).mono ?_
      rintro en w' ⟨rfl, ho⟩
      refine ⟨g1, ?_, ⟨o1, ?_⟩, ho⟩
      · unfold sumE; rw [if_neg n1, if_pos n2]
      · unfold sumZ; rw [if_neg n1, if_pos n2]; exact h1.only ho (fun h => h) (fun _ _ h => h)
    · have hE : sumE z1 e1 z2 e2 = min e1 e2 := by unfold sumE; rw [if_neg n1, if_neg n2]
      have hZ : sumZ z1 e1 z2 e2 = z1 * 2 ^ (e1 - min e1 e2).toNat + z2 * 2 ^ (e2 - min e1 e2).toNat := by unfold sumZ; rw [if_neg n1, if_neg n2]
      by_cases he : e1 ≤ e2
      · obtain ⟨s, hs⟩ : ∃ s : Nat, e2 - e1 = s := ⟨(e2 - e1).toNat, by omega⟩
        rw [hE, hZ, show min e1 e2 = e1 by omega, Int.sub_self, hs, Int.toNat_natCast, Int.toNat_zero, Int.pow_zero, Int.mul_one]
        refine (plus2_up b g1 g2 o1 o2 z1 z2 e1 e2 (z2 * 2 ^ s) (z1 + z2 * 2 ^ s) w hb h1 h2 n1 n2 he (by omega) (by omega) (fun W gz ho hz _ => ?_) (fun W gz gy oy ho hz hy _ => ?_)).mono ?_
        · rw [hs]
          exact lsh_new_int gz g2 o2 z2 s W hz (h2.only ho (fun h => h) (fun _ _ h => h)) (hk2.fits (by omega)) n2 (by omega)
        · exact add_int gz g1 gy o1 oy 0 z1 (z2 * 2 ^ s) W hz (h1.only ho (fun h => h) (fun _ _ h => h)) hy (hk1.fits (by omega)) (hk2.shl.fits (by omega))
        · rintro en w' ⟨g, rfl, ⟨o, h, _⟩, ho⟩
          exact ⟨g, rfl, ⟨o, h⟩, ho⟩
      · obtain ⟨s, hs⟩ : ∃ s : Nat, e1 - e2 = s := ⟨(e1 - e2).toNat, by omega⟩
        rw [hE, hZ, show min e1 e2 = e2 by omega, Int.sub_self, hs, Int.toNat_natCast, Int.toNat_zero, Int.pow_zero, Int.mul_one]
        refine (plus2_down b g1 g2 o1 o2 z1 z2 e1 e2 (z1 * 2 ^ s) (z1 * 2 ^ s + z2) w hb h1 h2 n1 n2 (by omega) (by omega) (by omega) (fun W gz ho hz _ => ?_) (fun W gz gy oy ho hz hy _ => ?_)).mono ?_
        · rw [hs]
          exact lsh_new_int gz g1 o1 z1 s W hz (h1.only ho (fun h => h) (fun _ _ h => h)) (hk1.fits (by omega)) n1 (by omega)
        · rw [Int.add_comm]
          exact add_int gz g2 gy o2 oy 0 z2 (z1 * 2 ^ s) W hz (h2.only ho (fun h => h) (fun _ _ h => h)) hy (hk2.fits (by omega)) (hk1.shl.fits (by omega))
        · rintro en w' ⟨g, rfl, ⟨o, h, _⟩, ho⟩
          exact ⟨g, rfl, ⟨o, h⟩, ho⟩
theorem Digs.tail {d : Int} {ds : List Int} (h : Digs (d :: ds)) : 0 ≤ d ∧ d < 1073741824 ∧ Digs ds := ⟨(h d List.mem_cons_self).1, (h d List.mem_cons_self).2, fun x hx => h x (List.mem_cons_of_mem _ hx)⟩
theorem val_inj : ∀ (ds es : List Int), Digs ds → Digs es → ds.length = es.length → val ds = val es → ds = es
  | [], [], _, _, _, _ => rfl
  | [], _ :: _, _, _, h, _ => by simp at h
  | _ :: _, [], _, _, h, _ => by simp at h
  | d :: ds, e :: es, h1, h2, h3, h4 => by
    obtain ⟨a, b, c⟩ := h1.tail
    obtain ⟨a', b', c'⟩ := h2.tail
    simp only [val] at h4
    obtain rfl : d = e := by omega
    rw [val_inj ds es c c' (by simpa using h3) (by omega)]
theorem val_low : ∀ (ds : List Int), Nm ds → 0 < ds.length → 2 ^ (30 * (ds.length - 1)) ≤ val ds
  | [], _, h => by simp at h
  | [d], h, _ => by
    have h1 := h.2 (by simp)
    obtain ⟨a, b, _⟩ := h.1.tail
    simp [val] at *
    omega
  | d :: e :: ds, h, _ => by
    obtain ⟨a, b, c⟩ := h.1.tail
    have h1 := val_low (e :: ds) ⟨c, fun _ => by simpa using h.2 (by simp)⟩ (by simp)
    rw [val, show 30 * ((d :: e :: ds).length - 1) = 30 + 30 * ((e :: ds).length - 1) by simp; omega, Int.pow_add]
    have e30 : (2 : Int) ^ 30 = 1073741824 := by decide
    rw [e30]
    generalize (2 : Int) ^ (30 * ((e :: ds).length - 1)) = P at *
    omega
theorem len_le {ds es : List Int} (h1 : Nm ds) (h2 : Nm es) (h : val ds = val es) : ds.length ≤ es.length := by
  by_cases h0 : 0 < ds.length
  · have a := val_low ds h1 h0
    have b := (val_range es h2.1).2
    rw [← h] at b
    have := pow_lt (Int.lt_of_le_of_lt a b)
    omega
  · omega
theorem nm_inj {ds es : List Int} (h1 : Nm ds) (h2 : Nm es) (h : val ds = val es) : ds = es :=
  val_inj ds es h1.1 h2.1 (Nat.le_antisymm (len_le h1 h2 h) (len_le h2 h1 h.symm)) h
theorem odd_shift {x q : Int} {t : Nat} (h : x = q * 2 ^ t) (hx : x % 2 = 1) : t = 0 ∧ q = x := by
  cases t with
  | zero => simp at h; exact ⟨rfl, h.symm⟩
  | succ t =>
    exfalso
    rw [Int.pow_succ, ← Int.mul_assoc] at h
    omega
theorem blen_digs {ds : List Int} (h : Digs ds) (hl : ds.length ≤ 2000) {k : Nat} (hk : BLen (val ds) k) : k ≤ 60000 := by
  by_cases h0 : 0 < k
  · have a := hk.2 h0
    have b := (val_range ds h).2
    have := pow_lt (Int.lt_of_le_of_lt a b)
    omega
  · omega
theorem reads_lit (w : World) (xs : List Int) (hl : xs.length ≤ 1000) : ReadsInt (w.alloc (.cells (nums .i64 xs).toArray 3)) .i64 (some ⟨w.heap.size, 0, none⟩) xs.length xs := by
  obtain ⟨A, c, h1, h2⟩ := own_reads (own_lit w 0 3 .i64 xs (Nat.zero_le _) (by omega))
  cases h1
  exact h2
theorem own_row_some {w : World} {B n : Nat} {v : Value} {xs : List Value} {e : TypeId} (h : w.ownsRow B e 1 v n xs) (hn : 0 < n) : ∃ g cap, v = .slice (some ⟨g, 0, none⟩) n cap ∧ B ≤ g ∧ n ≤ cap := by
  rcases h.2 with ⟨_, h0⟩ | ⟨g, cap, cur, rfl, hb, _, hc, _⟩
  · omega
  · exact ⟨g, cap, rfl, hb, hc⟩
theorem stored1 {w : World} {Y : Nat} {x y z : Value} (hY : w.heap[Y]? = some (.cells #[x, y, z] 24 (0, 0))) (a b c : Value) :
    (((w.setCell ⟨Y, 0, none⟩ a).setCell ⟨Y, 1, none⟩ b).setCell ⟨Y, 2, none⟩ c).heap[Y]? = some (.cells #[a, b, c] 24 (0, 0)) ∧ Only w (((w.setCell ⟨Y, 0, none⟩ a).setCell ⟨Y, 1, none⟩ b).setCell ⟨Y, 2, none⟩ c) (fun k => k = Y) := by
  have h1 := blk_set (blk_set (blk_set hY 0 a) 1 b) 2 c
  refine ⟨?_, ?_⟩
  · simpa using h1
  · exact (((Only.refl w (fun k => k = Y)).set (p := ⟨Y, 0, none⟩) (.inr rfl) a).set (p := ⟨Y, 1, none⟩) (.inr rfl) b).set (p := ⟨Y, 2, none⟩) (.inr rfl) c
end Go.Proofs.YtlfmgdpbjapdjaaGreatFmtBesafter
