/- Part 14 of the walk: ExK ExL NatU NatW NatX. -/
import Derived.Test.YtlfmgdpbjapdjaaGreatFmtBesafterPt12
import Derived.Test.YtlfmgdpbjapdjaaGreatFmtBesafterPt04
import Derived.Test.YtlfmgdpbjapdjaaGreatFmtBesafterPt03
import Derived.LaidEql
import Derived.StillTailTactics
namespace Go.Proofs.YtlfmgdpbjapdjaaGreatFmtBesafter
open Go.RowKit Go.Proofs.YtlfmgdpbjapdjaaGreatFmtBesafterW.PrintWords Go.Proofs.YtlfmgdpbjapdjaaGreatFmtBesafterW.PrintLast
theorem Put.keep_ {w W : World} {g g2 : Nat} {z : Int} (h : Put w W g none z) {cs : Array Value} (hc : cs = #[.bool false, .slice none 0 0]) (hz : w.heap[g2]? = some (.cells cs 87 (0, 0))) (hne : g2 ≠ g) : IsInt W g2 none 0 := by
  subst hc
  obtain ⟨o', h1, h2, h3⟩ := h
  have e := h2.kept _ (blk_lt hz) (by rintro (h | h); exact hne h; cases h)
  exact ⟨_, e.trans hz, .nil⟩
theorem plus_end (w w6 : World) (R S : Nat) {wA : World} (g g1 : Nat) (zr e1 : Int) (ho : Only w6 wA (fun _ => False)) (hN : New w6.heap.size wA g zr) (ho6 : Only w w6 (fun _ => False))
    (hR : w6.heap[R]? = some (.cells #[.pointer none, .int .i64 0] 44 (0, 0))) (hS : w6.heap[S]? = some (.cells #[.pointer (some ⟨g1, 0, none⟩), .int .i64 e1] 44 (0, 0))) (hR0 : w.heap.size ≤ R) (hS0 : w.heap.size ≤ S) (hne : R ≠ S) :
    ∃ w7, w7 = (wA.setCell ⟨S, 0, none⟩ (.pointer (some ⟨g, 0, none⟩))).setCell ⟨S, 1, none⟩ (.int .i64 e1) ∧ w7.cell? ⟨S, 0, none⟩ = some (.pointer (some ⟨g, 0, none⟩)) ∧
    w7.cell? ⟨S, 1, none⟩ = some (.int .i64 e1) ∧
    w7.frozen? ⟨R, 0, none⟩ = false ∧
    w7.frozen? ⟨R, 1, none⟩ = false ∧ w7.cell? ⟨R, 0, none⟩ = some (.pointer none) ∧ w7.cell? ⟨R, 1, none⟩ = some (.int .i64 0) ∧
    ((w7.setCell ⟨R, 0, none⟩ (.pointer (some ⟨g, 0, none⟩))).setCell ⟨R, 1, none⟩ (.int .i64 e1)).heap[R]? = some (.cells #[.pointer (some ⟨g, 0, none⟩), .int .i64 e1] 44 (0, 0)) ∧
    New w.heap.size ((w7.setCell ⟨R, 0, none⟩ (.pointer (some ⟨g, 0, none⟩))).setCell ⟨R, 1, none⟩ (.int .i64 e1)) g zr ∧
    Only w ((w7.setCell ⟨R, 0, none⟩ (.pointer (some ⟨g, 0, none⟩))).setCell ⟨R, 1, none⟩ (.int .i64 e1)) (fun _ => False) := by
  have hSA := (ho.kept _ (blk_lt hS) (fun h => h)).trans hS
  have hRA := (ho.kept _ (blk_lt hR) (fun h => h)).trans hR
  have s1 := blk_set (blk_set hSA 0 (.pointer (some ⟨g, 0, none⟩))) 1 (.int .i64 e1)
  have r1 := blk_far (blk_far hRA (p := ⟨S, 0, none⟩) hne (.pointer (some ⟨g, 0, none⟩))) (p := ⟨S, 1, none⟩) hne (.int .i64 e1)
  have r2 := blk_set (blk_set r1 0 (.pointer (some ⟨g, 0, none⟩))) 1 (.int .i64 e1)
  have s2 : ((wA.setCell ⟨S, 0, none⟩ (.pointer (some ⟨g, 0, none⟩))).setCell ⟨S, 1, none⟩ (.int .i64 e1)).heap[S]? = some (.cells #[.pointer (some ⟨g, 0, none⟩), .int .i64 e1] 44 (0, 0)) := by simpa using s1
  have hoE : Only wA ((((wA.setCell ⟨S, 0, none⟩ (.pointer (some ⟨g, 0, none⟩))).setCell ⟨S, 1, none⟩ (.int .i64 e1)).setCell ⟨R, 0, none⟩ (.pointer (some ⟨g, 0, none⟩))).setCell ⟨R, 1, none⟩ (.int .i64 e1)) (fun k => k = S ∨ k = R) :=
    (((((Only.refl wA (fun k => k = S ∨ k = R)).set (.inr (.inl rfl)) _).set (.inr (.inl rfl)) _).set (.inr (.inr rfl)) _).set (.inr (.inr rfl)) _)
  have l1 := blk_lt hS
  have l2 := blk_lt hR
  have l3 := ho6.base.size
  refine ⟨_, rfl, blk_cell s2 0, blk_cell s2 1, blk_frozen r1 0, blk_frozen r1 1, blk_cell r1 0, blk_cell r1 1, by simpa using r2, hN.far l3 hoE ?_, (ho6.trans ho).step hoE ?_⟩
  · rintro k (rfl | rfl) <;> assumption
  · rintro k hk (rfl | rfl) <;> omega
set_option linter.unusedSimpArgs false in
set_option maxRecDepth 100000 in
set_option maxHeartbeats 16000000 in
theorem plus2_up (b g1 g2 : Nat) (o1 o2 : Option Nat) (z1 z2 e1 e2 zs zr : Int) (w : World) (hb : w.heap[b]? = some (.cells #[.pointer (some ⟨g1, 0, none⟩), .int .i64 e1, .pointer (some ⟨g2, 0, none⟩), .int .i64 e2] 44 (0, 0)))
    (h1 : IsInt w g1 o1 z1) (h2 : IsInt w g2 o2 z2) (n1 : z1 ≠ 0) (n2 : z2 ≠ 0) (he : e1 ≤ e2) (hb1 : -4611686018427387904 ≤ e1) (hb2 : e2 ≤ 4611686018427387904)
    (HL : ∀ (W : World) (gz : Nat), Only w W (fun _ => False) → IsInt W gz none 0 → w.heap.size ≤ gz → Calls Tryz.prog 46 #[.pointer (some ⟨gz, 0, none⟩), .pointer (some ⟨g2, 0, none⟩), .int .u64 (e2 - e1)] W fun e W' => e = .returned (.pointer (some ⟨gz, 0, none⟩)) ∧ Put W W' gz none zs)
    (HA : ∀ (W : World) (gz gy : Nat) (oy : Option Nat), Only w W (fun _ => False) → IsInt W gz none 0 → IsInt W gy oy zs → gz ≠ gy → Calls Tryz.prog 71 #[.pointer (some ⟨gz, 0, none⟩), .pointer (some ⟨g1, 0, none⟩), .pointer (some ⟨gy, 0, none⟩)] W fun e W' => e = .returned (.pointer (some ⟨gz, 0, none⟩)) ∧ Put W W' gz none zr) :
    Calls Tryz.prog 37 #[.slice (some ⟨b, 0, none⟩) 2 2] w fun en w' => ∃ g, en = .returned (.agg #[.pointer (some ⟨g, 0, none⟩), .int .i64 e1]) ∧ New w.heap.size w' g zr ∧ Only w w' (fun _ => False) := by
  have hlt : b < w.heap.size := blk_lt hb
  have c0 : w.cell? ⟨b, 0, none⟩ = some (.pointer (some ⟨g1, 0, none⟩)) := blk_cell hb 0
  have c1 : w.cell? ⟨b, 1, none⟩ = some (.int .i64 e1) := blk_cell hb 1
  have hs1 : (z1.sign == 0) = false := by rw [beq_eq_false_iff_ne]; intro h; exact n1 (Int.sign_eq_zero_iff_zero.1 h)
  have hs2 : (z2.sign == 0) = false := by rw [beq_eq_false_iff_ne]; intro h; exact n2 (Int.sign_eq_zero_iff_zero.1 h)
  have HLL := Lib.hid HL
  have HAA := Lib.hid HA
  have HN := Lib.hid (And.intro n1 n2)
  have HB := Lib.hid hb
  clear HL HA n1 n2 hb
  go_enter Tryz.func37, Tryz.ntmps37
  go_wp2_with fail
  obtain ⟨k1, k2, k3⟩ := heap_three w (.cells #[.pointer none, .int .i64 0] 44) (.cells #[.bool false, .slice none 0 0] 87) (.cells #[.pointer (some ⟨w.heap.size + 1, 0, none⟩), .int .i64 0] 44)
  have ho3 : Only w (((w.alloc (.cells #[.pointer none, .int .i64 0] 44)).alloc (.cells #[.bool false, .slice none 0 0] 87)).alloc (.cells #[.pointer (some ⟨w.heap.size + 1, 0, none⟩), .int .i64 0] 44)) (fun _ => False) := (((Only.refl w _).alloc _).alloc _).alloc _
  refine wp_loop_rounds 3 ?_
  rw [rounds_succ]
  generalize hw3 : (((w.alloc (.cells #[.pointer none, .int .i64 0] 44)).alloc (.cells #[.bool false, .slice none 0 0] 87)).alloc (.cells #[.pointer (some ⟨w.heap.size + 1, 0, none⟩), .int .i64 0] 44)) = w3 at *
  clear hw3 c0 c1
  rw [show w.heap.size + 2 = w.heap.size + 1 + 1 from rfl] at k3
  have hb3 := (ho3.kept _ hlt (fun h => h)).trans HB.out
  have hz3 : IsInt w3 (w.heap.size + 1) none 0 := ⟨_, k2, .nil⟩
  have hi1 := h1.only ho3 (fun h => h) (fun _ _ h => h)
  have c0 : w3.cell? ⟨b, 0, none⟩ = some (.pointer (some ⟨g1, 0, none⟩)) := blk_cell hb3 0
  have c1 : w3.cell? ⟨b, 1, none⟩ = some (.int .i64 e1) := blk_cell hb3 1
  have s0 : w3.cell? ⟨w.heap.size + 1 + 1, 0, none⟩ = some (.pointer (some ⟨w.heap.size + 1, 0, none⟩)) := blk_cell k3 0
  have s1 : w3.cell? ⟨w.heap.size + 1 + 1, 1, none⟩ = some (.int .i64 0) := blk_cell k3 1
  have fs0 := blk_frozen k3 0
  have fs1 := blk_frozen k3 1
  have hsz3 : w.heap.size + 1 + 1 < w3.heap.size := blk_lt k3
  have m1 : ¬ w.heap.size + 1 + 1 = w3.heap.size := by omega
  have m2 : ¬ b = w3.heap.size := by omega
  go_wp2_with fail
  refine (sign_int g1 o1 z1 _ (hi1.only ((Only.refl w3 (fun _ => False)).alloc _) (fun h => h) (fun _ _ h => h))).mono ?_
  rintro en w4 ⟨rfl, rfl⟩
  go_wp2_with fail
  refine (sign_nil (w.heap.size + 1) none 0 _ (hz3.only ((Only.refl w3 (fun _ => False)).alloc _) (fun h => h) (fun _ _ h => h)) rfl).mono ?_
  rintro en w4 ⟨rfl, rfl⟩
  go_wp2_with fail
  rw [rounds_succ]
  have hS4 := blk_set (blk_set k3 0 (.pointer (some ⟨g1, 0, none⟩))) 1 (.int .i64 e1)
  have ho4 := (ho3.set (p := ⟨w.heap.size + 1 + 1, 0, none⟩) (.inl (by show w.heap.size ≤ w.heap.size + 1 + 1; omega)) (.pointer (some ⟨g1, 0, none⟩))).set (p := ⟨w.heap.size + 1 + 1, 1, none⟩) (.inl (by show w.heap.size ≤ w.heap.size + 1 + 1; omega)) (.int .i64 e1)
  have hR4 := blk_far (blk_far k1 (p := ⟨w.heap.size + 1 + 1, 0, none⟩) (by show w.heap.size ≠ w.heap.size + 1 + 1; omega) (.pointer (some ⟨g1, 0, none⟩))) (p := ⟨w.heap.size + 1 + 1, 1, none⟩) (by show w.heap.size ≠ w.heap.size + 1 + 1; omega) (.int .i64 e1)
  generalize (w3.setCell ⟨w.heap.size + 1 + 1, 0, none⟩ (.pointer (some ⟨g1, 0, none⟩))).setCell ⟨w.heap.size + 1 + 1, 1, none⟩ (.int .i64 e1) = w4 at *
  have hS4' : w4.heap[w.heap.size + 1 + 1]? = some (.cells #[.pointer (some ⟨g1, 0, none⟩), .int .i64 e1] 44 (0, 0)) := by simpa using hS4
  have hS5 := blk_alloc hS4' (.cells #[.pointer (some ⟨g1, 0, none⟩), .int .i64 e1] 44)
  have hR5 := blk_alloc hR4 (.cells #[.pointer (some ⟨g1, 0, none⟩), .int .i64 e1] 44)
  have ho5 := ho4.alloc (.cells #[.pointer (some ⟨g1, 0, none⟩), .int .i64 e1] 44)
  clear c0 c1 s0 s1 fs0 fs1 hb3 hz3 hi1 k1 k2 k3 ho3 hS4 hR4 ho4 hS4' hsz3 m1 m2
  generalize w4.alloc (.cells #[.pointer (some ⟨g1, 0, none⟩), .int .i64 e1] 44) = w5 at *
  clear w4
  have hb5 := (ho5.kept _ hlt (fun h => h)).trans HB.out
  have hi15 := h1.only ho5 (fun h => h) (fun _ _ h => h)
  have hi25 := h2.only ho5 (fun h => h) (fun _ _ h => h)
  have c2 : w5.cell? ⟨b, 2, none⟩ = some (.pointer (some ⟨g2, 0, none⟩)) := blk_cell hb5 2
  have c3 : w5.cell? ⟨b, 3, none⟩ = some (.int .i64 e2) := blk_cell hb5 3
  have s0 : w5.cell? ⟨w.heap.size + 1 + 1, 0, none⟩ = some (.pointer (some ⟨g1, 0, none⟩)) := blk_cell hS5 0
  have s1 : w5.cell? ⟨w.heap.size + 1 + 1, 1, none⟩ = some (.int .i64 e1) := blk_cell hS5 1
  have hsz5 : w.heap.size + 1 + 1 < w5.heap.size := blk_lt hS5
  have m1 : ¬ w.heap.size + 1 + 1 = w5.heap.size := by omega
  have m2 : ¬ b = w5.heap.size := by omega
  go_wp2_with fail
  have hoB : Only w5 (w5.alloc (.cells #[.pointer (some ⟨g2, 0, none⟩), .int .i64 e2] 44)) (fun _ => False) := (Only.refl w5 _).alloc _
  have hX6 : (w5.alloc (.cells #[.pointer (some ⟨g2, 0, none⟩), .int .i64 e2] 44)).heap[w5.heap.size]? = some (.cells #[.pointer (some ⟨g2, 0, none⟩), .int .i64 e2] 44 (0, 0)) := by simpa using heap_alloc_new w5 (.cells #[.pointer (some ⟨g2, 0, none⟩), .int .i64 e2] 44)
  refine (sign_int g2 o2 z2 _ (hi25.only hoB (fun h => h) (fun _ _ h => h))).mono ?_
  rintro en w6 ⟨rfl, rfl⟩
  go_wp2_with fail
  refine (sign_int g1 o1 z1 _ (hi15.only hoB (fun h => h) (fun _ _ h => h))).mono ?_
  rintro en w6 ⟨rfl, rfl⟩
  have hS6 := blk_alloc hS5 (.cells #[.pointer (some ⟨g2, 0, none⟩), .int .i64 e2] 44)
  have hR6 := blk_alloc hR5 (.cells #[.pointer (some ⟨g2, 0, none⟩), .int .i64 e2] 44)
  have ho6 := ho5.trans hoB
  clear c2 c3 s0 s1 hb5 hi15 hi25 hS5 hR5 ho5 m1 m2 hoB
  generalize hX : w5.heap.size = X at *
  generalize w5.alloc (.cells #[.pointer (some ⟨g2, 0, none⟩), .int .i64 e2] 44) = w6 at *
  clear hX w5
  have s0 : w6.cell? ⟨w.heap.size + 1 + 1, 0, none⟩ = some (.pointer (some ⟨g1, 0, none⟩)) := blk_cell hS6 0
  have s1 : w6.cell? ⟨w.heap.size + 1 + 1, 1, none⟩ = some (.int .i64 e1) := blk_cell hS6 1
  have x0 : w6.cell? ⟨X, 0, none⟩ = some (.pointer (some ⟨g2, 0, none⟩)) := blk_cell hX6 0
  have x1 : w6.cell? ⟨X, 1, none⟩ = some (.int .i64 e2) := blk_cell hX6 1
  have fs0 := blk_frozen hS6 0
  have fs1 := blk_frozen hS6 1
  have hX6l : X < w6.heap.size := blk_lt hX6
  go_wp2_with fail
  have K : ∀ W, Only w6 W (fun _ => False) → W.cell? ⟨w.heap.size + 1 + 1, 0, none⟩ = some (.pointer (some ⟨g1, 0, none⟩)) ∧ W.cell? ⟨w.heap.size + 1 + 1, 1, none⟩ = some (.int .i64 e1) ∧ W.cell? ⟨X, 0, none⟩ = some (.pointer (some ⟨g2, 0, none⟩)) ∧ W.cell? ⟨X, 1, none⟩ = some (.int .i64 e2) ∧ W.frozen? ⟨w.heap.size + 1 + 1, 0, none⟩ = false ∧ W.frozen? ⟨w.heap.size + 1 + 1, 1, none⟩ = false ∧ (¬ w.heap.size + 1 + 1 = W.heap.size) ∧ (¬ X = W.heap.size) ∧ W.heap[w.heap.size + 1 + 1]? = some (.cells #[.pointer (some ⟨g1, 0, none⟩), .int .i64 e1] 44 (0, 0)) ∧ w6.heap.size ≤ W.heap.size := fun W h => by
    have h1 := (h.kept _ (blk_lt hS6) (fun h => h)).trans hS6
    have h2 := (h.kept _ (blk_lt hX6) (fun h => h)).trans hX6
    exact ⟨blk_cell h1 0, blk_cell h1 1, blk_cell h2 0, blk_cell h2 1, blk_frozen h1 0, blk_frozen h1 1, Nat.ne_of_lt (blk_lt h1), Nat.ne_of_lt (blk_lt h2), h1, h.base.size⟩
  have HK := Lib.hid K
  clear K
  have hsz6 : w.heap.size + 1 + 1 < w6.heap.size := blk_lt hS6
  have HSZ := Lib.hid (And.intro hsz6 hX6l)
  have m1 : ¬ w.heap.size + 1 + 1 = w6.heap.size := by omega
  have m2 : ¬ X = w6.heap.size := by omega
  have m3 : ¬ w.heap.size + 1 + 1 = w6.heap.size + 1 := by omega
  have m4 : ¬ X = w6.heap.size + 1 := by omega
  clear hsz6 hX6l
  have ho6a := ho6.alloc (.cells #[.bool false, .slice none 0 0] 87)
  have hoA : Only w6 (w6.alloc (.cells #[.bool false, .slice none 0 0] 87)) (fun _ => False) := (Only.refl w6 _).alloc _
  have hoB : Only w6 ((w6.alloc (.cells #[.bool false, .slice none 0 0] 87)).alloc (.cells #[.bool false, .slice none 0 0] 87)) (fun _ => False) := ((Only.refl w6 _).alloc _).alloc _
  obtain ⟨as0, as1, ax0, ax1, af0, af1, -, -, -, -⟩ := HK.out _ hoA
  obtain ⟨bs0, bs1, bx0, bx1, bf0, bf1, -, -, -, -⟩ := HK.out _ hoB
  have hA1 : (w6.alloc (.cells #[.bool false, .slice none 0 0] 87)).heap[w6.heap.size]? = some (.cells #[.bool false, .slice none 0 0] 87 (0, 0)) := by simpa using heap_alloc_new w6 (.cells #[.bool false, .slice none 0 0] 87)
  have hB1 := heap_two' w6 (.cells #[.bool false, .slice none 0 0] 87) (.cells #[.bool false, .slice none 0 0] 87)
  have hB2 := heap_two w6 (.cells #[.bool false, .slice none 0 0] 87) (.cells #[.bool false, .slice none 0 0] 87)
  have hwr : IntKind.u64.wrap (IntKind.i64.wrap (e2 - e1)) = e2 - e1 := by rw [IntKind.wrap_u64, IntKind.wrap_i64]; omega
  have HLW := HLL.out
  rw [← hwr] at HLW
  have HLL := Lib.hid HLW
  clear HLW hwr
  refine start_ (S := (fun W => Only w6 W (fun _ => False))) (ds := [17]) #[false, false, false, false, false, false, false, false, false, false, false, false, false, false, false, false, false, false] (by kernel_rfl) rfl rfl ?_ (fun hHeld => ?_)
  · exact (Only.refl w6 _).drew
  refine wpAnyLast_take (i := 1) (oi := ?o0) (v := ?v0) ?h0 (by kernel_rfl) (by kernel_rfl) (by kernel_rfl) (by kernel_rfl) (by kernel_rfl) ?q0 (Or.inl ⟨?w0, ?y0⟩) hHeld ?r0
  case h0 => (simp only [ga, gb, gc]; rfl)
  case q0 => exact fun _ _ _ h => h
  case w0 => rfl
  case y0 => (intro W hSw; obtain ⟨q0, q1, q2, q3, q4, q5, q6, q7, q8, q9⟩ := HK.out _ hSw; go_simp; first | done | with_reducible rfl)
  simp only [Act.put, zd, ze, zf]
  refine wpAnyLast_take (i := 2) (oi := ?o1) (v := ?v1) ?h1 (by kernel_rfl) (by kernel_rfl) (by kernel_rfl) (by kernel_rfl) (by kernel_rfl) ?q1 (Or.inl ⟨?w1, ?y1⟩) hHeld ?r1
  case h1 => (simp only [ga, gb, gc]; rfl)
  case q1 => exact fun _ _ _ h => h
  case w1 => rfl
  case y1 => (intro W hSw; obtain ⟨q0, q1, q2, q3, q4, q5, q6, q7, q8, q9⟩ := HK.out _ hSw; go_simp; first | done | with_reducible rfl)
  simp only [Act.put, zd, ze, zf]
  refine wpAnyLast_take (i := 4) (oi := ?o2) (v := ?v2) ?h2 (by kernel_rfl) (by kernel_rfl) (by kernel_rfl) (by kernel_rfl) (by kernel_rfl) ?q2 (Or.inl ⟨?w2, ?y2⟩) hHeld ?r2
  case h2 => (simp only [ga, gb, gc]; rfl)
  case q2 => exact fun _ _ _ h => h
  case w2 => rfl
  case y2 => (intro W hSw; obtain ⟨q0, q1, q2, q3, q4, q5, q6, q7, q8, q9⟩ := HK.out _ hSw; go_simp; first | done | with_reducible rfl)
  simp only [Act.put, zd, ze, zf]
  refine wpAnyLast_take (i := 5) (oi := ?o3) (v := ?v3) ?h3 (by kernel_rfl) (by kernel_rfl) (by kernel_rfl) (by kernel_rfl) (by kernel_rfl) ?q3 (Or.inl ⟨?w3, ?y3⟩) hHeld ?r3
  case h3 => (simp only [ga, gb, gc]; rfl)
  case q3 => exact fun _ _ _ h => h
  case w3 => rfl
  case y3 => (intro W hSw; obtain ⟨q0, q1, q2, q3, q4, q5, q6, q7, q8, q9⟩ := HK.out _ hSw; go_simp; first | done | with_reducible rfl)
  simp only [Act.put, zd, ze, zf]
  refine wpAnyLast_take (i := 6) (oi := ?o4) (v := ?v4) ?h4 (by kernel_rfl) (by kernel_rfl) (by kernel_rfl) (by kernel_rfl) (by kernel_rfl) ?q4 (Or.inl ⟨?w4, ?y4⟩) hHeld ?r4
  case h4 => (simp only [ga, gb, gc]; rfl)
  case q4 => exact fun _ _ _ h => h
  case w4 => rfl
  case y4 => (intro W hSw; obtain ⟨q0, q1, q2, q3, q4, q5, q6, q7, q8, q9⟩ := HK.out _ hSw; go_simp; first | done | with_reducible rfl)
  simp only [Act.put, zd, ze, zf]
  refine wpAnyLast_take (i := 7) (oi := ?o5) (v := ?v5) ?h5 (by kernel_rfl) (by kernel_rfl) (by kernel_rfl) (by kernel_rfl) (by kernel_rfl) ?q5 (Or.inl ⟨?w5, ?y5⟩) hHeld ?r5
  case h5 => (simp only [ga, gb, gc]; rfl)
  case q5 => exact fun _ _ _ h => h
  case w5 => rfl
  case y5 => (intro W hSw; obtain ⟨q0, q1, q2, q3, q4, q5, q6, q7, q8, q9⟩ := HK.out _ hSw; go_simp; first | done | with_reducible rfl)
  simp only [Act.put, zd, ze, zf]
  refine wpAnyLast_take (i := 8) (oi := ?o6) (v := ?v6) ?h6 (by kernel_rfl) (by kernel_rfl) (by kernel_rfl) (by kernel_rfl) (by kernel_rfl) ?q6 (Or.inl ⟨?w6, ?y6⟩) hHeld ?r6
  case h6 => (simp only [ga, gb, gc]; rfl)
  case q6 => exact fun _ _ _ h => h
  case w6 => rfl
  case y6 => (intro W hSw; obtain ⟨q0, q1, q2, q3, q4, q5, q6, q7, q8, q9⟩ := HK.out _ hSw; go_simp; first | done | with_reducible rfl)
  simp only [Act.put, zd, ze, zf]
  refine wpAnyLast_take (i := 9) (oi := ?o7) (v := ?v7) ?h7 (by kernel_rfl) (by kernel_rfl) (by kernel_rfl) (by kernel_rfl) (by kernel_rfl) ?q7 (Or.inl ⟨?w7, ?y7⟩) hHeld ?r7
  case h7 => (simp only [ga, gb, gc]; rfl)
  case q7 => exact fun _ _ _ h => h
  case w7 => rfl
  case y7 => (intro W hSw; obtain ⟨q0, q1, q2, q3, q4, q5, q6, q7, q8, q9⟩ := HK.out _ hSw; go_simp; first | done | with_reducible rfl)
  simp only [Act.put, zd, ze, zf]
  refine wpAnyLast_take (i := 10) (oi := ?o8) (v := ?v8) ?h8 (by kernel_rfl) (by kernel_rfl) (by kernel_rfl) (by kernel_rfl) (by kernel_rfl) ?q8 (Or.inl ⟨?w8, ?y8⟩) hHeld ?r8
  case h8 => (simp only [ga, gb, gc]; rfl)
  case q8 => exact fun _ _ _ h => h
  case w8 => rfl
  case y8 => (intro W hSw; obtain ⟨q0, q1, q2, q3, q4, q5, q6, q7, q8, q9⟩ := HK.out _ hSw; go_simp; first | done | with_reducible rfl)
  simp only [Act.put, zd, ze, zf]
  refine wpAnyLast_take (i := 11) (oi := ?o9) (v := ?v9) ?h9 (by kernel_rfl) (by kernel_rfl) (by kernel_rfl) (by kernel_rfl) (by kernel_rfl) ?q9 (Or.inl ⟨?w9, ?y9⟩) hHeld ?r9
  case h9 => (simp only [ga, gb, gc]; rfl)
  case q9 => exact fun _ _ _ h => h
  case w9 => rfl
  case y9 => (intro W hSw; obtain ⟨q0, q1, q2, q3, q4, q5, q6, q7, q8, q9⟩ := HK.out _ hSw; go_simp; first | done | with_reducible rfl)
  simp only [Act.put, zd, ze, zf]
  refine wpAnyLast_take (i := 14) (oi := ?o10) (v := ?v10) ?h10 (by kernel_rfl) (by kernel_rfl) (by kernel_rfl) (by kernel_rfl) (by kernel_rfl) ?q10 (Or.inl ⟨?w10, ?y10⟩) hHeld ?r10
  case h10 => (simp only [ga, gb, gc]; rfl)
  case q10 => exact fun _ _ _ h => h
  case w10 => rfl
  case y10 => (intro W hSw; obtain ⟨q0, q1, q2, q3, q4, q5, q6, q7, q8, q9⟩ := HK.out _ hSw; go_simp; first | done | with_reducible rfl)
  simp only [Act.put, zd, ze, zf]
  refine wpAnyLast_take (i := 15) (oi := ?o11) (v := ?v11) ?h11 (by kernel_rfl) (by kernel_rfl) (by kernel_rfl) (by kernel_rfl) (by kernel_rfl) ?q11 (Or.inl ⟨?w11, ?y11⟩) hHeld ?r11
  case h11 => (simp only [ga, gb, gc]; rfl)
  case q11 => exact fun _ _ _ h => h
  case w11 => rfl
  case y11 => (intro W hSw; obtain ⟨q0, q1, q2, q3, q4, q5, q6, q7, q8, q9⟩ := HK.out _ hSw; go_simp; first | done | with_reducible rfl)
  simp only [Act.put, zd, ze, zf]
  refine wpAnyLast_ready (rs := [0, 3]) (by kernel_rfl) (by simp) ?_
  refine AllReadyL.cons (o := ?o12) ?h12 (by simp) (fun K hK => ?s12) ?m12
  case h12 => (simp only [ga, gb, gc]; rfl)
  case s12 =>
    go_simp
    refine hK.out _ _ (hHeld.alloc _) (fun hHeld => ?_)
    clear hK K
    simp only [Act.put, zd, ze, zf]
    refine wpAnyLast_ready (rs := [3]) (by kernel_rfl) (by simp) ?_
    refine AllReadyL.cons (o := ?o13) ?h13 (by simp) (fun K hK => ?s13) ?m13
    case h13 => (simp only [ga, gb, gc]; rfl)
    case m13 => exact AllReadyL.nil
    go_simp
    refine hK.out _ _ (hHeld.alloc _) (fun hHeld => ?_)
    clear hK K
    simp only [Act.put, zd, ze, zf]
    refine wpAnyLast_ready (rs := [12]) (by kernel_rfl) (by simp) ?_
    refine AllReadyL.cons (o := ?o14) ?h14 (by simp) (fun K hK => ?s14) ?m14
    case h14 => (simp only [ga, gb, gc]; rfl)
    case m14 => exact AllReadyL.nil
    go_simp
    go_at_call 46
    have hsz := HSZ.out
    refine (HLL.out _ _ (ho6.trans hHeld) ?hi (by omega)).mono ?_
    case hi => first | exact ⟨_, blk_drew hA1, .nil⟩ | exact ⟨_, blk_drew hB1, .nil⟩ | exact ⟨_, blk_drew hB2, .nil⟩
    rintro en wL ⟨rfl, hP⟩
    obtain ⟨hNL, hoL⟩ := New.put (w0 := w6) rfl hHeld (by first | exact Nat.le_refl _ | exact Nat.le_succ _) (fun b h => by cases h) hP
    obtain ⟨oL, hLI, hLg, hLo⟩ := hNL
    first
      | have hI48 : IsInt wL w6.heap.size none 0 := hP.keep_ rfl (blk_drew hB1) (by omega)
      | have hI48 : IsInt wL (w6.heap.size + 1) none 0 := hP.keep_ rfl (blk_drew hB2) (by omega)
      | skip
    refine hK.out _ _ (hoL) (fun hHeld => ?_)
    clear hK K
    simp only [Act.put, zd, ze, zf]
    refine wpAnyLast_ready (rs := [13]) (by kernel_rfl) (by simp) ?_
    refine AllReadyL.cons (o := ?o15) ?h15 (by simp) (fun K hK => ?s15) ?m15
    case h15 => (simp only [ga, gb, gc]; rfl)
    case m15 => exact AllReadyL.nil
    go_simp
    go_at_call 71
    refine (HAA.out _ _ _ oL (ho6.trans hHeld) ?hi ?hl ?hn).mono ?_
    case hi => first | exact hI48 | exact ⟨_, (show _ = _ by simpa using heap_alloc_new wL (.cells #[.bool false, .slice none 0 0] 87)), .nil⟩
    case hl => first | exact hLI | exact hLI.only ((Only.refl wL (fun _ => False)).alloc _) (fun h => h) (fun _ _ h => h)
    case hn => (have := hLI.lt; omega)
    rintro en wA ⟨rfl, hPA⟩
    obtain ⟨hNA, hoA6⟩ := New.put (w0 := w6) rfl hHeld (by first | exact Nat.le_refl _ | exact Nat.le_succ _ | exact hoL.base.size) (fun b h => by cases h) hPA
    refine hK.out _ _ (hoA6) (fun hHeld => ?_)
    clear hK K
    simp only [Act.put, zd, ze, zf]
    refine wpAnyLast_take (i := 16) (oi := ?o16) (v := ?v16) ?h16 (by kernel_rfl) (by kernel_rfl) (by kernel_rfl) (by kernel_rfl) (by kernel_rfl) ?q16 (Or.inl ⟨?w16, ?y16⟩) hHeld ?r16
    case h16 => (simp only [ga, gb, gc]; rfl)
    case q16 => exact fun _ _ _ h => h
    case w16 => rfl
    case y16 => (intro W hSw; obtain ⟨q0, q1, q2, q3, q4, q5, q6, q7, q8, q9⟩ := HK.out _ hSw; go_simp; first | done | with_reducible rfl)
    simp only [Act.put, zd, ze, zf]
    refine wpAnyLast_ready (rs := [17]) (by kernel_rfl) (by simp) ?_
    refine AllReadyL.cons_last (o := ?o17) ?h17 (by simp) (fun K hK => ?s17) ?m17
    case h17 => (simp only [ga, gb, gc]; rfl)
    case m17 => exact AllReadyL.nil
    obtain ⟨q0, q1, q2, q3, q4, q5, q6, q7, q8, q9⟩ := HK.out _ hHeld; go_simp
    refine hK.out _ _ ?_
    clear hK K
    simp only [Act.put, zd, ze, zf]
    refine done_ (by kernel_rfl) ?_
    obtain ⟨w7, h7, t0, t1, t2, t3, t2c, t3c, t4, t5, t6⟩ := plus_end w w6 w.heap.size (w.heap.size + 1 + 1) _ g1 zr e1 hoA6 hNA ho6 hR6 hS6 (Nat.le_refl _) (by omega) (by omega)
    rw [← h7]
    clear h7 s0 s1 x0 x1 fs0 fs1 as0 as1 ax0 ax1 af0 af1 bs0 bs1 bx0 bx1 bf0 bf1 m1 m2 m3 m4 hA1 hB1 hB2 HK HAA HSZ hP hPA hoL hLI hLg hLo ho6a hoA hoB hNA hoA6 hHeld hsz hS6 hX6 hR6 ho6
    go_wp2_with fail
    rw [rounds_succ]
    go_wp2_with fail
    refine bodyPost_ret (results_cell_row rfl _ _ w.heap.size 44 #[.pointer (some ⟨_, 0, none⟩), .int .i64 e1] (0, 0) _ rfl t4 Tryz.underlying44 rfl (by kernel_rfl)) rfl ?_
    exact ⟨_, rfl, t5, t6⟩
  refine AllReadyL.cons (o := ?o18) ?h18 (by simp) (fun K hK => ?s18) ?m18
  case h18 => (simp only [ga, gb, gc]; rfl)
  case m18 => exact AllReadyL.nil
  case s18 =>
    go_simp
    refine hK.out _ _ (hHeld.alloc _) (fun hHeld => ?_)
    clear hK K
    simp only [Act.put, zd, ze, zf]
    refine wpAnyLast_ready (rs := [0, 12]) (by kernel_rfl) (by simp) ?_
    refine AllReadyL.cons (o := ?o19) ?h19 (by simp) (fun K hK => ?s19) ?m19
    case h19 => (simp only [ga, gb, gc]; rfl)
    case s19 =>
      go_simp
      refine hK.out _ _ (hHeld.alloc _) (fun hHeld => ?_)
      clear hK K
      simp only [Act.put, zd, ze, zf]
      refine wpAnyLast_ready (rs := [12]) (by kernel_rfl) (by simp) ?_
      refine AllReadyL.cons (o := ?o20) ?h20 (by simp) (fun K hK => ?s20) ?m20
      case h20 => (simp only [ga, gb, gc]; rfl)
      case m20 => exact AllReadyL.nil
      go_simp
      go_at_call 46
      have hsz := HSZ.out
      refine (HLL.out _ _ (ho6.trans hHeld) ?hi (by omega)).mono ?_
      case hi => first | exact ⟨_, blk_drew hA1, .nil⟩ | exact ⟨_, blk_drew hB1, .nil⟩ | exact ⟨_, blk_drew hB2, .nil⟩
      rintro en wL ⟨rfl, hP⟩
      obtain ⟨hNL, hoL⟩ := New.put (w0 := w6) rfl hHeld (by first | exact Nat.le_refl _ | exact Nat.le_succ _) (fun b h => by cases h) hP
      obtain ⟨oL, hLI, hLg, hLo⟩ := hNL
      first
        | have hI48 : IsInt wL w6.heap.size none 0 := hP.keep_ rfl (blk_drew hB1) (by omega)
        | have hI48 : IsInt wL (w6.heap.size + 1) none 0 := hP.keep_ rfl (blk_drew hB2) (by omega)
        | skip
      refine hK.out _ _ (hoL) (fun hHeld => ?_)
      clear hK K
      simp only [Act.put, zd, ze, zf]
      refine wpAnyLast_ready (rs := [13]) (by kernel_rfl) (by simp) ?_
      refine AllReadyL.cons (o := ?o21) ?h21 (by simp) (fun K hK => ?s21) ?m21
      case h21 => (simp only [ga, gb, gc]; rfl)
      case m21 => exact AllReadyL.nil
      go_simp
      go_at_call 71
      refine (HAA.out _ _ _ oL (ho6.trans hHeld) ?hi ?hl ?hn).mono ?_
      case hi => first | exact hI48 | exact ⟨_, (show _ = _ by simpa using heap_alloc_new wL (.cells #[.bool false, .slice none 0 0] 87)), .nil⟩
      case hl => first | exact hLI | exact hLI.only ((Only.refl wL (fun _ => False)).alloc _) (fun h => h) (fun _ _ h => h)
      case hn => (have := hLI.lt; omega)
      rintro en wA ⟨rfl, hPA⟩
      obtain ⟨hNA, hoA6⟩ := New.put (w0 := w6) rfl hHeld (by first | exact Nat.le_refl _ | exact Nat.le_succ _ | exact hoL.base.size) (fun b h => by cases h) hPA
      refine hK.out _ _ (hoA6) (fun hHeld => ?_)
      clear hK K
      simp only [Act.put, zd, ze, zf]
      refine wpAnyLast_take (i := 16) (oi := ?o22) (v := ?v22) ?h22 (by kernel_rfl) (by kernel_rfl) (by kernel_rfl) (by kernel_rfl) (by kernel_rfl) ?q22 (Or.inl ⟨?w22, ?y22⟩) hHeld ?r22
      case h22 => (simp only [ga, gb, gc]; rfl)
      case q22 => exact fun _ _ _ h => h
      case w22 => rfl
      case y22 => (intro W hSw; obtain ⟨q0, q1, q2, q3, q4, q5, q6, q7, q8, q9⟩ := HK.out _ hSw; go_simp; first | done | with_reducible rfl)
      simp only [Act.put, zd, ze, zf]
      refine wpAnyLast_ready (rs := [17]) (by kernel_rfl) (by simp) ?_
      refine AllReadyL.cons_last (o := ?o23) ?h23 (by simp) (fun K hK => ?s23) ?m23
      case h23 => (simp only [ga, gb, gc]; rfl)
      case m23 => exact AllReadyL.nil
      obtain ⟨q0, q1, q2, q3, q4, q5, q6, q7, q8, q9⟩ := HK.out _ hHeld; go_simp
      refine hK.out _ _ ?_
      clear hK K
      simp only [Act.put, zd, ze, zf]
      refine done_ (by kernel_rfl) ?_
      obtain ⟨w7, h7, t0, t1, t2, t3, t2c, t3c, t4, t5, t6⟩ := plus_end w w6 w.heap.size (w.heap.size + 1 + 1) _ g1 zr e1 hoA6 hNA ho6 hR6 hS6 (Nat.le_refl _) (by omega) (by omega)
      rw [← h7]
      clear h7 s0 s1 x0 x1 fs0 fs1 as0 as1 ax0 ax1 af0 af1 bs0 bs1 bx0 bx1 bf0 bf1 m1 m2 m3 m4 hA1 hB1 hB2 HK HAA HSZ hP hPA hoL hLI hLg hLo ho6a hoA hoB hNA hoA6 hHeld hsz hS6 hX6 hR6 ho6
      go_wp2_with fail
      rw [rounds_succ]
      go_wp2_with fail
      refine bodyPost_ret (results_cell_row rfl _ _ w.heap.size 44 #[.pointer (some ⟨_, 0, none⟩), .int .i64 e1] (0, 0) _ rfl t4 Tryz.underlying44 rfl (by kernel_rfl)) rfl ?_
      exact ⟨_, rfl, t5, t6⟩
    refine AllReadyL.cons (o := ?o24) ?h24 (by simp) (fun K hK => ?s24) ?m24
    case h24 => (simp only [ga, gb, gc]; rfl)
    case m24 => exact AllReadyL.nil
    case s24 =>
      go_simp
      go_at_call 46
      have hsz := HSZ.out
      refine (HLL.out _ _ (ho6.trans hHeld) ?hi (by omega)).mono ?_
      case hi => first | exact ⟨_, blk_drew hA1, .nil⟩ | exact ⟨_, blk_drew hB1, .nil⟩ | exact ⟨_, blk_drew hB2, .nil⟩
      rintro en wL ⟨rfl, hP⟩
      obtain ⟨hNL, hoL⟩ := New.put (w0 := w6) rfl hHeld (by first | exact Nat.le_refl _ | exact Nat.le_succ _) (fun b h => by cases h) hP
      obtain ⟨oL, hLI, hLg, hLo⟩ := hNL
      first
        | have hI48 : IsInt wL w6.heap.size none 0 := hP.keep_ rfl (blk_drew hB1) (by omega)
        | have hI48 : IsInt wL (w6.heap.size + 1) none 0 := hP.keep_ rfl (blk_drew hB2) (by omega)
        | skip
      refine hK.out _ _ (hoL) (fun hHeld => ?_)
      clear hK K
      simp only [Act.put, zd, ze, zf]
      refine wpAnyLast_ready (rs := [0]) (by kernel_rfl) (by simp) ?_
      refine AllReadyL.cons (o := ?o25) ?h25 (by simp) (fun K hK => ?s25) ?m25
      case h25 => (simp only [ga, gb, gc]; rfl)
      case m25 => exact AllReadyL.nil
      go_simp
      refine hK.out _ _ (hHeld.alloc _) (fun hHeld => ?_)
      clear hK K
      simp only [Act.put, zd, ze, zf]
      refine wpAnyLast_ready (rs := [13]) (by kernel_rfl) (by simp) ?_
      refine AllReadyL.cons (o := ?o26) ?h26 (by simp) (fun K hK => ?s26) ?m26
      case h26 => (simp only [ga, gb, gc]; rfl)
      case m26 => exact AllReadyL.nil
      go_simp
      go_at_call 71
      refine (HAA.out _ _ _ oL (ho6.trans hHeld) ?hi ?hl ?hn).mono ?_
      case hi => first | exact hI48 | exact ⟨_, (show _ = _ by simpa using heap_alloc_new wL (.cells #[.bool false, .slice none 0 0] 87)), .nil⟩
      case hl => first | exact hLI | exact hLI.only ((Only.refl wL (fun _ => False)).alloc _) (fun h => h) (fun _ _ h => h)
      case hn => (have := hLI.lt; omega)
      rintro en wA ⟨rfl, hPA⟩
      obtain ⟨hNA, hoA6⟩ := New.put (w0 := w6) rfl hHeld (by first | exact Nat.le_refl _ | exact Nat.le_succ _ | exact hoL.base.size) (fun b h => by cases h) hPA
      refine hK.out _ _ (hoA6) (fun hHeld => ?_)
      clear hK K
      simp only [Act.put, zd, ze, zf]
      refine wpAnyLast_take (i := 16) (oi := ?o27) (v := ?v27) ?h27 (by kernel_rfl) (by kernel_rfl) (by kernel_rfl) (by kernel_rfl) (by kernel_rfl) ?q27 (Or.inl ⟨?w27, ?y27⟩) hHeld ?r27
      case h27 => (simp only [ga, gb, gc]; rfl)
      case q27 => exact fun _ _ _ h => h
      case w27 => rfl
      case y27 => (intro W hSw; obtain ⟨q0, q1, q2, q3, q4, q5, q6, q7, q8, q9⟩ := HK.out _ hSw; go_simp; first | done | with_reducible rfl)
      simp only [Act.put, zd, ze, zf]
      refine wpAnyLast_ready (rs := [17]) (by kernel_rfl) (by simp) ?_
      refine AllReadyL.cons_last (o := ?o28) ?h28 (by simp) (fun K hK => ?s28) ?m28
      case h28 => (simp only [ga, gb, gc]; rfl)
      case m28 => exact AllReadyL.nil
      obtain ⟨q0, q1, q2, q3, q4, q5, q6, q7, q8, q9⟩ := HK.out _ hHeld; go_simp
      refine hK.out _ _ ?_
      clear hK K
      simp only [Act.put, zd, ze, zf]
      refine done_ (by kernel_rfl) ?_
      obtain ⟨w7, h7, t0, t1, t2, t3, t2c, t3c, t4, t5, t6⟩ := plus_end w w6 w.heap.size (w.heap.size + 1 + 1) _ g1 zr e1 hoA6 hNA ho6 hR6 hS6 (Nat.le_refl _) (by omega) (by omega)
      rw [← h7]
      clear h7 s0 s1 x0 x1 fs0 fs1 as0 as1 ax0 ax1 af0 af1 bs0 bs1 bx0 bx1 bf0 bf1 m1 m2 m3 m4 hA1 hB1 hB2 HK HAA HSZ hP hPA hoL hLI hLg hLo ho6a hoA hoB hNA hoA6 hHeld hsz hS6 hX6 hR6 ho6
      go_wp2_with fail
      rw [rounds_succ]
      go_wp2_with fail
      refine bodyPost_ret (results_cell_row rfl _ _ w.heap.size 44 #[.pointer (some ⟨_, 0, none⟩), .int .i64 e1] (0, 0) _ rfl t4 Tryz.underlying44 rfl (by kernel_rfl)) rfl ?_
      exact ⟨_, rfl, t5, t6⟩
end Go.Proofs.YtlfmgdpbjapdjaaGreatFmtBesafter
namespace Go.Proofs.YtlfmgdpbjapdjaaGreatFmtBesafter
open Go.RowKit Go.Proofs.YtlfmgdpbjapdjaaGreatFmtBesafterW.PrintWords
set_option maxRecDepth 100000 in
set_option maxHeartbeats 8000000 in
theorem add_of (neg neg' : Bool) (A A' : Option Addr) (c c' : Nat) (ds ds' : List Int) (e e' z f0 : Int) (w : World) (hr : ReadsInt w .i64 A ds.length ds) (hc : ds.length ≤ c) (hv : vB neg ds e = true) (hr' : ReadsInt w .i64 A' ds'.length ds') (hc' : ds'.length ≤ c') (hv' : vB neg' ds' e' = true) (hT : Tab w)
    (hfit : Fits ((Int.natAbs z : Nat) : Int)) (h01 : -2305843009213693952 ≤ f0) (h02 : f0 ≤ 2305843009213693952)
    (HP : ∀ (W : World) (b g g' : Nat) (o o' : Option Nat), Only w W (fun _ => False) → W.heap[b]? = some (.cells #[.pointer (some ⟨g, 0, none⟩), .int .i64 e, .pointer (some ⟨g', 0, none⟩), .int .i64 e'] 44 (0, 0)) → IsInt W g o (sval neg ds) → IsInt W g' o' (sval neg' ds') →
      Calls Tryz.prog 37 #[.slice (some ⟨b, 0, none⟩) 2 2] W fun en w' => ∃ k, en = .returned (.agg #[.pointer (some ⟨k, 0, none⟩), .int .i64 f0]) ∧ New W.heap.size w' k z ∧ Only W w' (fun _ => False)) :
    Calls Tryz.prog 17 #[.agg #[.bool neg, .slice A ds.length c, .int .i64 e], .agg #[.bool neg', .slice A' ds'.length c', .int .i64 e']] w (Ans w z f0) := by
  have HV := Lib.hid (And.intro hv hv')
  have HPP := Lib.hid HP
  have HO := Lib.hid (fun a b c d : Obj => (((((Only.refl w (fun _ => False)).alloc a).alloc b).alloc c).alloc d))
  clear hv hv' HP
  go_enter_defers Tryz.func17, Tryz.ntmps17
  go_wp2_with fail
  obtain ⟨h1, h2, h3, h4⟩ := heap_four w (.cells #[.bool neg, .slice A ds.length c, .int .i64 e] 24) (.cells #[.bool neg', .slice A' ds'.length c', .int .i64 e'] 24) (.cells #[.bool false, .slice none 0 0, .int .i64 0] 24) (.cells #[.int .i64 0] 26)
  have ho4 := HO.out (.cells #[.bool neg, .slice A ds.length c, .int .i64 e] 24) (.cells #[.bool neg', .slice A' ds'.length c', .int .i64 e'] 24) (.cells #[.bool false, .slice none 0 0, .int .i64 0] 24) (.cells #[.int .i64 0] 26)
  have hsz4 : ((((w.alloc (.cells #[.bool neg, .slice A ds.length c, .int .i64 e] 24)).alloc (.cells #[.bool neg', .slice A' ds'.length c', .int .i64 e'] 24)).alloc (.cells #[.bool false, .slice none 0 0, .int .i64 0] 24)).alloc (.cells #[.int .i64 0] 26)).heap.size = w.heap.size + 1 + 1 + 1 + 1 := by simp
  generalize hw4 : ((((w.alloc (.cells #[.bool neg, .slice A ds.length c, .int .i64 e] 24)).alloc (.cells #[.bool neg', .slice A' ds'.length c', .int .i64 e'] 24)).alloc (.cells #[.bool false, .slice none 0 0, .int .i64 0] 24)).alloc (.cells #[.int .i64 0] 26)) = w4 at *
  clear hw4
  have hY4 := h3
  have hE4 := h4
  have hb5 := heap_alloc_new w4 (.cells #[.bool neg, .slice A ds.length c, .int .i64 e, .bool neg', .slice A' ds'.length c', .int .i64 e'] 24)
  have ho5 := ho4.alloc (.cells #[.bool neg, .slice A ds.length c, .int .i64 e, .bool neg', .slice A' ds'.length c', .int .i64 e'] 24)
  have ho45 : Only w4 (w4.alloc (.cells #[.bool neg, .slice A ds.length c, .int .i64 e, .bool neg', .slice A' ds'.length c', .int .i64 e'] 24)) (fun _ => False) := (Only.refl w4 _).alloc _
  rw [← hsz4]
  generalize w4.alloc (.cells #[.bool neg, .slice A ds.length c, .int .i64 e, .bool neg', .slice A' ds'.length c', .int .i64 e'] 24) = w5 at *
  refine (open2_ok w4.heap.size neg neg' A A' c c' ds ds' e e' w5 hb5 (reads_only hr ho5 (fun _ _ h => h)) hc HV.out.1 (reads_only hr' ho5 (fun _ _ h => h)) hc' HV.out.2).mono ?_
  rintro en w6 ⟨rfl, ho56, g, g', m, hout, hm, ⟨o, hi, _⟩, ⟨o', hi', _⟩⟩
  go_wp2_with fail
  refine (HPP.out w6 _ g g' o o' (ho5.trans ho56) hout hi hi').mono ?_
  rintro en w7 ⟨k, rfl, ⟨ok, hk, _⟩, ho67⟩
  have ho47 : Only w w7 (fun _ => False) := (ho5.trans ho56).trans ho67
  have hq47 := (ho45.trans ho56).trans ho67
  have hY6 := (hq47.kept _ (blk_lt hY4) (fun h => h)).trans hY4
  have hE6 := (hq47.kept _ (blk_lt hE4) (fun h => h)).trans hE4
  have HTL := Lib.hid (told_any k ok z f0 w7 hk hfit (hT.only ho47) h01 h02)
  clear h1 h2 h3 h4 hY4 hE4 hb5 hout hi hi' hk ho45 hq47 ho67 ho56 ho5 ho4 HPP HV HO hr hr' hfit
  go_wp2_with fail
  refine HTL.out.mono ?_
  clear HTL
  rintro en w7 ⟨ho7, hcase⟩
  have hY7 := (ho7.kept _ (blk_lt hY6) (fun h => h)).trans hY6
  have hE7 := (ho7.kept _ (blk_lt hE6) (fun h => h)).trans hE6
  have y0 : w7.cell? ⟨w.heap.size + 1 + 1, 0, none⟩ = some (.bool false) := blk_cell hY7 0
  have y1 : w7.cell? ⟨w.heap.size + 1 + 1, 1, none⟩ = some (.slice none 0 0) := blk_cell hY7 1
  have y2 : w7.cell? ⟨w.heap.size + 1 + 1, 2, none⟩ = some (.int .i64 0) := blk_cell hY7 2
  have e0 : w7.cell? ⟨w.heap.size + 1 + 1 + 1, 0, none⟩ = some (.int .i64 0) := blk_cell hE7 0
  have fy0 := blk_frozen hY7 0
  have fy1 := blk_frozen hY7 1
  have fy2 := blk_frozen hY7 2
  have fe0 := blk_frozen hE7 0
  have HST := Lib.hid (stored hY7 hE7)
  have HOW := Lib.hid ((ho47).trans ho7)
  rcases hcase with ⟨hz, rfl⟩ | ⟨hz, t, k, q, a1, a2, a3, a4, ⟨hbad, rfl⟩ | ⟨b1, b2, b3, A7, ds7, c7, rfl, hown, hval, hnm⟩⟩
  · have HZ := Lib.hid hz
    clear hz
    go_wp2_with fail
    obtain ⟨s1, s2, s3⟩ := HST.out (.bool false) (.slice none 0 0) (.int .i64 0) (.int .i64 0)
    refine door_ok rfl _ _ (w.heap.size + 1 + 1) (w.heap.size + 1 + 1 + 1) _ _ _ 0 _ rfl rfl s1 s2 ?_
    rw [HZ.out]
    exact Ans.zero HOW.out (s3.mono (by rintro i hi (rfl | rfl) <;> omega))
  · refine door_panic rfl _ w7 (w.heap.size + 1 + 1) (w.heap.size + 1 + 1 + 1) 2 _ rfl rfl hY7 hE7 (fun w' hw' => ?_)
    exact Ans.long hz a1 a2 a3 a4 hbad HOW.out (hw'.mono (by rintro i hi rfl; omega))
  · have HA := Lib.hid (And.intro hz (And.intro a1 (And.intro a2 (And.intro a3 (And.intro a4 (And.intro hown (And.intro hval hnm)))))))
    clear hz a1 a2 a3 a4 hown hval hnm
    go_wp2_with fail
    obtain ⟨s1, s2, s3⟩ := HST.out (.bool (decide (z < 0))) (.slice A7 ds7.length c7) (.int .i64 (f0 + t)) (.int .i64 0)
    obtain ⟨g1, g2, g3, g4, g5, g6, g7, g8⟩ := HA.out
    refine door_ok rfl _ _ (w.heap.size + 1 + 1) (w.heap.size + 1 + 1 + 1) _ _ _ 0 _ rfl rfl s1 s2 ?_
    refine Ans.some_ g1 g2 g3 g4 g5 b1 b2 b3 HOW.out (s3.mono (by rintro i hi (rfl | rfl) <;> omega)) (own_two g6 hY7 hE7 s3) ?_ g7 g8
    have := (ho47).base.size
    exact this
theorem word_other (a b i j : Nat) (xa xb : List Int) (w : World) (hne : a ≠ b) (ha : Blk w a xa) (hb : Blk w b xb) :
    (binOp .neq 164 (.pointer (some ⟨a, i, none⟩)) (.pointer (some ⟨b, j, none⟩))).run Tryz.prog w = .ok (.bool true) w := by
  have h : (Tryz.prog.info? 110).map (fun i => i.size) = some 1 := by kernel_rfl
  obtain ⟨k, hk, hs0⟩ := Option.map_eq_some_iff.1 h
  have hs : k.size ≠ 0 := by rw [hs0]; decide
  have hn : (⟨a, i, none⟩ : Addr) ≠ ⟨b, j, none⟩ := fun h => hne (congrArg Addr.block h)
  have h : ∀ d : Nat, (Op.equalIn (d + 1) 164 (.pointer (some ⟨a, i, none⟩)) (.pointer (some ⟨b, j, none⟩))).run Tryz.prog w = .ok false w := fun d => by
    simp [Op.equalIn, run_underlying Tryz.underlying164, sizeOf, typeInfo, hk, hs, run_sameAddr_other w hn ha hb]
  simp only [binOp]
  simp [Op.equal, Op.maxDepth, h 9999]
theorem num_tail {f g : Nat → Int} {i : Nat} : ∀ m, i ≤ m → (∀ j, i ≤ j → j < m → f j = g j) → num f m - num f i = num g m - num g i
  | 0, h, _ => by obtain rfl : i = 0 := by omega
                  simp [num]
  | m + 1, h, he => by
    by_cases hi : i = m + 1
    · subst hi; omega
    · have ih := num_tail m (by omega) (fun j a b => he j a (by omega))
      rw [num, num, he m (by omega) (by omega)]
      omega
def GotVW (w : World) (bz oz m : Nat) (zs : List Int) (x : Int) (s y : Int) (e : Ending) (w' : World) : Prop := ∃ c : Int, e = .returned (.int .u64 c) ∧ 0 ≤ c ∧ c ≤ 1 ∧ Only w w' (· = bz) ∧
  ∃ ys, Blk w' bz ys ∧ ys.length = zs.length ∧ (∀ p, p < oz ∨ oz + m ≤ p → ys.getD p 0 = zs.getD p 0) ∧ Wd (fun i => ys.getD (oz + i) 0) m ∧ num (fun i => ys.getD (oz + i) 0) m + s * c * 2 ^ (64 * m) = x + s * y
theorem vw_done {w wr : World} {bz oz m i : Nat} {zs ys : List Int} {g : Nat → Int} {s y u : Int} (hi : i < m) (ho : Only w wr (· = bz)) (hy : Blk wr bz (ys.set (oz + i) u)) (hyl : ys.length = zs.length) (hl : oz + m ≤ zs.length) (hout : ∀ p, p < oz ∨ oz + m ≤ p → ys.getD p 0 = zs.getD p 0) (hw : Wd (fun j => ys.getD (oz + j) 0) i) (hg : Wd g m) (hu : 0 ≤ u ∧ u < 18446744073709551616)
    (hn : num (fun j => ys.getD (oz + j) 0) i + u * 2 ^ (64 * i) = num g (i + 1) + s * y) :
    GotVW w bz oz m zs (num g m) s y (.returned (.int .u64 0)) (wr.setRow bz (words (splice (ys.set (oz + i) u) (oz + (i + 1)) ((List.range (m - (i + 1))).map fun j => g (i + 1 + j))))) := by
  have hlen : (splice (ys.set (oz + i) u) (oz + (i + 1)) ((List.range (m - (i + 1))).map fun j => g (i + 1 + j))).length = zs.length := by
    rw [length_splice _ _ _ (by simp; omega)]; simpa using hyl
  have hat : ∀ p, (splice (ys.set (oz + i) u) (oz + (i + 1)) ((List.range (m - (i + 1))).map fun j => g (i + 1 + j))).getD p 0 = if oz + i + 1 ≤ p ∧ p < oz + m then g (p - oz) else if p = oz + i then u else ys.getD p 0 := by
    intro p
    rw [splice_at _ _ _ _ (by simp; omega)]
    simp only [List.length_map, List.length_range]
    by_cases h : oz + i + 1 ≤ p ∧ p < oz + m
    · rw [if_pos (by omega), if_pos h]
      simp only [List.getD, List.getElem?_map]
      rw [List.getElem?_range (by omega)]
      show g (i + 1 + (p - (oz + (i + 1)))) = _
      congr 1; omega
    · rw [if_neg (by omega), if_neg h]
      simp only [List.getD, List.getElem?_set]
      by_cases h2 : p = oz + i
      · rw [if_pos h2.symm, if_pos (by omega), if_pos h2]; rfl
      · rw [if_neg (by omega), if_neg h2]
  refine ⟨0, rfl, by omega, by omega, ho.row (.inr rfl) _, _, hy.row _, hlen, ?_, ?_, ?_⟩
  · intro p hp
    rw [hat, if_neg (by omega), if_neg (by omega)]
    exact hout p hp
  · intro j hj
    show 0 ≤ List.getD _ _ _ ∧ List.getD _ _ _ < _
    rw [hat]
    split
    · rw [show oz + j - oz = j by omega]; exact hg j hj
    · split
      · exact hu
      · exact hw j (by omega)
  · have h1 : num (fun j => (splice (ys.set (oz + i) u) (oz + (i + 1)) ((List.range (m - (i + 1))).map fun j => g (i + 1 + j))).getD (oz + j) 0) (i + 1) = num (fun j => ys.getD (oz + j) 0) i + u * 2 ^ (64 * i) := by
      rw [num, num_congr i (g := fun j => ys.getD (oz + j) 0) (fun j hj => by rw [hat, if_neg (by omega), if_neg (by omega)]), hat, if_neg (by omega), if_pos rfl]
    have h2 := num_tail (f := fun j => (splice (ys.set (oz + i) u) (oz + (i + 1)) ((List.range (m - (i + 1))).map fun j => g (i + 1 + j))).getD (oz + j) 0) (g := g) (i := i + 1) m (by omega) (fun j a b => by rw [hat, if_pos (by omega)]; congr 1; omega)
    rw [Int.mul_zero, Int.zero_mul, Int.add_zero]
    omega
theorem far_blk {w : World} {a b : Nat} {xs : List Int} (hb : Blk w b xs) (hne : a ≠ b) (i : Nat) (u : Value) : Blk (w.setCell ⟨a, i, none⟩ u) b xs := blk_far hb (p := ⟨a, i, none⟩) (Ne.symm hne) u
theorem copy_on (i bz oz dl dc bx ox sc k oz' ox' : Nat) (zs xs : List Int) (W : World) (hb : Blk W bz zs) (hx : Blk W bx xs) (hk : k = dl) (h1 : oz' = oz + (i + 1)) (h2 : ox' = ox + (i + 1) ∨ k = 0) (hfit : oz' + k ≤ zs.length) (hxl : ox + (i + 1) + k ≤ xs.length) (X : TypeId) :
    (Builtin.copy_ #[84, 84] X #[.slice (some ⟨bz, oz', none⟩) dl dc, .slice (some ⟨bx, ox', none⟩) dl sc]).run Tryz.prog W = .ok (goInt k) (W.setRow bz (words (splice zs (oz + (i + 1)) ((List.range k).map fun j => xs.getD (ox + (i + 1 + j)) 0)))) := by
  subst h1
  exact copy_run bz _ dl dc bx ox' dl sc k zs (fun j => xs.getD (ox + (i + 1 + j)) 0) W 84 X Tryz.underlying84 hb (by rw [hk]; exact (Nat.min_self _).symm) (fun j hj => by
    rcases h2 with rfl | h2
    · rw [Nat.add_assoc]; exact hx.cell (ox + (i + 1 + j)) (by omega)
    · omega) hfit
set_option maxRecDepth 100000 in
set_option maxHeartbeats 4000000 in
theorem addVW_any (bz oz cz bx ox cx m : Nat) (zs xs : List Int) (y : Int) (w : World) (hm : 0 < m) (hz : Blk w bz zs) (hx : Blk w bx xs) (hne : bz ≠ bx) (hnz : oz + m ≤ zs.length) (hnx : ox + m ≤ xs.length) (hcz : m < cz) (hcx : m ≤ cx) (hl : zs.length ≤ 274877906944) (hl2 : xs.length ≤ 274877906944) (hw : Wd (fun i => xs.getD (ox + i) 0) m) (y0 : 0 ≤ y) (y1 : y ≤ 1) :
    Calls Tryz.prog 120 #[.slice (some ⟨bz, oz, none⟩) m cz, .slice (some ⟨bx, ox, none⟩) m cx, .int .u64 y] w (GotVW w bz oz m zs (num (fun i => xs.getD (ox + i) 0) m) (1) y) := by
  have h1 : ((m : Int) != m) = false := by simp
  have h2 : ((m : Int) == 0) = false := by rw [beq_eq_false_iff_ne]; omega
  have c0 : w.cell? ⟨bx, ox, none⟩ = some (.int .u64 (xs.getD ox 0)) := hx.cell ox (by omega)
  have cz0 := hz.cell oz (by omega)
  have fz := blk_frozen hz oz
  have HW := Lib.hid hw
  have hx0 := hw 0 hm
  simp only [Nat.add_zero] at hx0
  obtain ⟨a, ha⟩ : ∃ a, xs.getD ox 0 = a := ⟨_, rfl⟩
  rw [ha] at c0 hx0
  have hcI : (m : Int) ≤ cx := by omega
  have hczI : (m : Int) < cz := by omega
  have m1I : (1 : Int) ≤ m := by omega
  have HA := Lib.hid (fun w => add_any a y 0 w hx0.1 y0 (by decide) (by decide))
  have HX := Lib.hid (And.intro hz (And.intro hx (And.intro ha (And.intro hx0 hne))))
  clear hw hz hx hx0
  go_enter Tryz.func120, Tryz.ntmps120
  go_wp2_with fail
  refine (HA.out _).mono ?_
  rintro e w' ⟨rfl, hw'⟩
  rw [hw']
  clear hw' w' HA
  have hx9 := HX.out.2.2.2.1
  by_cases hc : a + y < 18446744073709551616
  · rw [show (a + y + 0) % 18446744073709551616 = a + y by omega, show (a + y + 0) / 18446744073709551616 = 0 by omega]
    clear hx9
    go_wp2_with fail
    obtain ⟨hz, hx, ha, hx0, _⟩ := HX.out
    have hB := hz.set oz (a + y)
    have hX := far_blk hx hne oz (.int .u64 (a + y))
    have ho := (Only.refl w (· = bz)).set (p := ⟨bz, oz, none⟩) (.inr rfl) (.int .u64 (a + y))
    clear c0 cz0 fz hz hx
    generalize w.setCell ⟨bz, oz, none⟩ (.int .u64 (a + y)) = W1 at *
    have hp := fun d => word_other bz bx oz ox _ _ (W1.drewN d) hne hB hX
    go_quiet (fail)
    clear hp
    have ho := ho.drewN nq
    have hB : Blk (W1.drewN nq) bz _ := hB
    have hX : Blk (W1.drewN nq) bx _ := hX
    generalize W1.drewN nq = W at *
    have hcp := copy_on 0 bz oz (m - 1) (cz - 1) bx ox (cx - 1) (m - 1) (oz + 1) (ox + 1) _ xs W.drew hB hX rfl rfl (.inl rfl) (by simp; omega) (by omega)
    have hcp0 : m = 1 → ∀ X, _ := fun h => copy_on 0 bz oz (m - 1) (cz - 1) bx ox 0 (m - 1) (oz + 1) ox _ xs W.drew hB hX rfl rfl (.inr (by omega)) (by simp; omega) (by omega)
    have fin := vw_done (i := 0) (s := 1) (y := y) (g := fun i => xs.getD (ox + i) 0) hm ho.drew hB rfl hnz (fun _ _ => rfl) (fun j hj => by omega) HW.out (by omega) (by
      show num _ 0 + (a + y) * 2 ^ (64 * 0) = num _ (0 + 1) + _
      simp only [num, Nat.mul_zero, Int.pow_zero, Int.mul_one, Nat.add_zero, ha]; omega)
    have HF := Lib.hid fin
    clear fin
    have m0 : ¬ cz = 1 := by omega
    have m2I : (m : Int) - 1 = ((m - 1 : Nat) : Int) := by omega
    go_upto_region 9 with (fail)
    by_cases hb1 : cx = 1
    · obtain rfl : m = 1 := by omega
      have hcp0 := hcp0 rfl
      go_still_tail 4, (by kernel_rfl)
      all_goals change wpList _ _ _ _ _ W.drew
      all_goals go_wp2_with fail
      go_ret
      exact HF.out
    · clear hcp0
      go_still_tail 4, (by kernel_rfl)
      all_goals change wpList _ _ _ _ _ W.drew
      all_goals go_wp2_with fail
      go_ret
      exact HF.out
  · rw [show (a + y + 0) % 18446744073709551616 = 0 by omega, show (a + y + 0) / 18446744073709551616 = 1 by omega]
    clear hx9
    go_wp2_with fail
    obtain ⟨hz, hx, ha, hx0, _⟩ := HX.out
    have hB := hz.set oz (0)
    have hX := far_blk hx hne oz (.int .u64 (0))
    have ho := (Only.refl w (· = bz)).set (p := ⟨bz, oz, none⟩) (.inr rfl) (.int .u64 (0))
    have hxl := blk_lt hx
    clear c0 cz0 fz
    generalize w.setCell ⟨bz, oz, none⟩ (.int .u64 (0)) = W1 at *
    go_loopw [9] (fun si wr => ∃ k : Nat, 1 ≤ k ∧ k ≤ m ∧ si = .int .i64 k ∧ Only w wr (· = bz) ∧ ∃ ys, Blk wr bz ys ∧ ys.length = zs.length ∧ (∀ p, p < oz ∨ oz + m ≤ p → ys.getD p 0 = zs.getD p 0) ∧ Wd (fun i => ys.getD (oz + i) 0) k ∧ num (fun i => ys.getD (oz + i) 0) k + (1) * 2 ^ (64 * k) = num (fun i => xs.getD (ox + i) 0) k + (1) * y)
      (fun si _ => m - (intOf si).toNat)
    case atStart =>
      refine ⟨1, by omega, by omega, rfl, ho, _, hB, by simp, fun p hp => ?_, fun i hi => ?_, ?_⟩
      · simp only [List.getD, List.getElem?_set]; rw [if_neg (by omega)]
      · obtain rfl : i = 0 := by omega
        show 0 ≤ List.getD _ _ _ ∧ List.getD _ _ _ < _
        simp only [Nat.add_zero, List.getD, List.getElem?_set]
        rw [if_pos trivial, if_pos (by omega)]
        show 0 ≤ (0 : Int) ∧ (0 : Int) < _
        omega
      · have e0 : (zs.set oz (0)).getD oz 0 = 0 := by
          simp only [List.getD, List.getElem?_set]
          rw [if_pos trivial, if_pos (by omega)]; rfl
        have e2 : (2 : Int) ^ (64 * 1) = 18446744073709551616 := by decide
        simp only [num, Nat.mul_zero, Int.pow_zero, Int.mul_one, Nat.add_zero, ha, e0, e2]; omega
    case round =>
      obtain ⟨k, hk1, hk, rfl, ho, ys, hy, hyl, hout, hwd, hnum⟩ := hrel
      have hX := ho.blk hx (fun h => hne h.symm)
      by_cases hlt : k < m
      · have c0 := hX.cell (ox + k) (by omega)
        have cz0 := hy.cell (oz + k) (by omega)
        have fz := blk_frozen hy (oz + k)
        have hkI : (k : Int) < m := by omega
        have hwk := HW.out k hlt
        simp only at hwk
        obtain ⟨x, hxx⟩ : ∃ x, xs.getD (ox + k) 0 = x := ⟨_, rfl⟩
        rw [hxx] at c0 hwk
        have HN := Lib.hid (And.intro hnum (And.intro hwd (And.intro hout hxx)))
        clear hnum hwd hout hxx
        by_cases hlast : x = 18446744073709551615
        · subst hlast
          go_wp2_with fail
          go_roundw
          case rel =>
            obtain ⟨hnum, hwd, hout, hxx⟩ := HN.out
            have hat : ∀ j, (ys.set (oz + k) (0)).getD (oz + j) 0 = if j = k then 0 else ys.getD (oz + j) 0 := fun j => by
              simp only [List.getD, List.getElem?_set]
              by_cases e : j = k
              · rw [if_pos (by omega), if_pos (by omega), if_pos e]; rfl
              · rw [if_neg (by omega), if_neg e]
            refine ⟨k + 1, by omega, by omega, by go_num, ho.set (.inr rfl) _, ys.set (oz + k) (0), hy.set _ _, by simpa using hyl, fun p hp => ?_, fun i hi => ?_, ?_⟩
            · rw [← hout p hp]
              simp only [List.getD, List.getElem?_set]
              rw [if_neg (by omega)]
            · show 0 ≤ List.getD _ _ _ ∧ List.getD _ _ _ < _
              rw [hat]
              split
              · omega
              · exact hwd i (by omega)
            · have e2 : (2 : Int) ^ 64 = 18446744073709551616 := by decide
              rw [num, num_congr (f := fun i => (ys.set (oz + k) (0)).getD (oz + i) 0) (g := fun i => ys.getD (oz + i) 0) k (fun j hj => by rw [hat, if_neg (by omega)]), hat, if_pos rfl, num, hxx, show 64 * (k + 1) = 64 + 64 * k by omega, Int.pow_add, e2]
              generalize (2 : Int) ^ (64 * k) = P at *
              omega
          case measure => simp [intOf]; omega
        · have hl2 : (x != 18446744073709551615) = true := by rw [bne_iff_ne]; exact hlast
          go_wp2_with fail
          obtain ⟨hnum, hwd, hout, hxx⟩ := HN.out
          have hB := hy.set (oz + k) (x + 1)
          have hX := far_blk hX hne (oz + k) (.int .u64 (x + 1))
          have ho := ho.set (p := ⟨bz, oz + k, none⟩) (.inr rfl) (.int .u64 (x + 1))
          clear c0 cz0 fz hy
          generalize wr.setCell ⟨bz, oz + k, none⟩ (.int .u64 (x + 1)) = W1 at *
          have hp := fun d => word_other bz bx oz ox _ _ (W1.drewN d) hne hB hX
          go_quiet (fail)
          clear hp
          have ho := ho.drewN nq
          have hB : Blk (W1.drewN nq) bz _ := hB
          have hX : Blk (W1.drewN nq) bx _ := hX
          generalize W1.drewN nq = W at *
          have hcp := copy_on k bz oz (m - (k + 1)) (cz - (k + 1)) bx ox (cx - (k + 1)) (m - (k + 1)) (oz + (k + 1)) (ox + (k + 1)) _ xs W.drew hB hX rfl rfl (.inl rfl) (by simp; omega) (by omega)
          have hcp0 : m = k + 1 → ∀ X, _ := fun h => copy_on k bz oz 0 (cz - (k + 1)) bx ox 0 0 (oz + (k + 1)) ox _ xs W.drew hB hX rfl rfl (.inr rfl) (by simp; omega) (by omega)
          have fin := vw_done (i := k) (s := 1) (y := y) (g := fun i => xs.getD (ox + i) 0) hlt ho.drew hB hyl hnz hout hwd HW.out (by omega) (by
            rw [num, hxx]
            have e3 : (x + 1) * 2 ^ (64 * k) = x * 2 ^ (64 * k) + (1) * 2 ^ (64 * k) := by rw [← Int.add_mul]; try rfl
            rw [e3]; omega)
          have HF := Lib.hid fin
          clear fin hnum hwd hout hxx
          have m0 : ¬ cz = k + 1 := by omega
          have m2I : (m : Int) - ((k : Int) + 1) = ((m - (k + 1) : Nat) : Int) := by omega
          have m3I : IntKind.i64.wrap ((k : Int) + 1) = (k : Int) + 1 := by rw [IntKind.wrap_i64]; omega
          have m4I : ((k : Int) + 1).toNat = k + 1 := by omega
          have m5I : (0 : Int) ≤ (k : Int) + 1 := by omega
          have m6I : (k : Int) + 1 ≤ m := by omega
          have m7I : (k : Int) + 1 ≤ cz := by omega
          have m8I : (k : Int) + 1 ≤ cx := by omega
          go_upto_region 18 with (fail)
          by_cases hb1 : cx = k + 1
          · obtain rfl : m = k + 1 := by omega
            have hcp0 := hcp0 rfl
            clear hcp
            go_still_tail 8, (by kernel_rfl)
            all_goals change wpList _ _ _ _ _ W.drew
            all_goals go_wp2_with fail
            go_ret
            have := HF.out
            rw [Nat.sub_self] at this
            exact this
          · clear hcp0
            go_still_tail 8, (by kernel_rfl)
            all_goals change wpList _ _ _ _ _ W.drew
            all_goals go_wp2_with fail
            go_ret
            exact HF.out
      · obtain rfl : k = m := by omega
        go_wp2_with fail
        go_ret
        exact ⟨1, rfl, by omega, by omega, ho, ys, hy, hyl, hout, hwd, by rw [Int.mul_one]; exact hnum⟩
set_option maxRecDepth 100000 in
set_option maxHeartbeats 4000000 in
theorem subVW_any (bz oz cz bx ox cx m : Nat) (zs xs : List Int) (y : Int) (w : World) (hm : 0 < m) (hz : Blk w bz zs) (hx : Blk w bx xs) (hne : bz ≠ bx) (hnz : oz + m ≤ zs.length) (hnx : ox + m ≤ xs.length) (hcz : m < cz) (hcx : m ≤ cx) (hl : zs.length ≤ 274877906944) (hl2 : xs.length ≤ 274877906944) (hw : Wd (fun i => xs.getD (ox + i) 0) m) (y0 : 0 ≤ y) (y1 : y ≤ 1) :
    Calls Tryz.prog 116 #[.slice (some ⟨bz, oz, none⟩) m cz, .slice (some ⟨bx, ox, none⟩) m cx, .int .u64 y] w (GotVW w bz oz m zs (num (fun i => xs.getD (ox + i) 0) m) (-1) y) := by
  have h1 : ((m : Int) != m) = false := by simp
  have h2 : ((m : Int) == 0) = false := by rw [beq_eq_false_iff_ne]; omega
  have c0 : w.cell? ⟨bx, ox, none⟩ = some (.int .u64 (xs.getD ox 0)) := hx.cell ox (by omega)
  have cz0 := hz.cell oz (by omega)
  have fz := blk_frozen hz oz
  have HW := Lib.hid hw
  have hx0 := hw 0 hm
  simp only [Nat.add_zero] at hx0
  obtain ⟨a, ha⟩ : ∃ a, xs.getD ox 0 = a := ⟨_, rfl⟩
  rw [ha] at c0 hx0
  have hcI : (m : Int) ≤ cx := by omega
  have hczI : (m : Int) < cz := by omega
  have m1I : (1 : Int) ≤ m := by omega
  have HA := Lib.hid (fun w => sub_any a y 0 w hx0.1 hx0.2 y0 (by omega) (by decide) (by decide))
  have HX := Lib.hid (And.intro hz (And.intro hx (And.intro ha (And.intro hx0 hne))))
  clear hw hz hx hx0
  go_enter Tryz.func116, Tryz.ntmps116
  go_wp2_with fail
  refine (HA.out _).mono ?_
  rintro e w' ⟨rfl, hw'⟩
  rw [hw']
  clear hw' w' HA
  have hx9 := HX.out.2.2.2.1
  by_cases hc : y ≤ a
  · rw [show (a - y - 0) % 18446744073709551616 = a - y by omega, if_neg (show ¬ a < y + 0 by omega)]
    clear hx9
    go_wp2_with fail
    obtain ⟨hz, hx, ha, hx0, _⟩ := HX.out
    have hB := hz.set oz (a - y)
    have hX := far_blk hx hne oz (.int .u64 (a - y))
    have ho := (Only.refl w (· = bz)).set (p := ⟨bz, oz, none⟩) (.inr rfl) (.int .u64 (a - y))
    clear c0 cz0 fz hz hx
    generalize w.setCell ⟨bz, oz, none⟩ (.int .u64 (a - y)) = W1 at *
    have hp := fun d => word_other bz bx oz ox _ _ (W1.drewN d) hne hB hX
    go_quiet (fail)
    clear hp
    have ho := ho.drewN nq
    have hB : Blk (W1.drewN nq) bz _ := hB
    have hX : Blk (W1.drewN nq) bx _ := hX
    generalize W1.drewN nq = W at *
    have hcp := copy_on 0 bz oz (m - 1) (cz - 1) bx ox (cx - 1) (m - 1) (oz + 1) (ox + 1) _ xs W.drew hB hX rfl rfl (.inl rfl) (by simp; omega) (by omega)
    have hcp0 : m = 1 → ∀ X, _ := fun h => copy_on 0 bz oz (m - 1) (cz - 1) bx ox 0 (m - 1) (oz + 1) ox _ xs W.drew hB hX rfl rfl (.inr (by omega)) (by simp; omega) (by omega)
    have fin := vw_done (i := 0) (s := -1) (y := y) (g := fun i => xs.getD (ox + i) 0) hm ho.drew hB rfl hnz (fun _ _ => rfl) (fun j hj => by omega) HW.out (by omega) (by
      show num _ 0 + (a - y) * 2 ^ (64 * 0) = num _ (0 + 1) + _
      simp only [num, Nat.mul_zero, Int.pow_zero, Int.mul_one, Nat.add_zero, ha]; omega)
    have HF := Lib.hid fin
    clear fin
    have m0 : ¬ cz = 1 := by omega
    have m2I : (m : Int) - 1 = ((m - 1 : Nat) : Int) := by omega
    go_upto_region 9 with (fail)
    by_cases hb1 : cx = 1
    · obtain rfl : m = 1 := by omega
      have hcp0 := hcp0 rfl
      go_still_tail 4, (by kernel_rfl)
      all_goals change wpList _ _ _ _ _ W.drew
      all_goals go_wp2_with fail
      go_ret
      exact HF.out
    · clear hcp0
      go_still_tail 4, (by kernel_rfl)
      all_goals change wpList _ _ _ _ _ W.drew
      all_goals go_wp2_with fail
      go_ret
      exact HF.out
  · rw [show (a - y - 0) % 18446744073709551616 = 18446744073709551615 by omega, if_pos (show a < y + 0 by omega)]
    clear hx9
    go_wp2_with fail
    obtain ⟨hz, hx, ha, hx0, _⟩ := HX.out
    have hB := hz.set oz (18446744073709551615)
    have hX := far_blk hx hne oz (.int .u64 (18446744073709551615))
    have ho := (Only.refl w (· = bz)).set (p := ⟨bz, oz, none⟩) (.inr rfl) (.int .u64 (18446744073709551615))
    have hxl := blk_lt hx
    clear c0 cz0 fz
    generalize w.setCell ⟨bz, oz, none⟩ (.int .u64 (18446744073709551615)) = W1 at *
    go_loopw [9] (fun si wr => ∃ k : Nat, 1 ≤ k ∧ k ≤ m ∧ si = .int .i64 k ∧ Only w wr (· = bz) ∧ ∃ ys, Blk wr bz ys ∧ ys.length = zs.length ∧ (∀ p, p < oz ∨ oz + m ≤ p → ys.getD p 0 = zs.getD p 0) ∧ Wd (fun i => ys.getD (oz + i) 0) k ∧ num (fun i => ys.getD (oz + i) 0) k + (-1) * 2 ^ (64 * k) = num (fun i => xs.getD (ox + i) 0) k + (-1) * y)
      (fun si _ => m - (intOf si).toNat)
    case atStart =>
      refine ⟨1, by omega, by omega, rfl, ho, _, hB, by simp, fun p hp => ?_, fun i hi => ?_, ?_⟩
      · simp only [List.getD, List.getElem?_set]; rw [if_neg (by omega)]
      · obtain rfl : i = 0 := by omega
        show 0 ≤ List.getD _ _ _ ∧ List.getD _ _ _ < _
        simp only [Nat.add_zero, List.getD, List.getElem?_set]
        rw [if_pos trivial, if_pos (by omega)]
        show 0 ≤ (18446744073709551615 : Int) ∧ (18446744073709551615 : Int) < _
        omega
      · have e0 : (zs.set oz (18446744073709551615)).getD oz 0 = 18446744073709551615 := by
          simp only [List.getD, List.getElem?_set]
          rw [if_pos trivial, if_pos (by omega)]; rfl
        have e2 : (2 : Int) ^ (64 * 1) = 18446744073709551616 := by decide
        simp only [num, Nat.mul_zero, Int.pow_zero, Int.mul_one, Nat.add_zero, ha, e0, e2]; omega
    case round =>
      obtain ⟨k, hk1, hk, rfl, ho, ys, hy, hyl, hout, hwd, hnum⟩ := hrel
      have hX := ho.blk hx (fun h => hne h.symm)
      by_cases hlt : k < m
      · have c0 := hX.cell (ox + k) (by omega)
        have cz0 := hy.cell (oz + k) (by omega)
        have fz := blk_frozen hy (oz + k)
        have hkI : (k : Int) < m := by omega
        have hwk := HW.out k hlt
        simp only at hwk
        obtain ⟨x, hxx⟩ : ∃ x, xs.getD (ox + k) 0 = x := ⟨_, rfl⟩
        rw [hxx] at c0 hwk
        have HN := Lib.hid (And.intro hnum (And.intro hwd (And.intro hout hxx)))
        clear hnum hwd hout hxx
        by_cases hlast : x = 0
        · subst hlast
          go_wp2_with fail
          go_roundw
          case rel =>
            obtain ⟨hnum, hwd, hout, hxx⟩ := HN.out
            have hat : ∀ j, (ys.set (oz + k) (18446744073709551615)).getD (oz + j) 0 = if j = k then 18446744073709551615 else ys.getD (oz + j) 0 := fun j => by
              simp only [List.getD, List.getElem?_set]
              by_cases e : j = k
              · rw [if_pos (by omega), if_pos (by omega), if_pos e]; rfl
              · rw [if_neg (by omega), if_neg e]
            refine ⟨k + 1, by omega, by omega, by go_num, ho.set (.inr rfl) _, ys.set (oz + k) (18446744073709551615), hy.set _ _, by simpa using hyl, fun p hp => ?_, fun i hi => ?_, ?_⟩
            · rw [← hout p hp]
              simp only [List.getD, List.getElem?_set]
              rw [if_neg (by omega)]
            · show 0 ≤ List.getD _ _ _ ∧ List.getD _ _ _ < _
              rw [hat]
              split
              · omega
              · exact hwd i (by omega)
            · have e2 : (2 : Int) ^ 64 = 18446744073709551616 := by decide
              rw [num, num_congr (f := fun i => (ys.set (oz + k) (18446744073709551615)).getD (oz + i) 0) (g := fun i => ys.getD (oz + i) 0) k (fun j hj => by rw [hat, if_neg (by omega)]), hat, if_pos rfl, num, hxx, show 64 * (k + 1) = 64 + 64 * k by omega, Int.pow_add, e2]
              generalize (2 : Int) ^ (64 * k) = P at *
              omega
          case measure => simp [intOf]; omega
        · have hl2 : (x != 0) = true := by rw [bne_iff_ne]; exact hlast
          go_wp2_with fail
          obtain ⟨hnum, hwd, hout, hxx⟩ := HN.out
          have hB := hy.set (oz + k) (x - 1)
          have hX := far_blk hX hne (oz + k) (.int .u64 (x - 1))
          have ho := ho.set (p := ⟨bz, oz + k, none⟩) (.inr rfl) (.int .u64 (x - 1))
          clear c0 cz0 fz hy
          generalize wr.setCell ⟨bz, oz + k, none⟩ (.int .u64 (x - 1)) = W1 at *
          have hp := fun d => word_other bz bx oz ox _ _ (W1.drewN d) hne hB hX
          go_quiet (fail)
          clear hp
          have ho := ho.drewN nq
          have hB : Blk (W1.drewN nq) bz _ := hB
          have hX : Blk (W1.drewN nq) bx _ := hX
          generalize W1.drewN nq = W at *
          have hcp := copy_on k bz oz (m - (k + 1)) (cz - (k + 1)) bx ox (cx - (k + 1)) (m - (k + 1)) (oz + (k + 1)) (ox + (k + 1)) _ xs W.drew hB hX rfl rfl (.inl rfl) (by simp; omega) (by omega)
          have hcp0 : m = k + 1 → ∀ X, _ := fun h => copy_on k bz oz 0 (cz - (k + 1)) bx ox 0 0 (oz + (k + 1)) ox _ xs W.drew hB hX rfl rfl (.inr rfl) (by simp; omega) (by omega)
          have fin := vw_done (i := k) (s := -1) (y := y) (g := fun i => xs.getD (ox + i) 0) hlt ho.drew hB hyl hnz hout hwd HW.out (by omega) (by
            rw [num, hxx]
            have e3 : (x - 1) * 2 ^ (64 * k) = x * 2 ^ (64 * k) + (-1) * 2 ^ (64 * k) := by rw [← Int.add_mul]; try rfl
            rw [e3]; omega)
          have HF := Lib.hid fin
          clear fin hnum hwd hout hxx
          have m0 : ¬ cz = k + 1 := by omega
          have m2I : (m : Int) - ((k : Int) + 1) = ((m - (k + 1) : Nat) : Int) := by omega
          have m3I : IntKind.i64.wrap ((k : Int) + 1) = (k : Int) + 1 := by rw [IntKind.wrap_i64]; omega
          have m4I : ((k : Int) + 1).toNat = k + 1 := by omega
          have m5I : (0 : Int) ≤ (k : Int) + 1 := by omega
          have m6I : (k : Int) + 1 ≤ m := by omega
          have m7I : (k : Int) + 1 ≤ cz := by omega
          have m8I : (k : Int) + 1 ≤ cx := by omega
          go_upto_region 18 with (fail)
          by_cases hb1 : cx = k + 1
          · obtain rfl : m = k + 1 := by omega
            have hcp0 := hcp0 rfl
            clear hcp
            go_still_tail 8, (by kernel_rfl)
            all_goals change wpList _ _ _ _ _ W.drew
            all_goals go_wp2_with fail
            go_ret
            have := HF.out
            rw [Nat.sub_self] at this
            exact this
          · clear hcp0
            go_still_tail 8, (by kernel_rfl)
            all_goals change wpList _ _ _ _ _ W.drew
            all_goals go_wp2_with fail
            go_ret
            exact HF.out
      · obtain rfl : k = m := by omega
        go_wp2_with fail
        go_ret
        exact ⟨1, rfl, by omega, by omega, ho, ys, hy, hyl, hout, hwd, by rw [Int.mul_one]; exact hnum⟩
theorem norm_end {w w3 : World} {o : Option Nat} {b n : Nat} {ys : List Int} {x : Int} (hb : Blk w3 b ys) (hn : n ≤ ys.length) (hm : ys.length ≤ most) (hw : Wd (fun i => ys.getD i 0) n) (hx : num (fun i => ys.getD i 0) n = x) (ho : Only w w3 (fun k => o = some k)) (hob : o = some b ∨ w.heap.size ≤ b) :
    Calls Tryz.prog 113 #[.slice (some ⟨b, 0, none⟩) n ys.length] w3 (Got w o x) := by
  refine (norm_got b n ys w3 hb hn hm hw).mono ?_
  rintro e w' ⟨v, rfl, hv, ho'⟩
  rw [hx] at hv
  refine ⟨v, some b, rfl, hv, ho.step ho' (fun _ _ h => h.elim), ?_⟩
  rcases hob with h | h
  · exact .inl h.symm
  · exact .inr ⟨b, rfl, h⟩
theorem top_end {w w3 : World} {o : Option Nat} {b m : Nat} {ys : List Int} {x c : Int} (hb : Blk w3 b ys) (hn : m + 1 ≤ ys.length) (hm : ys.length ≤ most) (hw : Wd (fun i => ys.getD i 0) m) (hc0 : 0 ≤ c) (hc1 : c ≤ 1) (hx : num (fun i => ys.getD i 0) m + c * 2 ^ (64 * m) = x) (ho : Only w w3 (fun k => o = some k)) (hob : o = some b ∨ w.heap.size ≤ b) :
    Calls Tryz.prog 113 #[.slice (some ⟨b, 0, none⟩) (m + 1) ys.length] (w3.setCell ⟨b, m, none⟩ (.int .u64 c)) (Got w o x) := by
  have hl : (ys.set m c).length = ys.length := by simp
  have hat : ∀ j, (ys.set m c).getD j 0 = if j = m then c else ys.getD j 0 := fun j => by
    simp only [List.getD, List.getElem?_set]
    by_cases e : j = m
    · rw [if_pos e.symm, if_pos (by omega), if_pos e]; rfl
    · rw [if_neg (by omega), if_neg e]
  rw [← hl]
  refine norm_end (hb.set m c) (by omega) (by omega) (fun j hj => ?_) ?_ (ho.set ?_ _) hob
  · show 0 ≤ List.getD _ _ _ ∧ List.getD _ _ _ < _
    rw [hat]
    split
    · omega
    · exact hw j (by omega)
  · rw [num, num_congr m (g := fun i => ys.getD i 0) (fun j hj => by rw [hat, if_neg (by omega)]), hat, if_pos rfl]
    exact hx
  · rcases hob with h | h
    · exact .inr h
    · exact .inl h
set_option maxRecDepth 100000 in
set_option maxHeartbeats 4000000 in
theorem add_ge (z : Value) (o : Option Nat) (bx bv m n : Nat) (xs vs : List Int) (w : World) (hz : Room w z o) (hx : Blk w bx xs) (hv : Blk w bv vs) (ho1 : o ≠ some bx) (hn : 0 < n) (hmn : n ≤ m) (hnx : m ≤ xs.length) (hnv : n ≤ vs.length) (hm : m ≤ 16777217) (hlx : xs.length ≤ most) (hwx : Wd (fun i => xs.getD i 0) m) (hwv : Wd (fun i => vs.getD i 0) n) :
    Calls Tryz.prog 87 #[z, .slice (some ⟨bx, 0, none⟩) m xs.length, .slice (some ⟨bv, 0, none⟩) n vs.length] w (Got w o (num (fun i => xs.getD i 0) m + num (fun i => vs.getD i 0) n)) := by
  have hmm : most = 274877906944 := rfl
  have hlt := blk_lt hx
  have h0 : ¬ (m : Int) < n := by omega
  have h1 : ((m : Int) == 0) = false := by rw [beq_eq_false_iff_ne]; omega
  have h2 : ((n : Int) == 0) = false := by rw [beq_eq_false_iff_ne]; omega
  have q0 : (0 : Int) ≤ n := by omega
  have q1 : (n : Int) ≤ xs.length := by omega
  have q2 : (n : Int) ≤ vs.length := by omega
  have hmk := Lib.hid (fun w (h : Room w z o) => make_any z o (m + 1) w h (by omega) (by omega))
  have hen := Tryz.addVV_enters
  go_enter Tryz.func87, Tryz.ntmps87
  go_wp2_with fail
  refine (hmk.out w hz).mono ?_
  rintro e w1 ⟨b, zs, rfl, hb, hnz, hzm, ho, hob⟩
  have hbx : b ≠ bx := by
    rcases hob with ⟨h, _⟩ | h
    · rintro rfl; exact ho1 h
    · omega
  have q3 : (n : Int) ≤ zs.length := by omega
  have hx1 : Blk w1 bx xs := ho.blk hx (fun h => h)
  have hv1 : Blk w1 bv vs := ho.blk hv (fun h => h)
  have HC := Lib.hid (addVV_any b zs.length bx xs.length bv vs.length n zs xs vs w1.drew hb hx1 hv1 (by omega) (by omega) hnv (by omega) (fun i hi => hwx i (by omega)) hwv)
  have hob2 : o = some b ∨ w.heap.size ≤ b := by
    rcases hob with ⟨h, _⟩ | h
    · exact .inl h
    · exact .inr (by omega)
  have HB := Lib.hid (And.intro hx1 (And.intro ho (And.intro hob2 (And.intro hbx hwx))))
  clear hmk hz hx hv hb hv1 hx1 ho hob hob2
  go_upto_region 10 with (fail)
  go_still_tail 9, (by kernel_rfl)
  change wpList _ _ _ _ _ w1.drew
  go_wp2_with fail
  refine HC.out.mono ?_
  rintro e w2 ⟨d, rfl, hd0, hd1, ho2, ys, hy, hyl, hout, hwd, hnum⟩
  obtain ⟨hx1, ho, hob2, _, _⟩ := HB.out
  have ho12 : Only w w2 (fun k => o = some k) := ((ho.mono (fun _ _ h => h.elim)).drew.step ho2 (by
    rintro i hi rfl
    rcases hob2 with h | h
    · exact h
    · omega))
  have hx2 : Blk w2 bx xs := ho2.blk (show Blk w1.drew bx xs from hx1) (fun h => hbx h.symm)
  have HN := Lib.hid (And.intro hnum (And.intro hwd (And.intro ho12 (And.intro hd0 hd1))))
  clear hnum hwd ho12 hd0 hd1 HC ho hx1
  by_cases hlt2 : n < m
  · have hltI : (m : Int) > n := by omega
    have r1 : (n : Int) ≤ m := by omega
    have r2 : (m : Int) ≤ zs.length := by omega
    have r3 : ¬ zs.length = n := by omega
    have r4 : ¬ xs.length = n := by omega
    have HV := Lib.hid (addVW_any b n (zs.length - n) bx n (xs.length - n) (m - n) ys xs d w2.drew (by omega) hy hx2 hbx (by omega) (by omega) (by omega) (by omega) (by omega) (by omega) (fun i hi => hwx (n + i) (by omega)) HN.out.2.2.2.1 HN.out.2.2.2.2)
    go_upto_region 12 with (fail)
    go_still_tail 8, (by kernel_rfl)
    change wpList _ _ _ _ _ w2.drew
    go_wp2_with fail
    refine HV.out.mono ?_
    rintro e w3 ⟨c, rfl, hc0, hc1, ho3, ys3, hy3, hyl3, hout3, hwd3, hnum3⟩
    obtain ⟨hnum, hwd, ho12, _, _⟩ := HN.out
    have hlo : ∀ i, i < n → ys3.getD i 0 = ys.getD i 0 := fun i hi => hout3 i (by omega)
    have hE := top_end (o := o) (w := w) (m := m) (x := num (fun i => xs.getD i 0) m + num (fun i => vs.getD i 0) n) hy3 (by omega) (by omega) (fun i hi => by
        by_cases h : i < n
        · show 0 ≤ ys3.getD i 0 ∧ ys3.getD i 0 < _
          rw [hlo i h]; exact hwd i h
        · have := hwd3 (i - n) (by omega)
          simp only [show n + (i - n) = i by omega] at this
          exact this) hc0 hc1 (by
        have e1 : m = n + (m - n) := by omega
        have a1 := num_add (fun i => ys3.getD i 0) n (m - n)
        have a2 := num_add (fun i => xs.getD i 0) n (m - n)
        rw [← e1] at a1 a2
        rw [a1, a2, num_congr n hlo]
        have e2 : (2 : Int) ^ (64 * m) = 2 ^ (64 * (m - n)) * 2 ^ (64 * n) := by rw [← Int.pow_add]; congr 1; omega
        rw [e2, ← Int.mul_assoc]
        rw [Int.one_mul, Int.one_mul] at hnum3
        generalize (2 : Int) ^ (64 * (m - n)) = P at *
        generalize (2 : Int) ^ (64 * n) = Q at *
        have e3 := congrArg (· * Q) hnum3
        simp only [Int.add_mul] at e3
        omega) (ho12.drew.step ho3 (by
        rintro i hi rfl
        rcases HB.out.2.2.1 with h | h
        · exact h
        · omega)) HB.out.2.2.1
    rw [hyl3, hyl] at hE
    have HE := Lib.hid hE
    have cz := hy3.cell m (by omega)
    have fz := blk_frozen hy3 m
    clear hE hnum3 hwd3 hout3 hlo hnum hwd ho12 ho3
    go_wp2_with fail
    refine HE.out.mono ?_
    rintro e w4 hG
    obtain ⟨v, o', rfl, hv⟩ := id hG
    go_wp2_with fail
    go_ret
    exact hG
  · obtain rfl : n = m := by omega
    have hltI : ¬ (n : Int) > n := by omega
    have cz := hy.cell n (by omega)
    have fz := blk_frozen hy n
    obtain ⟨hnum, hwd, ho12, hd0, hd1⟩ := HN.out
    have hE := top_end (o := o) (w := w) (x := num (fun i => xs.getD i 0) n + num (fun i => vs.getD i 0) n) hy (by omega) (by omega) hwd hd0 hd1 hnum ho12 HB.out.2.2.1
    rw [hyl] at hE
    have HE := Lib.hid hE
    clear hE hnum hwd ho12 hd0 hd1
    go_wp2_with fail
    refine HE.out.mono ?_
    rintro e w4 hG
    obtain ⟨v, o', rfl, hv⟩ := id hG
    go_wp2_with fail
    go_ret
    exact hG
theorem num_lt {f g : Nat → Int} {i n : Nat} (hi : i < n) (he : ∀ j, i < j → j < n → f j = g j) (hf : Wd f n) (hg : Wd g n) (h : f i < g i) : num f n < num g n := by
  have h1 := num_tail (f := f) (g := g) (i := i + 1) n (by omega) (fun j a b => he j (by omega) b)
  rw [num, num] at h1
  have r1 := num_range i (fun j hj => hf j (by omega))
  have r2 := num_range i (fun j hj => hg j (by omega))
  have hp : (0 : Int) < 2 ^ (64 * i) := Int.pow_pos (by omega)
  have h2 := Int.mul_le_mul_of_nonneg_right (show f i + 1 ≤ g i by omega) (Int.le_of_lt hp)
  rw [Int.add_mul, Int.one_mul] at h2
  omega
theorem nrm_lt {xs vs : List Int} {m n : Nat} (h : m < n) (hx : Nrm xs m) (hv : Nrm vs n) : num (fun i => xs.getD i 0) m < num (fun i => vs.getD i 0) n := by
  have h1 := (num_range m hx.1).2
  have h2 := hv.low (by omega)
  have h3 : (2 : Int) ^ (64 * m) ≤ 2 ^ (64 * (n - 1)) := by
    rw [two_pow_cast, two_pow_cast]
    exact Int.ofNat_le.2 (Nat.pow_le_pow_right (by omega) (by omega))
  omega
def ord (x y : Int) : Int := if x < y then -1 else if x = y then 0 else 1
theorem ord_lt {x y : Int} (h : x < y) : ord x y = -1 := by unfold ord; rw [if_pos h]
theorem ord_eq {x y : Int} (h : x = y) : ord x y = 0 := by unfold ord; rw [if_neg (by omega), if_pos h]
theorem ord_gt {x y : Int} (h : y < x) : ord x y = 1 := by unfold ord; rw [if_neg (by omega), if_neg (by omega)]
set_option maxRecDepth 100000 in
set_option maxHeartbeats 4000000 in
theorem cmp_words (bx cx bv cv n : Nat) (xs vs : List Int) (w : World) (hx : Blk w bx xs) (hv : Blk w bv vs) (hn : 0 < n) (hm : n ≤ 274877906944) (hnx : n ≤ xs.length) (hnv : n ≤ vs.length) (hwx : Wd (fun i => xs.getD i 0) n) (hwv : Wd (fun i => vs.getD i 0) n) :
    Calls Tryz.prog 93 #[.slice (some ⟨bx, 0, none⟩) n cx, .slice (some ⟨bv, 0, none⟩) n cv] w fun e w' => e = .returned (.int .i64 (ord (num (fun i => xs.getD i 0) n) (num (fun i => vs.getD i 0) n))) ∧ ∃ d, w' = w.drewN d := by
  have h1 : ((n : Int) != n) = false := by simp
  have h2 : ((n : Int) == 0) = false := by rw [beq_eq_false_iff_ne]; omega
  have HW := Lib.hid (And.intro hwx hwv)
  clear hwx hwv
  go_enter Tryz.func93, Tryz.ntmps93
  go_wp2_with fail
  go_loopw [7] (fun i wr => ∃ k : Nat, k < n ∧ i = .int .i64 k ∧ (∃ d, wr = w.drewN d) ∧ ∀ j, k < j → j < n → xs.getD j 0 = vs.getD j 0) (fun i _ => (intOf i).toNat)
  case atStart => exact ⟨n - 1, by omega, by rw [Int.ofNat_sub (by omega)]; rfl, ⟨0, rfl⟩, fun j h1 h2 => by omega⟩
  case round =>
    obtain ⟨k, hk, rfl, ⟨d, rfl⟩, heq⟩ := hrel
    have c0 : w.cell? ⟨bx, k, none⟩ = some (.int .u64 (xs.getD k 0)) := hx.cell k (by omega)
    have c1 : w.cell? ⟨bv, k, none⟩ = some (.int .u64 (vs.getD k 0)) := hv.cell k (by omega)
    have HE := Lib.hid heq
    clear heq
    have hkI : (k : Int) < n := by omega
    generalize hX : xs.getD k 0 = x at c0
    generalize hV : vs.getD k 0 = v at c1
    have HXV := Lib.hid (And.intro hX hV)
    clear hX hV
    have tail : ∀ _ : Nat, Hid (x < v → ord (num (fun i => xs.getD i 0) n) (num (fun i => vs.getD i 0) n) = -1) ∧ Hid (v < x → ord (num (fun i => xs.getD i 0) n) (num (fun i => vs.getD i 0) n) = 1) := fun _ =>
      ⟨Lib.hid fun h => ord_lt (num_lt hk (fun j a b => HE.out j a b) HW.out.1 HW.out.2 (by rw [HXV.out.1, HXV.out.2]; exact h)),
       Lib.hid fun h => ord_gt (num_lt hk (fun j a b => (HE.out j a b).symm) HW.out.2 HW.out.1 (by rw [HXV.out.1, HXV.out.2]; exact h))⟩
    obtain ⟨HT1, HT2⟩ := tail 0
    clear tail
    by_cases hz : k = 0
    · subst hz
      rcases Int.lt_trichotomy x v with hl | hl | hl
      · have h3 : ¬ v < x := by omega
        go_wp2_with fail
        go_quiet (fail)
        go_wp2_with fail
        go_quiet (fail)
        go_wp2_with fail
        go_ret
        exact ⟨by rw [HT1.out hl]; rfl, _, by simp only [World.drewN_drewN]; rfl⟩
      · subst hl
        have h3 : ¬ x < x := by omega
        go_wp2_with fail
        go_quiet (fail)
        go_wp2_with fail
        go_quiet (fail)
        go_wp2_with fail
        go_quiet (fail)
        go_wp2_with fail
        go_ret
        refine ⟨?_, _, by simp only [World.drewN_drewN]; rfl⟩
        rw [ord_eq (num_congr n fun i hi => by
          by_cases e : i = 0
          · subst e; rw [HXV.out.1, HXV.out.2]
          · exact HE.out i (by omega) hi)]
        rfl
      · have h3 : ¬ x < v := by omega
        go_wp2_with fail
        go_quiet (fail)
        go_wp2_with fail
        go_quiet (fail)
        go_wp2_with fail
        go_quiet (fail)
        go_wp2_with fail
        go_ret
        exact ⟨by rw [HT2.out hl]; rfl, _, by simp only [World.drewN_drewN]; rfl⟩
    · have kd : decide (0 < k) = true := by rw [decide_eq_true_eq]; omega
      by_cases hxv : x = v
      · subst hxv
        go_wp2_with fail
        go_quiet (fail)
        go_wp2_with fail
        go_roundw
        case rel => exact ⟨k - 1, by omega, by rw [Int.ofNat_sub (by omega)]; rfl, ⟨_, rfl⟩, fun j a b => by
          by_cases e : j = k
          · subst e; rw [HXV.out.1, HXV.out.2]
          · exact HE.out j (by omega) b⟩
        case measure => simp [intOf]; omega
      · have hxv2 : (x == v) = false := beq_eq_false_iff_ne.2 hxv
        rcases Int.lt_trichotomy x v with hl | hl | hl
        · have h3 : ¬ v < x := by omega
          go_wp2_with fail
          go_quiet (fail)
          go_wp2_with fail
          go_quiet (fail)
          go_wp2_with fail
          go_ret
          exact ⟨by rw [HT1.out hl]; rfl, _, by simp only [World.drewN_drewN]; rfl⟩
        · exact absurd hl hxv
        · have h3 : ¬ x < v := by omega
          go_wp2_with fail
          go_quiet (fail)
          go_wp2_with fail
          go_quiet (fail)
          go_wp2_with fail
          go_quiet (fail)
          go_wp2_with fail
          go_ret
          exact ⟨by rw [HT2.out hl]; rfl, _, by simp only [World.drewN_drewN]; rfl⟩
end Go.Proofs.YtlfmgdpbjapdjaaGreatFmtBesafter
