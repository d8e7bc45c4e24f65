/- Part 16 of the walk of ExactOnes: FltA FltB FltC FltD. -/
import Derived.Test.YtflhdplfkpdejaaGreatFmtPart11
import Derived.Test.YtflhdplfkpdejaaGreatFmtPart04
import Derived.Test.YtflhdplfkpdejaaGreatFmtPart06
import Derived.Test.YtflhdplfkpdejaaGreatFmtPart13
namespace Go.Proofs.YtflhdplfkpdejaaGreatFmt
open Go.RowKit Go.Proofs.YtflhdplfkpdejaaGreatFmtW.PrintWords
set_option maxRecDepth 100000 in
set_option maxHeartbeats 4000000 in
theorem acc_calls (b : Bool) (w : World) : Calls Tryz.prog 140 #[.bool b] w fun e w' => e = .returned (.int .i8 (if b then 1 else -1)) ∧ w' = w := by
  cases b <;>
  · go_enter Tryz.func140, Tryz.ntmps140
    go_wp2_with fail
    go_ret
    exact ⟨rfl, rfl⟩
set_option maxRecDepth 100000 in
set_option maxHeartbeats 4000000 in
theorem bit_lit (b n c : Nat) (ys : List Int) (i j s x r : Int) (w : World) (hb : Blk w b ys) (hn : n ≤ ys.length) (hn2 : n ≤ 1000) (hi : i / 64 = j) (hs : i % 64 = s) (hi0 : 0 ≤ i) (hj : j < n) (hx : ys.getD j.toNat 0 = x) (hs0 : x / 2 ^ s.toNat = r) (hi1 : i < 1000) :
    Calls Tryz.prog 163 #[.slice (some ⟨b, 0, none⟩) n c, .int .u64 i] w fun e w' => e = .returned (.int .u64 (bits .and .u64 r 1)) ∧ w' = w := by
  have hc : w.cell? ⟨b, j.toNat, none⟩ = some (.int .u64 x) := by rw [hb.cell _ (by omega), hx]
  have hW : IntKind.u64.wrap (n : Int) = n := by rw [IntKind.wrap_u64]; omega
  have hj0 : 0 ≤ j := by omega
  have hs1 : 0 ≤ s := by omega
  go_enter Tryz.func163, Tryz.ntmps163
  go_wp2_with fail
  go_ret
  exact ⟨rfl, rfl⟩
set_option maxRecDepth 100000 in
set_option maxHeartbeats 4000000 in
theorem sticky_a (b c : Nat) (ys : List Int) (w : World) (hb : Blk w b ys) (hn : 2 ≤ ys.length) (h0 : ys.getD 0 0 = 9223372036854775808) :
    Calls Tryz.prog 108 #[.slice (some ⟨b, 0, none⟩) 2 c, .int .u64 62] w fun e w' => e = .returned (.int .u64 0) ∧ w' = w := by
  have hc : w.cell? ⟨b, 0, none⟩ = some (.int .u64 9223372036854775808) := by rw [hb.cell _ (by omega), h0]
  have hW : ∀ n, IntKind.u64.wrap n = n % 18446744073709551616 := IntKind.wrap_u64
  go_enter Tryz.func108, Tryz.ntmps108
  go_wp2_with fail
  refine wp_loop_rounds 1 ?_
  rw [rounds_succ]
  go_wp2_with fail
  go_ret
  exact ⟨rfl, rfl⟩
set_option maxRecDepth 100000 in
set_option maxHeartbeats 4000000 in
theorem sticky_b (b c : Nat) (ys : List Int) (w : World) (hb : Blk w b ys) (hn : 2 ≤ ys.length) (h0 : ys.getD 0 0 = 9223372036854775808) (hc2 : 2 ≤ c) :
    Calls Tryz.prog 108 #[.slice (some ⟨b, 0, none⟩) 2 c, .int .u64 74] w fun e w' => e = .returned (.int .u64 1) ∧ w' = w := by
  have hc : w.cell? ⟨b, 0, none⟩ = some (.int .u64 9223372036854775808) := by rw [hb.cell _ (by omega), h0]
  have hW : ∀ n, IntKind.u64.wrap n = n % 18446744073709551616 := IntKind.wrap_u64
  go_enter Tryz.func108, Tryz.ntmps108
  go_wp2_with fail
  refine wp_loop_rounds 2 ?_
  rw [rounds_succ]
  go_wp2_with fail
  go_ret
  exact ⟨rfl, rfl⟩
set_option maxRecDepth 100000 in
set_option maxHeartbeats 4000000 in
theorem msb_lit (b c : Nat) (ys : List Int) (x : Int) (w : World) (hb : Blk w b ys) (hn : 1 ≤ ys.length) (h0 : ys.getD 0 0 = x) :
    Calls Tryz.prog 114 #[.slice (some ⟨b, 0, none⟩) 1 c] w fun e w' => e = .returned (.int .u64 x) ∧ w' = w := by
  have hc : w.cell? ⟨b, 0, none⟩ = some (.int .u64 x) := by rw [hb.cell _ (by omega), h0]
  go_enter Tryz.func114, Tryz.ntmps114
  go_wp2_with fail
  go_ret
  exact ⟨rfl, rfl⟩
set_option maxRecDepth 100000 in
set_option maxHeartbeats 4000000 in
theorem fnorm_lit (b c : Nat) (ys : List Int) (w : World) (hb : Blk w b ys) (hn : 2 ≤ ys.length) (hl : ys.length < 1099511627776) (h0 : ys.getD 0 0 = 6148914691236517205) (h1 : ys.getD 1 0 = 1) :
    Calls Tryz.prog 104 #[.slice (some ⟨b, 0, none⟩) 2 c] w fun e w' => ∃ zs, e = .returned (.int .i64 63) ∧ Blk w' b zs ∧ zs.length = ys.length ∧ zs.getD 0 0 = 9223372036854775808 ∧ zs.getD 1 0 = 12297829382473034410 ∧ Only w w' (fun k => k = b) := by
  have x1 : w.cell? ⟨b, 1, none⟩ = some (.int .u64 1) := by rw [hb.cell _ (by omega), h1]
  have hx : ∀ i, i < 2 → w.cell? ⟨b, 0 + i, none⟩ = some (.int .u64 (ys.getD i 0)) := fun i hi => by rw [Nat.zero_add]; exact hb.cell i (by omega)
  have HN := Lib.hid (fun w => nlz_lit 1 63 w (by decide +kernel) (by decide +kernel) (by decide +kernel) (by decide +kernel))
  have HS := Lib.hid (lshVU_any b 0 c b 0 c 2 63 ys (fun i => ys.getD i 0) w (by omega) (by omega) (by omega) hb (by omega) hl hx (.inr ⟨rfl, by omega⟩))
  have HB := Lib.hid (And.intro h0 h1)
  have hen := Tryz.lshVU_enters
  clear hb hx h0 h1
  go_enter Tryz.func104, Tryz.ntmps104
  go_wp2_with fail
  refine (HN.out _).mono ?_
  rintro e w' ⟨rfl, rfl⟩
  go_wp2_with fail
  refine HS.out.mono ?_
  rintro e w2 ⟨he, ho2, zs, hz, hzl, hout, hz0, hzj⟩
  have h0 := HB.out.1
  have h1 := HB.out.2
  have he : e = .returned (.int .u64 0) := by
    rw [he]
    show Ending.returned (.int .u64 (ys.getD 1 0 / 2 ^ 1)) = _
    rw [h1]; rfl
  subst he
  have e0 : zs.getD 0 0 = 9223372036854775808 := by
    rw [hz0]
    show IntKind.u64.wrap (ys.getD 0 0 * 2 ^ 63) = _
    rw [h0]; decide +kernel
  have e1 : zs.getD 1 0 = 12297829382473034410 := by
    have := hzj 1 (by omega) (by omega)
    rw [Nat.zero_add] at this
    rw [this]
    show bits .or .u64 (IntKind.u64.wrap (ys.getD 1 0 * 2 ^ 63)) (ys.getD 0 0 / 2 ^ 1) = _
    rw [h0, h1]; decide +kernel
  clear hz0 hzj h0 h1
  go_wp2_with fail
  go_ret
  exact ⟨zs, rfl, hz, hzl, e0, e1, ho2⟩
end Go.Proofs.YtflhdplfkpdejaaGreatFmt
namespace Go.Proofs.YtflhdplfkpdejaaGreatFmt
open Go.RowKit Go.Proofs.YtflhdplfkpdejaaGreatFmtW.PrintWords Go.Proofs.YtflhdplfkpdejaaGreatFmtW.PrintLast
def fl (p a fm : Int) (n : Bool) (v : Value) (e : Int) : Array Value := #[.int .u32 p, .int .u8 0, .int .i8 a, .int .u8 fm, .bool n, v, .int .i32 e]
set_option maxRecDepth 100000 in
set_option maxHeartbeats 4000000 in
theorem round_a (f b c : Nat) (ys : List Int) (a e : Int) (w : World) (hf : w.heap[f]? = some (.cells (fl 65 a 1 false (.slice (some ⟨b, 0, none⟩) 2 c) e) 110 (0, 0))) (hb : Blk w b ys) (hn : 2 ≤ ys.length) (h0 : ys.getD 0 0 = 9223372036854775808) :
    Calls Tryz.prog 141 #[.pointer (some ⟨f, 0, none⟩), .int .u64 0] w fun en w' => en = .returned (.tuple #[]) ∧ w'.heap[f]? = some (.cells (fl 65 0 1 false (.slice (some ⟨b, 0, none⟩) 2 c) e) 110 (0, 0)) ∧ Blk w' b (ys.set 0 9223372036854775808) ∧ Only w w' (fun k => k = f ∨ k = b) := by
  have hW : ∀ n, IntKind.u64.wrap n = n % 18446744073709551616 := IntKind.wrap_u64
  have hW3 : ∀ n, IntKind.u32.wrap n = n % 4294967296 := IntKind.wrap_u32
  have c0 : w.cell? ⟨f, 0, none⟩ = some (.int .u32 65) := blk_cell hf 0
  have c1 : w.cell? ⟨f, 1, none⟩ = some (.int .u8 0) := blk_cell hf 1
  have c2 : w.cell? ⟨f, 2, none⟩ = some (.int .i8 a) := blk_cell hf 2
  have c3 : w.cell? ⟨f, 3, none⟩ = some (.int .u8 1) := blk_cell hf 3
  have c5 : w.cell? ⟨f, 5, none⟩ = some (.slice (some ⟨b, 0, none⟩) 2 c) := blk_cell hf 5
  have f2 := blk_frozen hf 2
  have x0 : w.cell? ⟨b, 0, none⟩ = some (.int .u64 9223372036854775808) := by rw [hb.cell _ (by omega), h0]
  have g0 := blk_frozen hb 0
  have hne : f ≠ b := blk_ne hf hb (by decide)
  obtain ⟨w1, hw1⟩ : ∃ w1, w1 = w.setCell ⟨f, 2, none⟩ (.int .i8 0) := ⟨_, rfl⟩
  have HBIT := Lib.hid (fun W hb' => bit_lit b 2 c ys 62 0 62 9223372036854775808 2 W hb' hn (by decide) (by decide) (by decide) (by decide) (by decide) h0 (by decide +kernel) (by decide))
  have HST := Lib.hid (fun W hb' => sticky_a b c ys W hb' hn h0)
  have hb1 : Blk (w.setCell ⟨f, 2, none⟩ (.int .i8 0)) b ys := blk_far hb (p := ⟨f, 2, none⟩) (Ne.symm hne) _
  have b1 : bits .and .u64 2 1 = 0 := by decide +kernel
  have b2 : bits .and .u64 0 1 = 0 := by decide +kernel
  have b3 : bits .or .u64 0 0 = 0 := by decide +kernel
  have b4 : bits .andNot .u64 9223372036854775808 9223372036854775807 = 9223372036854775808 := by decide +kernel
  clear hw1 w1
  go_enter Tryz.func141, Tryz.ntmps141
  go_wp2_with fail
  refine (HBIT.out _ hb1).mono ?_
  rintro en w' ⟨rfl, rfl⟩
  go_wp2_with fail
  refine (HST.out _ hb1).mono ?_
  rintro en w' ⟨rfl, rfl⟩
  go_wp2_with fail
  go_end0
  have h1 := blk_far (blk_set hf 2 (.int .i8 0)) (p := ⟨b, 0, none⟩) hne (.int .u64 9223372036854775808)
  refine ⟨rfl, by simpa [fl] using h1, hb1.set 0 9223372036854775808, ?_⟩
  exact ((Only.refl w (fun k => k = f ∨ k = b)).set (p := ⟨f, 2, none⟩) (.inr (.inl rfl)) _).set (p := ⟨b, 0, none⟩) (.inr (.inr rfl)) _
theorem after_copy {w1 W : World} {f b : Nat} {ys : List Int} {cs : Array Value} (hf : W.heap[f]? = some (.cells cs 110 (0, 0))) (hb : Blk W b ys) (hne : f ≠ b) (_ : 2 ≤ ys.length) (hH : Only w1 W (fun k => k = b)) :
    ∃ w2, w2 = W.setRow b (words (splice ys 0 [12297829382473034410])) ∧ w2.heap[f]? = some (.cells cs 110 (0, 0)) ∧ Blk w2 b (splice ys 0 [12297829382473034410]) ∧ Only w1 w2 (fun k => k = b) :=
  ⟨_, rfl, (setRow_other W b f _ hne).trans hf, hb.row _, hH.row (.inr rfl) _⟩
set_option linter.unusedVariables false in
set_option linter.unusedSimpArgs false in
set_option maxRecDepth 100000 in
set_option maxHeartbeats 4000000 in
theorem round_b (f b c : Nat) (ys : List Int) (a e : Int) (w : World) (hf : w.heap[f]? = some (.cells (fl 53 a 1 false (.slice (some ⟨b, 0, none⟩) 2 (c + 2)) e) 110 (0, 0))) (hb : Blk w b ys) (hn : 2 ≤ ys.length) (h0 : ys.getD 0 0 = 9223372036854775808) (h1 : ys.getD 1 0 = 12297829382473034410) :
    Calls Tryz.prog 141 #[.pointer (some ⟨f, 0, none⟩), .int .u64 0] w fun en w' => en = .returned (.tuple #[]) ∧ w'.heap[f]? = some (.cells (fl 53 (-1) 1 false (.slice (some ⟨b, 0, none⟩) 1 (c + 2)) e) 110 (0, 0)) ∧ (∃ zs, Blk w' b zs ∧ zs.length = ys.length ∧ zs.getD 0 0 = 12297829382473033728) ∧ Only w w' (fun k => k = f ∨ k = b) := by
  have hW : ∀ n, IntKind.u64.wrap n = n % 18446744073709551616 := IntKind.wrap_u64
  have hW3 : ∀ n, IntKind.u32.wrap n = n % 4294967296 := IntKind.wrap_u32
  have c0 : w.cell? ⟨f, 0, none⟩ = some (.int .u32 53) := blk_cell hf 0
  have c1 : w.cell? ⟨f, 1, none⟩ = some (.int .u8 0) := blk_cell hf 1
  have c2 : w.cell? ⟨f, 2, none⟩ = some (.int .i8 a) := blk_cell hf 2
  have c3 : w.cell? ⟨f, 3, none⟩ = some (.int .u8 1) := blk_cell hf 3
  have c4 : w.cell? ⟨f, 4, none⟩ = some (.bool false) := blk_cell hf 4
  have c5 : w.cell? ⟨f, 5, none⟩ = some (.slice (some ⟨b, 0, none⟩) 2 (c + 2)) := blk_cell hf 5
  have f2 := blk_frozen hf 2
  have f5 := blk_frozen hf 5
  have hne : f ≠ b := blk_ne hf hb (by decide)
  have HBIT := Lib.hid (fun W hb' => bit_lit b 2 (c + 2) ys 74 1 10 12297829382473034410 12009599006321322 W hb' hn (by decide) (by decide) (by decide) (by decide) (by decide) h1 (by decide +kernel) (by decide))
  have HST := Lib.hid (fun W hb' => sticky_b b (c + 2) ys W hb' hn h0 (by omega))
  have hb1 : Blk (w.setCell ⟨f, 2, none⟩ (.int .i8 0)) b ys := blk_far hb (p := ⟨f, 2, none⟩) (Ne.symm hne) _
  have b1 : bits .and .u64 12009599006321322 1 = 0 := by decide +kernel
  have b2 : bits .and .u64 1 1 = 1 := by decide +kernel
  have b3 : bits .or .u64 0 1 = 1 := by decide +kernel
  have b4 : bits .andNot .u64 12297829382473034410 2047 = 12297829382473033728 := by decide +kernel
  go_enter Tryz.func141, Tryz.ntmps141
  go_wp2_with fail
  refine (HBIT.out _ hb1).mono ?_
  rintro en w' ⟨rfl, rfl⟩
  go_wp2_with fail
  refine (HST.out _ hb1).mono ?_
  rintro en w' ⟨rfl, rfl⟩
  go_wp2_with fail
  have hf1 : (w.setCell ⟨f, 2, none⟩ (.int .i8 0)).heap[f]? = some (.cells (fl 53 0 1 false (.slice (some ⟨b, 0, none⟩) 2 (c + 2)) e) 110 (0, 0)) := by simpa [fl] using blk_set hf 2 (.int .i8 0)
  have ho1 : Only w (w.setCell ⟨f, 2, none⟩ (.int .i8 0)) (fun k => k = f ∨ k = b) := (Only.refl w (fun k => k = f ∨ k = b)).set (p := ⟨f, 2, none⟩) (.inr (.inl rfl)) _
  clear c0 c1 c2 c3 c4 c5 f2 f5 HBIT HST
  generalize w.setCell ⟨f, 2, none⟩ (.int .i8 0) = w1 at *
  clear hf hb
  have HK : Hid (∀ W, Only w1 W (fun k => k = b) → W.cell? ⟨f, 5, none⟩ = some (.slice (some ⟨b, 0, none⟩) 2 (c + 2))) := Lib.hid (fun W hW => by
    have h := (hW.kept _ (blk_lt hf1) hne).trans hf1
    exact blk_cell h 5)
  have hfd := blk_drew hf1
  have hbd : Blk w1.drew b ys := hb1
  have hy1 : w1.drew.cell? ⟨b, 1 + 0, none⟩ = some (.int .u64 12297829382473034410) := by
    have := hb1.cell 1 (by omega)
    rw [h1] at this
    exact this
  have HO1 := Lib.hid ho1
  clear hf1 hb1 ho1
  refine start_ (S := (fun W => Only w1 W (fun k => k = b))) (ds := ([] : List Nat)) #[false, false, false, false, false, false, false, false, false, false, false, false, false] (by kernel_rfl) rfl rfl ?_ (fun hHeld => ?_)
  · exact (Only.refl w1 _).drew
  generalize w1.drew = W1 at *
  refine pure_ (i := 0) (oi := ?o0) (v := ?v0) #[true, false, false, false, false, false, false, false, false, false, false, false, false] ?h0 rfl (by kernel_rfl) ?q0 (Or.inl ⟨?w0, ?y0⟩) rfl ?r0
  case h0 => (simp only [List.getElem?_toArray, List.getElem?_cons_succ, List.getElem?_cons_zero]; rfl)
  case q0 => exact fun _ _ _ h => h
  case w0 => rfl
  case y0 => (intro W; go_simp; first | done | with_reducible rfl)
  simp only [Act.put, List.setIfInBounds_toArray, List.set_cons_zero, List.set_cons_succ]
  refine pure_ (i := 1) (oi := ?o1) (v := ?v1) #[true, true, false, false, false, false, false, false, false, false, false, false, false] ?h1 rfl (by kernel_rfl) ?q1 (Or.inl ⟨?w1, ?y1⟩) rfl ?r1
  case h1 => (simp only [List.getElem?_toArray, List.getElem?_cons_succ, List.getElem?_cons_zero]; rfl)
  case q1 => exact fun _ _ _ h => h
  case w1 => rfl
  case y1 => (intro W; go_simp; first | done | with_reducible rfl)
  simp only [Act.put, List.setIfInBounds_toArray, List.set_cons_zero, List.set_cons_succ]
  refine pure_ (i := 2) (oi := ?o2) (v := ?v2) #[true, true, true, false, false, false, false, false, false, false, false, false, false] ?h2 rfl (by kernel_rfl) ?q2 (Or.inl ⟨?w2, ?y2⟩) rfl ?r2
  case h2 => (simp only [List.getElem?_toArray, List.getElem?_cons_succ, List.getElem?_cons_zero]; rfl)
  case q2 => exact fun _ _ _ h => h
  case w2 => rfl
  case y2 => (intro W; go_simp; first | done | with_reducible rfl)
  simp only [Act.put, List.setIfInBounds_toArray, List.set_cons_zero, List.set_cons_succ]
  refine pure_ (i := 4) (oi := ?o3) (v := ?v3) #[true, true, true, false, true, false, false, false, false, false, false, false, false] ?h3 rfl (by kernel_rfl) ?q3 (Or.inl ⟨?w3, ?y3⟩) rfl ?r3
  case h3 => (simp only [List.getElem?_toArray, List.getElem?_cons_succ, List.getElem?_cons_zero]; rfl)
  case q3 => exact fun _ _ _ h => h
  case w3 => rfl
  case y3 => (intro W; go_simp; first | done | with_reducible rfl)
  simp only [Act.put, List.setIfInBounds_toArray, List.set_cons_zero, List.set_cons_succ]
  refine pure_ (i := 5) (oi := ?o4) (v := ?v4) #[true, true, true, false, true, true, false, false, false, false, false, false, false] ?h4 rfl (by kernel_rfl) ?q4 (Or.inl ⟨?w4, ?y4⟩) rfl ?r4
  case h4 => (simp only [List.getElem?_toArray, List.getElem?_cons_succ, List.getElem?_cons_zero]; rfl)
  case q4 => exact fun _ _ _ h => h
  case w4 => rfl
  case y4 => (intro W; go_simp; first | done | with_reducible rfl)
  simp only [Act.put, List.setIfInBounds_toArray, List.set_cons_zero, List.set_cons_succ]
  refine pure_ (i := 6) (oi := ?o5) (v := ?v5) #[true, true, true, false, true, true, true, false, false, false, false, false, false] ?h5 rfl (by kernel_rfl) ?q5 (Or.inl ⟨?w5, ?y5⟩) rfl ?r5
  case h5 => (simp only [List.getElem?_toArray, List.getElem?_cons_succ, List.getElem?_cons_zero]; rfl)
  case q5 => exact fun _ _ _ h => h
  case w5 => rfl
  case y5 => (intro W; go_simp; first | done | with_reducible rfl)
  simp only [Act.put, List.setIfInBounds_toArray, List.set_cons_zero, List.set_cons_succ]
  refine pure_ (i := 8) (oi := ?o6) (v := ?v6) #[true, true, true, false, true, true, true, false, true, false, false, false, false] ?h6 rfl (by kernel_rfl) ?q6 (Or.inl ⟨?w6, ?y6⟩) rfl ?r6
  case h6 => (simp only [List.getElem?_toArray, List.getElem?_cons_succ, List.getElem?_cons_zero]; rfl)
  case q6 => exact fun _ _ _ h => h
  case w6 => rfl
  case y6 => (intro W; go_simp; first | done | with_reducible rfl)
  simp only [Act.put, List.setIfInBounds_toArray, List.set_cons_zero, List.set_cons_succ]
  refine pure_ (i := 9) (oi := ?o7) (v := ?v7) #[true, true, true, false, true, true, true, false, true, true, false, false, false] ?h7 rfl (by kernel_rfl) ?q7 (Or.inl ⟨?w7, ?y7⟩) rfl ?r7
  case h7 => (simp only [List.getElem?_toArray, List.getElem?_cons_succ, List.getElem?_cons_zero]; rfl)
  case q7 => exact fun _ _ _ h => h
  case w7 => rfl
  case y7 => (intro W; go_simp; first | done | with_reducible rfl)
  simp only [Act.put, List.setIfInBounds_toArray, List.set_cons_zero, List.set_cons_succ]
  refine pure_ (i := 10) (oi := ?o8) (v := ?v8) #[true, true, true, false, true, true, true, false, true, true, true, false, false] ?h8 rfl (by kernel_rfl) ?q8 (Or.inl ⟨?w8, ?y8⟩) rfl ?r8
  case h8 => (simp only [List.getElem?_toArray, List.getElem?_cons_succ, List.getElem?_cons_zero]; rfl)
  case q8 => exact fun _ _ _ h => h
  case w8 => rfl
  case y8 => (intro W; go_simp; first | done | with_reducible rfl)
  simp only [Act.put, List.setIfInBounds_toArray, List.set_cons_zero, List.set_cons_succ]
  refine wpAnyLast_take (i := 3) (oi := ?o9) (v := ?v9) ?h9 (by kernel_rfl) (by kernel_rfl) (by kernel_rfl) (by kernel_rfl) (by kernel_rfl) ?q9 (Or.inl ⟨?w9, ?y9⟩) hHeld ?r9
  case h9 => (simp only [List.getElem?_toArray, List.getElem?_cons_succ, List.getElem?_cons_zero]; rfl)
  case q9 => exact fun _ _ _ h => h
  case w9 => rfl
  case y9 => (intro W hSw; have q5 := HK.out _ hSw; go_simp; first | done | with_reducible rfl)
  simp only [Act.put, List.setIfInBounds_toArray, List.set_cons_zero, List.set_cons_succ]
  refine wpAnyLast_take (i := 7) (oi := ?o10) (v := ?v10) ?h10 (by kernel_rfl) (by kernel_rfl) (by kernel_rfl) (by kernel_rfl) (by kernel_rfl) ?q10 (Or.inl ⟨?w10, ?y10⟩) hHeld ?r10
  case h10 => (simp only [List.getElem?_toArray, List.getElem?_cons_succ, List.getElem?_cons_zero]; rfl)
  case q10 => exact fun _ _ _ h => h
  case w10 => rfl
  case y10 => (intro W hSw; have q5 := HK.out _ hSw; go_simp; first | done | with_reducible rfl)
  simp only [Act.put, List.setIfInBounds_toArray, List.set_cons_zero, List.set_cons_succ]
  refine pure_ (i := 11) (oi := ?o11) (v := ?v11) #[true, true, true, true, true, true, true, true, true, true, true, true, false] ?h11 rfl (by kernel_rfl) ?q11 (Or.inl ⟨?w11, ?y11⟩) rfl ?r11
  case h11 => (simp only [List.getElem?_toArray, List.getElem?_cons_succ, List.getElem?_cons_zero]; rfl)
  case q11 => exact fun _ _ _ h => h
  case w11 => rfl
  case y11 => (intro W; go_simp; first | done | with_reducible rfl)
  simp only [Act.put, List.setIfInBounds_toArray, List.set_cons_zero, List.set_cons_succ]
  refine wpAnyLast_ready (rs := [12]) (by kernel_rfl) (by simp) ?_
  refine AllReadyL.cons (o := ?o12) ?h12 (by simp) (fun K hK => ?s12) ?m12
  case h12 => (simp only [List.getElem?_toArray, List.getElem?_cons_succ, List.getElem?_cons_zero]; rfl)
  case m12 => exact AllReadyL.nil
  have hcp := fun T => copy_run b 0 2 (c + 2) b 1 1 (c + 1) 1 ys (fun _ => 12297829382473034410) W1 74 T Tryz.underlying74 hbd (by decide) (fun j hj => by rw [show j = 0 by omega]; exact hy1) (by omega)
  go_simp
  refine hK.out _ _ (hHeld.row (.inr rfl) _) (fun hHeldN => ?_)
  clear hK K hHeldN hcp
  simp only [Act.put, List.setIfInBounds_toArray, List.set_cons_zero, List.set_cons_succ]
  refine done_ (by kernel_rfl) ?_
  obtain ⟨w2, hw2, hf2, hb2, ho2⟩ := after_copy hfd hbd hne (by omega) hHeld
  rw [← hw2]
  clear hw2 hHeld hbd hfd hy1
  have c0 : w2.cell? ⟨f, 0, none⟩ = some (.int .u32 53) := blk_cell hf2 0
  have c1 : w2.cell? ⟨f, 1, none⟩ = some (.int .u8 0) := blk_cell hf2 1
  have c2 : w2.cell? ⟨f, 2, none⟩ = some (.int .i8 0) := blk_cell hf2 2
  have c4 : w2.cell? ⟨f, 4, none⟩ = some (.bool false) := blk_cell hf2 4
  have c5 : w2.cell? ⟨f, 5, none⟩ = some (.slice (some ⟨b, 0, none⟩) 2 (c + 2)) := blk_cell hf2 5
  have f2 := blk_frozen hf2 2
  have f5 := blk_frozen hf2 5
  have x0 : w2.cell? ⟨b, 0, none⟩ = some (.int .u64 12297829382473034410) := by rw [hb2.cell _ (by rw [length_splice _ _ _ (by simp; omega)]; omega), splice_at _ _ _ _ (by simp; omega)]; rfl
  have g0 := blk_frozen hb2 0
  have HA := Lib.hid (fun b w => acc_calls b w)
  go_wp2_with fail
  refine (HA.out _ _).mono ?_
  rintro en w' ⟨rfl, rfl⟩
  go_wp2_with fail
  go_end0
  have h9 := blk_far (blk_set (blk_set hf2 5 (.slice (some ⟨b, 0, none⟩) 1 (c + 2))) 2 (.int .i8 (-1))) (p := ⟨b, 0, none⟩) hne (.int .u64 12297829382473033728)
  have hb9 := (show Blk ((w2.setCell ⟨f, 5, none⟩ (.slice (some ⟨b, 0, none⟩) 1 (c + 2))).setCell ⟨f, 2, none⟩ (.int .i8 (-1))) b _ from blk_far (blk_far hb2 (p := ⟨f, 5, none⟩) (Ne.symm hne) _) (p := ⟨f, 2, none⟩) (Ne.symm hne) _).set 0 12297829382473033728
  refine ⟨rfl, by simpa [fl] using h9, ⟨_, hb9, ?_, ?_⟩, ?_⟩
  · rw [List.length_set, length_splice _ _ _ (by simp; omega)]
  · simp [List.getD, length_splice ys 0 [12297829382473034410] (by simp; omega), show 0 < ys.length by omega]
  · have hs := (((Only.refl w2 (fun k => k = f ∨ k = b)).set (p := ⟨f, 5, none⟩) (.inr (.inl rfl)) (.slice (some ⟨b, 0, none⟩) 1 (c + 2))).set (p := ⟨f, 2, none⟩) (.inr (.inl rfl)) (.int .i8 (-1))).set (p := ⟨b, 0, none⟩) (.inr (.inr rfl)) (.int .u64 12297829382473033728)
    exact (HO1.out.trans (ho2.mono (fun _ _ h => .inr h))).trans hs
end Go.Proofs.YtflhdplfkpdejaaGreatFmt
namespace Go.Proofs.YtflhdplfkpdejaaGreatFmt
open Go.RowKit Go.Proofs.YtflhdplfkpdejaaGreatFmtW.PrintWords Go.Proofs.YtflhdplfkpdejaaGreatFmtW.PrintLast
set_option maxRecDepth 100000 in
set_option maxHeartbeats 4000000 in
theorem setExp_a (f b c : Nat) (ys : List Int) (a fm e0 ex : Int) (w : World) (hf : w.heap[f]? = some (.cells (fl 65 a fm false (.slice (some ⟨b, 0, none⟩) 2 c) e0) 110 (0, 0))) (hb : Blk w b ys) (hn : 2 ≤ ys.length) (h0 : ys.getD 0 0 = 9223372036854775808) (hx0 : -2147483648 ≤ ex) (hx1 : ex ≤ 2147483647) :
    Calls Tryz.prog 105 #[.pointer (some ⟨f, 0, none⟩), .int .i64 ex, .int .u64 0] w fun en w' => en = .returned (.tuple #[]) ∧ w'.heap[f]? = some (.cells (fl 65 0 1 false (.slice (some ⟨b, 0, none⟩) 2 c) ex) 110 (0, 0)) ∧ Blk w' b (ys.set 0 9223372036854775808) ∧ Only w w' (fun k => k = f ∨ k = b) := by
  have hw : IntKind.i32.wrap ex = ex := by rw [IntKind.wrap_i32]; omega
  have c3 : w.cell? ⟨f, 3, none⟩ = some (.int .u8 fm) := blk_cell hf 3
  have c6 : w.cell? ⟨f, 6, none⟩ = some (.int .i32 e0) := blk_cell hf 6
  have f3 := blk_frozen hf 3
  have f6 := blk_frozen hf 6
  have hne : f ≠ b := blk_ne hf hb (by decide)
  have hb1 : Blk ((w.setCell ⟨f, 3, none⟩ (.int .u8 1)).setCell ⟨f, 6, none⟩ (.int .i32 ex)) b ys := blk_far (blk_far hb (p := ⟨f, 3, none⟩) (Ne.symm hne) _) (p := ⟨f, 6, none⟩) (Ne.symm hne) _
  have hf1 : ((w.setCell ⟨f, 3, none⟩ (.int .u8 1)).setCell ⟨f, 6, none⟩ (.int .i32 ex)).heap[f]? = some (.cells (fl 65 a 1 false (.slice (some ⟨b, 0, none⟩) 2 c) ex) 110 (0, 0)) := by simpa [fl] using blk_set (blk_set hf 3 (.int .u8 1)) 6 (.int .i32 ex)
  have ho := ((Only.refl w (fun k => k = f ∨ k = b)).set (p := ⟨f, 3, none⟩) (.inr (.inl rfl)) (.int .u8 1)).set (p := ⟨f, 6, none⟩) (.inr (.inl rfl)) (.int .i32 ex)
  have HR := Lib.hid (round_a f b c ys a ex _ hf1 hb1 hn h0)
  have HO := Lib.hid ho
  clear hf hb hb1 hf1 ho
  go_enter Tryz.func105, Tryz.ntmps105
  go_wp2_with fail
  refine HR.out.mono ?_
  rintro en w' ⟨rfl, h1, h2, h3⟩
  go_wp2_with fail
  go_end0
  exact ⟨rfl, h1, h2, HO.out.trans h3⟩
theorem two_words' {w : World} {v : Value} {o : Option Nat} {x : Int} (lo hi : Int) (h : IsNat w v o x) (hx : x = lo + hi * 18446744073709551616) (hl : 0 ≤ lo ∧ lo < 18446744073709551616) (hh : 0 < hi ∧ hi < 18446744073709551616) : ∃ b ys, o = some b ∧ v = .slice (some ⟨b, 0, none⟩) 2 ys.length ∧ Blk w b ys ∧ 2 ≤ ys.length ∧ ys.getD 0 0 = lo ∧ ys.getD 1 0 = hi ∧ ys.length ≤ most := by
  rcases h.cases_ with ⟨h0, _⟩ | ⟨_, b, n, ys, rfl, rfl, hb, hn, hny, hym, hr, hxx⟩
  · omega
  · have a := hr.low hn
    have c := num_range n hr.1
    rw [hxx] at a c
    have e64 : (2 : Int) ^ 64 = 18446744073709551616 := by decide
    have h2 : (2 : Int) ^ 64 ≤ x := by rw [e64]; omega
    have h3 : x < 2 ^ 128 := by
      have e : (2 : Int) ^ 128 = 18446744073709551616 * 18446744073709551616 := by decide
      rw [e]
      have := Int.mul_le_mul_of_nonneg_right (show hi ≤ 18446744073709551615 by omega) (by decide : (0 : Int) ≤ 18446744073709551616)
      omega
    have h4 := pow_lt (Int.lt_of_le_of_lt a h3)
    have h5 := pow_lt (Int.lt_of_le_of_lt h2 c.2)
    obtain rfl : n = 2 := by omega
    have w0 : 0 ≤ ys.getD 0 0 ∧ ys.getD 0 0 < 18446744073709551616 := hr.1 0 (by omega)
    have w1 : 0 ≤ ys.getD 1 0 ∧ ys.getD 1 0 < 18446744073709551616 := hr.1 1 (by omega)
    have e : (2 : Int) ^ (64 * 1) = 18446744073709551616 := by decide
    have hxx : 0 + ys.getD 0 0 * 2 ^ (64 * 0) + ys.getD 1 0 * 2 ^ (64 * 1) = x := hxx
    rw [Nat.mul_zero, Int.pow_zero, e] at hxx
    refine ⟨b, ys, rfl, rfl, hb, hny, ?_, ?_, hym⟩ <;> omega
theorem after_set {w1 W : World} {f b : Nat} {zs : List Int} {p a fm e : Int} {n : Bool} (hf : W.heap[f]? = some (.cells (fl p a fm n (.slice none 0 0) e) 110 (0, 0))) (hb : Blk W b zs) (ho : Only w1 W (fun _ => False)) :
    ∃ w2, w2 = W.setCell ⟨f, 5, none⟩ (.slice (some ⟨b, 0, none⟩) 2 zs.length) ∧ w2.heap[f]? = some (.cells (fl p a fm n (.slice (some ⟨b, 0, none⟩) 2 zs.length) e) 110 (0, 0)) ∧ Blk w2 b zs ∧ Only w1 w2 (fun k => k = f) := by
  have hne : f ≠ b := blk_ne hf hb (by decide)
  refine ⟨_, rfl, by simpa [fl] using blk_set hf 5 (.slice (some ⟨b, 0, none⟩) 2 zs.length), blk_far hb (p := ⟨f, 5, none⟩) (Ne.symm hne) _, ?_⟩
  exact (ho.mono (T := fun k => k = f) (fun _ _ h => h.elim)).set (p := ⟨f, 5, none⟩) (.inr rfl) (.slice (some ⟨b, 0, none⟩) 2 zs.length)
set_option linter.unusedVariables false in
set_option linter.unusedSimpArgs false in
set_option maxRecDepth 100000 in
set_option maxHeartbeats 4000000 in
theorem setInt_lit (f gx : Nat) (ox : Option Nat) (w : World) (hf : w.heap[f]? = some (.cells (fl 0 0 0 false (.slice none 0 0) 0) 110 (0, 0))) (hx : IsInt w gx ox 24595658764946068821) :
    Calls Tryz.prog 72 #[.pointer (some ⟨f, 0, none⟩), .pointer (some ⟨gx, 0, none⟩)] w fun en w' => en = .returned (.pointer (some ⟨f, 0, none⟩)) ∧ ∃ b c ys, w'.heap[f]? = some (.cells (fl 65 0 1 false (.slice (some ⟨b, 0, none⟩) 2 c) 65) 110 (0, 0)) ∧ Blk w' b ys ∧ 2 ≤ ys.length ∧ ys.getD 0 0 = 9223372036854775808 ∧ ys.getD 1 0 = 12297829382473034410 ∧ Only w w' (fun k => k = f) ∧ w.heap.size ≤ b := by
  obtain ⟨vx, hgx, hnx⟩ := id hx
  rw [decide_eq_false (by omega)] at hgx
  obtain ⟨bx, xs, rfl, rfl, hbx, hxl, hx0, hx1, hxm⟩ := two_words' 6148914691236517205 1 hnx (by decide) (by decide) (by decide)
  have hB : Calls Tryz.prog 35 #[.pointer (some ⟨gx, 0, none⟩)] w fun e w' => e = .returned (.int .i64 65) ∧ w' = w := by
    refine (bitLen_int gx (some bx) 24595658764946068821 w hx (Fits.of (k := 65) (by decide +kernel) (by decide))).mono ?_
    rintro e w' ⟨⟨k, rfl, hk, _⟩, rfl⟩
    obtain rfl : k = 65 := hk.unique ⟨by decide +kernel, fun _ => by decide +kernel⟩
    exact ⟨rfl, rfl⟩
  have hW3 : ∀ n, IntKind.u32.wrap n = n % 4294967296 := IntKind.wrap_u32
  have hmx : max (65 : Int) 64 = 65 := by decide
  have c0 : w.cell? ⟨f, 0, none⟩ = some (.int .u32 0) := blk_cell hf 0
  have c2 : w.cell? ⟨f, 2, none⟩ = some (.int .i8 0) := blk_cell hf 2
  have c4 : w.cell? ⟨f, 4, none⟩ = some (.bool false) := blk_cell hf 4
  have f0 := blk_frozen hf 0
  have f2 := blk_frozen hf 2
  have f4 := blk_frozen hf 4
  have x0 : w.cell? ⟨gx, 0, none⟩ = some (.bool false) := blk_cell hgx 0
  have x1 : w.cell? ⟨gx, 1, none⟩ = some (.slice (some ⟨bx, 0, none⟩) 2 xs.length) := blk_cell hgx 1
  have hfx : f ≠ gx := blk_ne hf hgx (by decide)
  have hfb : f ≠ bx := blk_ne hf hbx (by decide)
  have hf1 : (((w.setCell ⟨f, 0, none⟩ (.int .u32 65)).setCell ⟨f, 2, none⟩ (.int .i8 0)).setCell ⟨f, 4, none⟩ (.bool false)).heap[f]? = some (.cells (fl 65 0 0 false (.slice none 0 0) 0) 110 (0, 0)) := by simpa [fl] using blk_set (blk_set (blk_set hf 0 (.int .u32 65)) 2 (.int .i8 0)) 4 (.bool false)
  have ho1 : Only w (((w.setCell ⟨f, 0, none⟩ (.int .u32 65)).setCell ⟨f, 2, none⟩ (.int .i8 0)).setCell ⟨f, 4, none⟩ (.bool false)) (fun k => k = f) := (((Only.refl w (fun k => k = f)).set (p := ⟨f, 0, none⟩) (.inr rfl) (.int .u32 65)).set (p := ⟨f, 2, none⟩) (.inr rfl) (.int .i8 0)).set (p := ⟨f, 4, none⟩) (.inr rfl) (.bool false)
  have HF1 := Lib.hid (And.intro hf1 ho1)
  have HB := Lib.hid hB
  have HX := Lib.hid (And.intro hgx hbx)
  clear hf hx hgx hnx hbx hB hf1 ho1
  go_enter Tryz.func72, Tryz.ntmps72
  go_wp2_with fail
  refine HB.out.mono ?_
  rintro e w' ⟨rfl, hww⟩
  rw [hww]
  clear hww w'
  go_wp2_with fail
  obtain ⟨hf1, ho1⟩ := HF1.out
  obtain ⟨hgx, hbx⟩ := HX.out
  have hgx1 := (ho1.kept _ (blk_lt hgx) (Ne.symm hfx)).trans hgx
  have hbx1 := ho1.blk hbx (Ne.symm hfb)
  clear HF1 HX HB hgx hbx c0 c2 c4 f0 f2 f4 x0 x1
  generalize ((w.setCell ⟨f, 0, none⟩ (.int .u32 65)).setCell ⟨f, 2, none⟩ (.int .i8 0)).setCell ⟨f, 4, none⟩ (.bool false) = w1 at *
  have HK : Hid (∀ W, Only w1 W (fun _ => False) → W.cell? ⟨f, 5, none⟩ = some (.slice none 0 0) ∧ W.cell? ⟨gx, 1, none⟩ = some (.slice (some ⟨bx, 0, none⟩) 2 xs.length)) := Lib.hid (fun W hW => by
    have a := (hW.kept _ (blk_lt hf1) (fun h => h)).trans hf1
    have b := (hW.kept _ (blk_lt hgx1) (fun h => h)).trans hgx1
    exact ⟨blk_cell a 5, blk_cell b 1⟩)
  have hfd := blk_drew hf1
  have hxd : Blk w1.drew bx xs := hbx1
  have HO1 := Lib.hid ho1
  clear hf1 hbx1 hgx1 ho1 hW3 hmx
  refine start_ (S := (fun W => Only w1 W (fun _ => False))) (ds := [12]) #[false, false, false, false, false, false, false, false, false, false, false, false, false] (by kernel_rfl) rfl rfl ?_ (fun hHeld => ?_)
  · exact (Only.refl w1 _).drew
  generalize w1.drew = W1 at *
  refine pure_ (i := 0) (oi := ?o0) (v := ?v0) #[true, false, false, false, false, false, false, false, false, false, false, false, false] ?h0 rfl (by kernel_rfl) ?q0 (Or.inl ⟨?w0, ?y0⟩) rfl ?r0
  case h0 => (simp only [List.getElem?_toArray, List.getElem?_cons_succ, List.getElem?_cons_zero]; rfl)
  case q0 => exact fun _ _ _ h => h
  case w0 => rfl
  case y0 => (intro W; go_simp; first | done | with_reducible rfl)
  simp only [Act.put, List.setIfInBounds_toArray, List.set_cons_zero, List.set_cons_succ]
  refine pure_ (i := 1) (oi := ?o1) (v := ?v1) #[true, true, false, false, false, false, false, false, false, false, false, false, false] ?h1 rfl (by kernel_rfl) ?q1 (Or.inl ⟨?w1, ?y1⟩) rfl ?r1
  case h1 => (simp only [List.getElem?_toArray, List.getElem?_cons_succ, List.getElem?_cons_zero]; rfl)
  case q1 => exact fun _ _ _ h => h
  case w1 => rfl
  case y1 => (intro W; go_simp; first | done | with_reducible rfl)
  simp only [Act.put, List.setIfInBounds_toArray, List.set_cons_zero, List.set_cons_succ]
  refine pure_ (i := 2) (oi := ?o2) (v := ?v2) #[true, true, true, false, false, false, false, false, false, false, false, false, false] ?h2 rfl (by kernel_rfl) ?q2 (Or.inl ⟨?w2, ?y2⟩) rfl ?r2
  case h2 => (simp only [List.getElem?_toArray, List.getElem?_cons_succ, List.getElem?_cons_zero]; rfl)
  case q2 => exact fun _ _ _ h => h
  case w2 => rfl
  case y2 => (intro W; go_simp; first | done | with_reducible rfl)
  simp only [Act.put, List.setIfInBounds_toArray, List.set_cons_zero, List.set_cons_succ]
  refine pure_ (i := 3) (oi := ?o3) (v := ?v3) #[true, true, true, true, false, false, false, false, false, false, false, false, false] ?h3 rfl (by kernel_rfl) ?q3 (Or.inl ⟨?w3, ?y3⟩) rfl ?r3
  case h3 => (simp only [List.getElem?_toArray, List.getElem?_cons_succ, List.getElem?_cons_zero]; rfl)
  case q3 => exact fun _ _ _ h => h
  case w3 => rfl
  case y3 => (intro W; go_simp; first | done | with_reducible rfl)
  simp only [Act.put, List.setIfInBounds_toArray, List.set_cons_zero, List.set_cons_succ]
  refine pure_ (i := 5) (oi := ?o4) (v := ?v4) #[true, true, true, true, false, true, false, false, false, false, false, false, false] ?h4 rfl (by kernel_rfl) ?q4 (Or.inl ⟨?w4, ?y4⟩) rfl ?r4
  case h4 => (simp only [List.getElem?_toArray, List.getElem?_cons_succ, List.getElem?_cons_zero]; rfl)
  case q4 => exact fun _ _ _ h => h
  case w4 => rfl
  case y4 => (intro W; go_simp; first | done | with_reducible rfl)
  simp only [Act.put, List.setIfInBounds_toArray, List.set_cons_zero, List.set_cons_succ]
  refine pure_ (i := 6) (oi := ?o5) (v := ?v5) #[true, true, true, true, false, true, true, false, false, false, false, false, false] ?h5 rfl (by kernel_rfl) ?q5 (Or.inl ⟨?w5, ?y5⟩) rfl ?r5
  case h5 => (simp only [List.getElem?_toArray, List.getElem?_cons_succ, List.getElem?_cons_zero]; rfl)
  case q5 => exact fun _ _ _ h => h
  case w5 => rfl
  case y5 => (intro W; go_simp; first | done | with_reducible rfl)
  simp only [Act.put, List.setIfInBounds_toArray, List.set_cons_zero, List.set_cons_succ]
  refine pure_ (i := 7) (oi := ?o6) (v := ?v6) #[true, true, true, true, false, true, true, true, false, false, false, false, false] ?h6 rfl (by kernel_rfl) ?q6 (Or.inl ⟨?w6, ?y6⟩) rfl ?r6
  case h6 => (simp only [List.getElem?_toArray, List.getElem?_cons_succ, List.getElem?_cons_zero]; rfl)
  case q6 => exact fun _ _ _ h => h
  case w6 => rfl
  case y6 => (intro W; go_simp; first | done | with_reducible rfl)
  simp only [Act.put, List.setIfInBounds_toArray, List.set_cons_zero, List.set_cons_succ]
  refine wpAnyLast_take (i := 4) (oi := ?o7) (v := ?v7) ?h7 (by kernel_rfl) (by kernel_rfl) (by kernel_rfl) (by kernel_rfl) (by kernel_rfl) ?q7 (Or.inl ⟨?w7, ?y7⟩) hHeld ?r7
  case h7 => (simp only [List.getElem?_toArray, List.getElem?_cons_succ, List.getElem?_cons_zero]; rfl)
  case q7 => exact fun _ _ _ h => h
  case w7 => rfl
  case y7 => (intro W hSw; obtain ⟨q5, q6⟩ := HK.out _ hSw; go_simp; first | done | with_reducible rfl)
  simp only [Act.put, List.setIfInBounds_toArray, List.set_cons_zero, List.set_cons_succ]
  refine wpAnyLast_take (i := 8) (oi := ?o8) (v := ?v8) ?h8 (by kernel_rfl) (by kernel_rfl) (by kernel_rfl) (by kernel_rfl) (by kernel_rfl) ?q8 (Or.inl ⟨?w8, ?y8⟩) hHeld ?r8
  case h8 => (simp only [List.getElem?_toArray, List.getElem?_cons_succ, List.getElem?_cons_zero]; rfl)
  case q8 => exact fun _ _ _ h => h
  case w8 => rfl
  case y8 => (intro W hSw; obtain ⟨q5, q6⟩ := HK.out _ hSw; go_simp; first | done | with_reducible rfl)
  simp only [Act.put, List.setIfInBounds_toArray, List.set_cons_zero, List.set_cons_succ]
  refine wpAnyLast_ready (rs := [9]) (by kernel_rfl) (by simp) ?_
  refine AllReadyL.cons (o := ?o9) ?h9 (by simp) (fun K hK => ?s9) ?m9
  case h9 => (simp only [List.getElem?_toArray, List.getElem?_cons_succ, List.getElem?_cons_zero]; rfl)
  case m9 => exact AllReadyL.nil
  go_simp
  go_at_call 87
  refine (set_any (.slice none 0 0) none bx 2 xs.length xs W1 .nil hxd (by decide) hxl (by decide)).mono ?_
  rintro en W2 ⟨b, zs, rfl, hz, hzl, hzm, ho, hob, hzi⟩
  replace ho : Only W1 W2 (fun _ => False) := ho.mono (fun _ _ h => by cases h)
  replace hob : W1.heap.size ≤ b := by rcases hob with h | h; (cases h); (exact h)
  have hfN := (ho.kept _ (blk_lt hfd) (fun h => h)).trans hfd
  have hsz := hHeld.base.size
  refine hK.out _ _ (hHeld.trans ho) (fun hHeldN => ?_)
  clear hK K hHeld
  have hHeld := hHeldN
  clear hHeldN
  simp only [Act.put, List.setIfInBounds_toArray, List.set_cons_zero, List.set_cons_succ]
  refine pure_ (i := 10) (oi := ?o10) (v := ?v10) #[true, true, true, true, true, true, true, true, true, true, true, false, false] ?h10 rfl (by kernel_rfl) ?q10 (Or.inl ⟨?w10, ?y10⟩) rfl ?r10
  case h10 => (simp only [List.getElem?_toArray, List.getElem?_cons_succ, List.getElem?_cons_zero]; rfl)
  case q10 => exact fun _ _ _ h => h
  case w10 => rfl
  case y10 => (intro W; go_simp; first | done | with_reducible rfl)
  simp only [Act.put, List.setIfInBounds_toArray, List.set_cons_zero, List.set_cons_succ]
  refine pure_ (i := 11) (oi := ?o11) (v := ?v11) #[true, true, true, true, true, true, true, true, true, true, true, true, false] ?h11 rfl (by kernel_rfl) ?q11 (Or.inl ⟨?w11, ?y11⟩) rfl ?r11
  case h11 => (simp only [List.getElem?_toArray, List.getElem?_cons_succ, List.getElem?_cons_zero]; rfl)
  case q11 => exact fun _ _ _ h => h
  case w11 => rfl
  case y11 => (intro W; go_simp; first | done | with_reducible rfl)
  simp only [Act.put, List.setIfInBounds_toArray, List.set_cons_zero, List.set_cons_succ]
  refine wpAnyLast_ready (rs := [12]) (by kernel_rfl) (by simp) ?_
  refine AllReadyL.cons_last (o := ?o12) ?h12 (by simp) (fun K hK => ?s12) ?m12
  case h12 => (simp only [List.getElem?_toArray, List.getElem?_cons_succ, List.getElem?_cons_zero]; rfl)
  case m12 => exact AllReadyL.nil
  have r5 : W2.cell? ⟨f, 5, none⟩ = some (.slice none 0 0) := blk_cell hfN 5
  have fr5 := blk_frozen hfN 5
  go_simp
  refine hK.out _ _ ?_
  clear hK K r5 fr5
  simp only [Act.put, List.setIfInBounds_toArray, List.set_cons_zero, List.set_cons_succ]
  refine done_ (by kernel_rfl) ?_
  obtain ⟨w2, hw2, hf2, hb2, ho2⟩ := after_set (f := f) hfN hz hHeld
  rw [← hw2]
  have hbz : w1.heap.size ≤ b := Nat.le_trans hsz hob
  clear hw2 hHeld hfN hz hfd hxd ho hob hsz HK
  have z0 : zs.getD 0 0 = 6148914691236517205 := by rw [hzi 0 (by omega)]; exact hx0
  have z1 : zs.getD 1 0 = 1 := by rw [hzi 1 (by omega)]; exact hx1
  have c5 : w2.cell? ⟨f, 5, none⟩ = some (.slice (some ⟨b, 0, none⟩) 2 zs.length) := blk_cell hf2 5
  have hzt : zs.length < 1099511627776 := Nat.lt_of_le_of_lt hzm (by decide)
  have hne : f ≠ b := blk_ne hf2 hb2 (by decide)
  clear hzi hx0 hx1
  go_wp2_with fail
  refine (fnorm_lit b zs.length zs w2 hb2 hzl hzt z0 z1).mono ?_
  rintro en w3 ⟨ys, rfl, hb3, hyl, y0, y1, ho3⟩
  have hf3 := (ho3.kept _ (blk_lt hf2) hne).trans hf2
  clear hf2 hb2 c5
  go_wp2_with fail
  refine (setExp_a f b zs.length ys 0 0 0 65 w3 hf3 hb3 (by omega) y0 (by decide) (by decide)).mono ?_
  rintro en w4 ⟨rfl, hf4, hb4, ho4⟩
  go_wp2_with fail
  go_ret
  have ho13 : Only w1 w4 (fun k => k = f) := (ho2.step ho3 (fun i hi h => by subst h; exact absurd hi (Nat.not_lt.2 hbz))).step ho4 (fun i hi h => by rcases h with h | h; (exact h); (subst h; exact absurd hi (Nat.not_lt.2 hbz)))
  refine ⟨rfl, b, zs.length, _, hf4, hb4, by rw [List.length_set]; omega, ?_, ?_, HO1.out.trans ho13, Nat.le_trans HO1.out.base.size hbz⟩
  · simp [List.getD, show 0 < ys.length by omega]
  · simpa [List.getD, show 1 < ys.length by omega] using y1
end Go.Proofs.YtflhdplfkpdejaaGreatFmt
namespace Go.Proofs.YtflhdplfkpdejaaGreatFmt
open Go.RowKit Go.Proofs.YtflhdplfkpdejaaGreatFmtW.PrintWords Go.Proofs.YtflhdplfkpdejaaGreatFmtW.PrintLast
theorem flt_info : ∃ j, Tryz.prog.info? 110 = some j ∧ j.size ≠ 0 := by
  have h : (Tryz.prog.info? 110).map (fun i => i.size) = some 7 := by kernel_rfl
  obtain ⟨j, hj, h2⟩ := Option.map_eq_some_iff.1 h
  exact ⟨j, hj, by rw [h2]; decide⟩
theorem flt_other (a b : Nat) (ca cb : Array Value) (w : World) (hne : a ≠ b) (ha : w.heap[a]? = some (.cells ca 110 (0, 0))) (hb : w.heap[b]? = some (.cells cb 110 (0, 0))) :
    (binOp .neq 103 (.pointer (some ⟨a, 0, none⟩)) (.pointer (some ⟨b, 0, none⟩))).run Tryz.prog w = .ok (.bool true) w := by
  obtain ⟨j, hj, hs⟩ := flt_info
  have hn : (⟨a, 0, none⟩ : Addr) ≠ ⟨b, 0, none⟩ := fun h => hne (congrArg Addr.block h)
  have h : ∀ d : Nat, (Op.equalIn (d + 1) 103 (.pointer (some ⟨a, 0, none⟩)) (.pointer (some ⟨b, 0, none⟩))).run Tryz.prog w = .ok false w := fun d => by
    simp [Op.equalIn, run_underlying Tryz.underlying103, sizeOf, typeInfo, hj, hs, run_sameAddr_other w hn ha hb]
  simp only [binOp]
  simp [Op.equal, Op.maxDepth, h 9999]
theorem flt_same (a : Nat) (w : World) :
    (binOp .neq 103 (.pointer (some ⟨a, 0, none⟩)) (.pointer (some ⟨a, 0, none⟩))).run Tryz.prog w = .ok (.bool false) w := by
  obtain ⟨j, hj, hs⟩ := flt_info
  exact Lib.run_neq_ptr_same w _ Tryz.underlying103 hj
set_option maxRecDepth 100000 in
set_option maxHeartbeats 4000000 in
theorem copy_self (f : Nat) (w : World) : Calls Tryz.prog 107 #[.pointer (some ⟨f, 0, none⟩), .pointer (some ⟨f, 0, none⟩)] w fun en w' => en = .returned (.pointer (some ⟨f, 0, none⟩)) ∧ w' = w := by
  have hs := flt_same f w
  go_enter Tryz.func107, Tryz.ntmps107
  go_wp2_with fail
  go_ret
  exact ⟨rfl, rfl⟩
set_option maxRecDepth 100000 in
set_option maxHeartbeats 4000000 in
theorem setMantExp_lit (f b c : Nat) (ys : List Int) (w : World) (hf : w.heap[f]? = some (.cells (fl 65 0 1 false (.slice (some ⟨b, 0, none⟩) 2 c) 65) 110 (0, 0))) (hb : Blk w b ys) (hn : 2 ≤ ys.length) (h0 : ys.getD 0 0 = 9223372036854775808) :
    Calls Tryz.prog 73 #[.pointer (some ⟨f, 0, none⟩), .pointer (some ⟨f, 0, none⟩), .int .i64 (-66)] w fun en w' => en = .returned (.pointer (some ⟨f, 0, none⟩)) ∧ w'.heap[f]? = some (.cells (fl 65 0 1 false (.slice (some ⟨b, 0, none⟩) 2 c) (-1)) 110 (0, 0)) ∧ Blk w' b (ys.set 0 9223372036854775808) ∧ Only w w' (fun k => k = f ∨ k = b) := by
  have c3 : w.cell? ⟨f, 3, none⟩ = some (.int .u8 1) := blk_cell hf 3
  have c6 : w.cell? ⟨f, 6, none⟩ = some (.int .i32 65) := blk_cell hf 6
  have HC := Lib.hid (copy_self f w)
  have HS := Lib.hid (setExp_a f b c ys 0 1 65 (-1) w hf hb hn h0 (by decide) (by decide))
  clear hf hb
  go_enter Tryz.func73, Tryz.ntmps73
  go_wp2_with fail
  refine HC.out.mono ?_
  rintro en w' ⟨rfl, hw⟩
  rw [hw]
  clear hw w'
  go_wp2_with fail
  refine HS.out.mono ?_
  rintro en w' ⟨rfl, h1, h2, h3⟩
  go_wp2_with fail
  go_ret
  exact ⟨rfl, h1, h2, h3⟩
set_option linter.unusedVariables false in
set_option linter.unusedSimpArgs false in
set_option maxRecDepth 100000 in
set_option maxHeartbeats 4000000 in
theorem set_lit (f g bx cx : Nat) (xs : List Int) (w : World) (hf : w.heap[f]? = some (.cells (fl 53 0 0 false (.slice none 0 0) 0) 110 (0, 0))) (hx : w.heap[g]? = some (.cells (fl 65 0 1 false (.slice (some ⟨bx, 0, none⟩) 2 cx) (-1)) 110 (0, 0))) (hbx : Blk w bx xs) (hxl : 2 ≤ xs.length) (hx0 : xs.getD 0 0 = 9223372036854775808) (hx1 : xs.getD 1 0 = 12297829382473034410) (hfx : f ≠ g) :
    Calls Tryz.prog 109 #[.pointer (some ⟨f, 0, none⟩), .pointer (some ⟨g, 0, none⟩)] w fun en w' => en = .returned (.pointer (some ⟨f, 0, none⟩)) ∧ ∃ b c zs, w'.heap[f]? = some (.cells (fl 53 (-1) 1 false (.slice (some ⟨b, 0, none⟩) 1 c) (-1)) 110 (0, 0)) ∧ Blk w' b zs ∧ 1 ≤ zs.length ∧ zs.getD 0 0 = 12297829382473033728 ∧ Only w w' (fun k => k = f) ∧ w.heap.size ≤ b := by
  have c2 : w.cell? ⟨f, 2, none⟩ = some (.int .i8 0) := blk_cell hf 2
  have c3 : w.cell? ⟨f, 3, none⟩ = some (.int .u8 0) := blk_cell hf 3
  have c4 : w.cell? ⟨f, 4, none⟩ = some (.bool false) := blk_cell hf 4
  have c6 : w.cell? ⟨f, 6, none⟩ = some (.int .i32 0) := blk_cell hf 6
  have f2 := blk_frozen hf 2
  have f3 := blk_frozen hf 3
  have f4 := blk_frozen hf 4
  have f6 := blk_frozen hf 6
  have x3 : w.cell? ⟨g, 3, none⟩ = some (.int .u8 1) := blk_cell hx 3
  have x4 : w.cell? ⟨g, 4, none⟩ = some (.bool false) := blk_cell hx 4
  have x6 : w.cell? ⟨g, 6, none⟩ = some (.int .i32 (-1)) := blk_cell hx 6
  have hfb : f ≠ bx := blk_ne hf hbx (by decide)
  have hpn := flt_other f g _ _ (w.setCell ⟨f, 2, none⟩ (.int .i8 0)) hfx (blk_set hf 2 (.int .i8 0)) (blk_far hx (p := ⟨f, 2, none⟩) (Ne.symm hfx) _)
  obtain ⟨w1, hw1, hf1, ho1⟩ : ∃ w1, w1 = (((w.setCell ⟨f, 2, none⟩ (.int .i8 0)).setCell ⟨f, 3, none⟩ (.int .u8 1)).setCell ⟨f, 4, none⟩ (.bool false)).setCell ⟨f, 6, none⟩ (.int .i32 (-1)) ∧ w1.heap[f]? = some (.cells (fl 53 0 1 false (.slice none 0 0) (-1)) 110 (0, 0)) ∧ Only w w1 (fun k => k = f) :=
    ⟨_, rfl, by simpa [fl] using blk_set (blk_set (blk_set (blk_set hf 2 (.int .i8 0)) 3 (.int .u8 1)) 4 (.bool false)) 6 (.int .i32 (-1)), ((((Only.refl w (fun k => k = f)).set (p := ⟨f, 2, none⟩) (.inr rfl) (.int .i8 0)).set (p := ⟨f, 3, none⟩) (.inr rfl) (.int .u8 1)).set (p := ⟨f, 4, none⟩) (.inr rfl) (.bool false)).set (p := ⟨f, 6, none⟩) (.inr rfl) (.int .i32 (-1))⟩
  have HW := Lib.hid hw1
  have hx1w := (ho1.kept _ (blk_lt hx) (Ne.symm hfx)).trans hx
  have hbx1 := ho1.blk hbx (Ne.symm hfb)
  have HF1 := Lib.hid (And.intro hf1 (And.intro ho1 (And.intro hx1w hbx1)))
  clear hf hx hbx hw1 hf1 ho1 hx1w hbx1
  go_enter Tryz.func109, Tryz.ntmps109
  go_upto_region 8 with (fail)
  rw [← HW.out]
  obtain ⟨hf1, ho1, hx1w, hbx1⟩ := HF1.out
  clear HF1 HW c2 c3 c4 c6 f2 f3 f4 f6 x3 x4 x6
  have HK : Hid (∀ W, Only w1 W (fun _ => False) → W.cell? ⟨f, 5, none⟩ = some (.slice none 0 0) ∧ W.cell? ⟨g, 5, none⟩ = some (.slice (some ⟨bx, 0, none⟩) 2 cx)) := Lib.hid (fun W hW => by
    have a := (hW.kept _ (blk_lt hf1) (fun h => h)).trans hf1
    have b := (hW.kept _ (blk_lt hx1w) (fun h => h)).trans hx1w
    exact ⟨blk_cell a 5, blk_cell b 5⟩)
  have hfd := blk_drew hf1
  have hxd : Blk w1.drew bx xs := hbx1
  have HO1 := Lib.hid ho1
  clear hf1 hbx1 ho1
  refine start_ (S := (fun W => Only w1 W (fun _ => False))) (ds := [12]) #[false, false, false, false, false, false, false, false, false, false, false, false, false] (by kernel_rfl) rfl rfl ?_ (fun hHeld => ?_)
  · exact (Only.refl w1 _).drew
  generalize w1.drew = W1 at *
  refine pure_ (i := 0) (oi := ?o0) (v := ?v0) #[true, false, false, false, false, false, false, false, false, false, false, false, false] ?h0 rfl (by kernel_rfl) ?q0 (Or.inl ⟨?w0, ?y0⟩) rfl ?r0
  case h0 => (simp only [List.getElem?_toArray, List.getElem?_cons_succ, List.getElem?_cons_zero]; rfl)
  case q0 => exact fun _ _ _ h => h
  case w0 => rfl
  case y0 => (intro W; go_simp; first | done | with_reducible rfl)
  simp only [Act.put, List.setIfInBounds_toArray, List.set_cons_zero, List.set_cons_succ]
  refine pure_ (i := 1) (oi := ?o1) (v := ?v1) #[true, true, false, false, false, false, false, false, false, false, false, false, false] ?h1 rfl (by kernel_rfl) ?q1 (Or.inl ⟨?w1, ?y1⟩) rfl ?r1
  case h1 => (simp only [List.getElem?_toArray, List.getElem?_cons_succ, List.getElem?_cons_zero]; rfl)
  case q1 => exact fun _ _ _ h => h
  case w1 => rfl
  case y1 => (intro W; go_simp; first | done | with_reducible rfl)
  simp only [Act.put, List.setIfInBounds_toArray, List.set_cons_zero, List.set_cons_succ]
  refine pure_ (i := 2) (oi := ?o2) (v := ?v2) #[true, true, true, false, false, false, false, false, false, false, false, false, false] ?h2 rfl (by kernel_rfl) ?q2 (Or.inl ⟨?w2, ?y2⟩) rfl ?r2
  case h2 => (simp only [List.getElem?_toArray, List.getElem?_cons_succ, List.getElem?_cons_zero]; rfl)
  case q2 => exact fun _ _ _ h => h
  case w2 => rfl
  case y2 => (intro W; go_simp; first | done | with_reducible rfl)
  simp only [Act.put, List.setIfInBounds_toArray, List.set_cons_zero, List.set_cons_succ]
  refine pure_ (i := 3) (oi := ?o3) (v := ?v3) #[true, true, true, true, false, false, false, false, false, false, false, false, false] ?h3 rfl (by kernel_rfl) ?q3 (Or.inl ⟨?w3, ?y3⟩) rfl ?r3
  case h3 => (simp only [List.getElem?_toArray, List.getElem?_cons_succ, List.getElem?_cons_zero]; rfl)
  case q3 => exact fun _ _ _ h => h
  case w3 => rfl
  case y3 => (intro W; go_simp; first | done | with_reducible rfl)
  simp only [Act.put, List.setIfInBounds_toArray, List.set_cons_zero, List.set_cons_succ]
  refine pure_ (i := 5) (oi := ?o4) (v := ?v4) #[true, true, true, true, false, true, false, false, false, false, false, false, false] ?h4 rfl (by kernel_rfl) ?q4 (Or.inl ⟨?w4, ?y4⟩) rfl ?r4
  case h4 => (simp only [List.getElem?_toArray, List.getElem?_cons_succ, List.getElem?_cons_zero]; rfl)
  case q4 => exact fun _ _ _ h => h
  case w4 => rfl
  case y4 => (intro W; go_simp; first | done | with_reducible rfl)
  simp only [Act.put, List.setIfInBounds_toArray, List.set_cons_zero, List.set_cons_succ]
  refine pure_ (i := 6) (oi := ?o5) (v := ?v5) #[true, true, true, true, false, true, true, false, false, false, false, false, false] ?h5 rfl (by kernel_rfl) ?q5 (Or.inl ⟨?w5, ?y5⟩) rfl ?r5
  case h5 => (simp only [List.getElem?_toArray, List.getElem?_cons_succ, List.getElem?_cons_zero]; rfl)
  case q5 => exact fun _ _ _ h => h
  case w5 => rfl
  case y5 => (intro W; go_simp; first | done | with_reducible rfl)
  simp only [Act.put, List.setIfInBounds_toArray, List.set_cons_zero, List.set_cons_succ]
  refine pure_ (i := 7) (oi := ?o6) (v := ?v6) #[true, true, true, true, false, true, true, true, false, false, false, false, false] ?h6 rfl (by kernel_rfl) ?q6 (Or.inl ⟨?w6, ?y6⟩) rfl ?r6
  case h6 => (simp only [List.getElem?_toArray, List.getElem?_cons_succ, List.getElem?_cons_zero]; rfl)
  case q6 => exact fun _ _ _ h => h
  case w6 => rfl
  case y6 => (intro W; go_simp; first | done | with_reducible rfl)
  simp only [Act.put, List.setIfInBounds_toArray, List.set_cons_zero, List.set_cons_succ]
  refine wpAnyLast_take (i := 4) (oi := ?o7) (v := ?v7) ?h7 (by kernel_rfl) (by kernel_rfl) (by kernel_rfl) (by kernel_rfl) (by kernel_rfl) ?q7 (Or.inl ⟨?w7, ?y7⟩) hHeld ?r7
  case h7 => (simp only [List.getElem?_toArray, List.getElem?_cons_succ, List.getElem?_cons_zero]; rfl)
  case q7 => exact fun _ _ _ h => h
  case w7 => rfl
  case y7 => (intro W hSw; obtain ⟨q5, q6⟩ := HK.out _ hSw; go_simp; first | done | with_reducible rfl)
  simp only [Act.put, List.setIfInBounds_toArray, List.set_cons_zero, List.set_cons_succ]
  refine wpAnyLast_take (i := 8) (oi := ?o8) (v := ?v8) ?h8 (by kernel_rfl) (by kernel_rfl) (by kernel_rfl) (by kernel_rfl) (by kernel_rfl) ?q8 (Or.inl ⟨?w8, ?y8⟩) hHeld ?r8
  case h8 => (simp only [List.getElem?_toArray, List.getElem?_cons_succ, List.getElem?_cons_zero]; rfl)
  case q8 => exact fun _ _ _ h => h
  case w8 => rfl
  case y8 => (intro W hSw; obtain ⟨q5, q6⟩ := HK.out _ hSw; go_simp; first | done | with_reducible rfl)
  simp only [Act.put, List.setIfInBounds_toArray, List.set_cons_zero, List.set_cons_succ]
  refine wpAnyLast_ready (rs := [9]) (by kernel_rfl) (by simp) ?_
  refine AllReadyL.cons (o := ?o9) ?h9 (by simp) (fun K hK => ?s9) ?m9
  case h9 => (simp only [List.getElem?_toArray, List.getElem?_cons_succ, List.getElem?_cons_zero]; rfl)
  case m9 => exact AllReadyL.nil
  go_simp
  go_at_call 87
  refine (set_any (.slice none 0 0) none bx 2 cx xs W1 .nil hxd (by decide) hxl (by decide)).mono ?_
  rintro en W2 ⟨b, zs, rfl, hz, hzl, hzm, ho, hob, hzi⟩
  replace ho : Only W1 W2 (fun _ => False) := ho.mono (fun _ _ h => by cases h)
  replace hob : W1.heap.size ≤ b := by rcases hob with h | h; (cases h); (exact h)
  have hfN := (ho.kept _ (blk_lt hfd) (fun h => h)).trans hfd
  have hsz := hHeld.base.size
  refine hK.out _ _ (hHeld.trans ho) (fun hHeldN => ?_)
  clear hK K hHeld
  have hHeld := hHeldN
  clear hHeldN
  simp only [Act.put, List.setIfInBounds_toArray, List.set_cons_zero, List.set_cons_succ]
  refine pure_ (i := 10) (oi := ?o10) (v := ?v10) #[true, true, true, true, true, true, true, true, true, true, true, false, false] ?h10 rfl (by kernel_rfl) ?q10 (Or.inl ⟨?w10, ?y10⟩) rfl ?r10
  case h10 => (simp only [List.getElem?_toArray, List.getElem?_cons_succ, List.getElem?_cons_zero]; rfl)
  case q10 => exact fun _ _ _ h => h
  case w10 => rfl
  case y10 => (intro W; go_simp; first | done | with_reducible rfl)
  simp only [Act.put, List.setIfInBounds_toArray, List.set_cons_zero, List.set_cons_succ]
  refine pure_ (i := 11) (oi := ?o11) (v := ?v11) #[true, true, true, true, true, true, true, true, true, true, true, true, false] ?h11 rfl (by kernel_rfl) ?q11 (Or.inl ⟨?w11, ?y11⟩) rfl ?r11
  case h11 => (simp only [List.getElem?_toArray, List.getElem?_cons_succ, List.getElem?_cons_zero]; rfl)
  case q11 => exact fun _ _ _ h => h
  case w11 => rfl
  case y11 => (intro W; go_simp; first | done | with_reducible rfl)
  simp only [Act.put, List.setIfInBounds_toArray, List.set_cons_zero, List.set_cons_succ]
  refine wpAnyLast_ready (rs := [12]) (by kernel_rfl) (by simp) ?_
  refine AllReadyL.cons_last (o := ?o12) ?h12 (by simp) (fun K hK => ?s12) ?m12
  case h12 => (simp only [List.getElem?_toArray, List.getElem?_cons_succ, List.getElem?_cons_zero]; rfl)
  case m12 => exact AllReadyL.nil
  have r5 : W2.cell? ⟨f, 5, none⟩ = some (.slice none 0 0) := blk_cell hfN 5
  have fr5 := blk_frozen hfN 5
  go_simp
  refine hK.out _ _ ?_
  clear hK K r5 fr5
  simp only [Act.put, List.setIfInBounds_toArray, List.set_cons_zero, List.set_cons_succ]
  refine done_ (by kernel_rfl) ?_
  obtain ⟨w2, hw2, hf2, hb2, ho2⟩ := after_set (f := f) hfN hz hHeld
  rw [← hw2]
  have hbz : w1.heap.size ≤ b := Nat.le_trans hsz hob
  clear hw2 hHeld hfN hz hfd hxd ho hob hsz HK
  have z0 : zs.getD 0 0 = 9223372036854775808 := by rw [hzi 0 (by omega)]; exact hx0
  have z1 : zs.getD 1 0 = 12297829382473034410 := by rw [hzi 1 (by omega)]; exact hx1
  obtain ⟨c, hc⟩ : ∃ c, zs.length = c + 2 := ⟨zs.length - 2, by omega⟩
  rw [hc] at hf2
  have hn2 := fun n => (Only.refl w2 (fun _ => False)).drewN n
  have HR := Lib.hid (fun n => round_b f b c zs 0 (-1) (w2.drewN n) (((hn2 n).kept _ (blk_lt hf2) (fun h => h)).trans hf2) ((hn2 n).blk hb2 (fun h => h)) hzl z0 z1)
  have HN := Lib.hid hn2
  clear hn2
  have p0 : w2.cell? ⟨f, 0, none⟩ = some (.int .u32 53) := blk_cell hf2 0
  have hx9 := (ho2.kept _ (blk_lt hx1w) (Ne.symm hfx)).trans hx1w
  have q0 : w2.cell? ⟨g, 0, none⟩ = some (.int .u32 65) := blk_cell hx9 0
  clear hzi hx0 hx1 z0 z1 hc hf2 hb2 hx9 hx1w
  go_wp2_with fail
  go_quiet (fail)
  go_wp2_with fail
  refine (HR.out nq).mono ?_
  rintro en w3 ⟨rfl, hf3, ⟨ys, hb3, hl3, y0⟩, ho3⟩
  go_wp2_with fail
  go_ret
  have ho23 := (ho2.step (HN.out nq) (fun _ _ h => h.elim)).step ho3 (fun i hi h => by rcases h with h | h; (exact h); (subst h; exact absurd hi (Nat.not_lt.2 hbz)))
  exact ⟨rfl, b, c + 2, ys, hf3, hb3, by omega, y0, HO1.out.trans ho23, Nat.le_trans HO1.out.base.size hbz⟩
end Go.Proofs.YtflhdplfkpdejaaGreatFmt
