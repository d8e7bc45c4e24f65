/- Part 11 of the walk of ExactOnes: NatS NatT NatP NatQ FBigNatCmp IntG. -/
import Derived.Test.YtflhdplfkpdejaaGreatFmtPart10
import Derived.Test.YtflhdplfkpdejaaGreatFmtPart04
import Derived.Test.YtflhdplfkpdejaaGreatFmtPart05
import Derived.Deep.QuietTactic
import Derived.BigQuiet
import Derived.Test.YtflhdplfkpdejaaGreatFmtPart07
namespace Go.Proofs.YtflhdplfkpdejaaGreatFmt
open Go.RowKit Go.Proofs.YtflhdplfkpdejaaGreatFmtW.PrintWords
set_option maxRecDepth 100000 in
set_option maxHeartbeats 4000000 in
theorem lz_any (x : Int) (w : World) (h0 : 0 ≤ x) (h1 : x ≤ 18446744073709551615) :
    Calls Tryz.prog 154 #[.int .u64 x] w fun e w' => e = .returned (.int .i64 (64 - (Lib.bitLen x.toNat : Int))) ∧ w' = w := by
  have hb : Lib.bitLen x.toNat ≤ 64 := bitLen_top 64 _ (Nat.le_refl _) (by omega)
  go_enter Tryz.func154, Tryz.ntmps154
  go_wp2_with (go_at_call 84; refine (len_any x _ h0 h1).mono ?_; rintro e w' ⟨rfl, rfl⟩)
  go_ret
  exact ⟨rfl, rfl⟩
set_option maxRecDepth 100000 in
set_option maxHeartbeats 4000000 in
theorem nlz_lit (x k : Int) (w : World) (h0 : 0 ≤ x) (h1 : x ≤ 18446744073709551615) (hk : 64 - (Lib.bitLen x.toNat : Int) = k) (hk0 : 0 ≤ k) :
    Calls Tryz.prog 130 #[.int .u64 x] w fun e w' => e = .returned (.int .u64 k) ∧ w' = w := by
  have e1 : IntKind.u64.wrap k = k := by rw [IntKind.wrap_u64]; omega
  have hW := Lib.hid hk
  go_enter Tryz.func130, Tryz.ntmps130
  go_wp2_with (go_at_call 154; refine (lz_any x _ h0 h1).mono ?_; rintro e w' ⟨rfl, rfl⟩; rw [hW.out])
  go_ret
  exact ⟨rfl, rfl⟩
theorem mul_lit (x y : Nat) (h l : Int) (hx : x < 18446744073709551616) (hy : y < 18446744073709551616) (h1 : ((x * y / 18446744073709551616 : Nat) : Int) = h) (h2 : ((x * y % 18446744073709551616 : Nat) : Int) = l) (w : World) :
    Calls Tryz.prog 168 #[.int .u64 x, .int .u64 y] w fun e w' => e = .returned (.tuple #[.int .u64 h, .int .u64 l]) ∧ w' = w := by
  subst h1 h2
  exact mul_any x y hx hy w
theorem add_lit (x y c s d : Int) (w : World) (hx : 0 ≤ x ∧ 0 ≤ y ∧ 0 ≤ c ∧ c ≤ 1) (h1 : (x + y + c) % 18446744073709551616 = s) (h2 : (x + y + c) / 18446744073709551616 = d) :
    Calls Tryz.prog 103 #[.int .u64 x, .int .u64 y, .int .u64 c] w fun e w' => e = .returned (.tuple #[.int .u64 s, .int .u64 d]) ∧ w' = w := by
  subst h1 h2
  exact add_any x y c w hx.1 hx.2.1 hx.2.2.1 hx.2.2.2
theorem sub_lit (x y c s d : Int) (w : World) (hx : 0 ≤ x ∧ x < 18446744073709551616 ∧ 0 ≤ y ∧ y < 18446744073709551616 ∧ 0 ≤ c ∧ c ≤ 1) (h1 : (x - y - c) % 18446744073709551616 = s) (h2 : (if x < y + c then 1 else 0) = d) :
    Calls Tryz.prog 99 #[.int .u64 x, .int .u64 y, .int .u64 c] w fun e w' => e = .returned (.tuple #[.int .u64 s, .int .u64 d]) ∧ w' = w := by
  subst h1 h2
  exact sub_any x y c w hx.1 hx.2.1 hx.2.2.1 hx.2.2.2.1 hx.2.2.2.2.1 hx.2.2.2.2.2
set_option maxRecDepth 100000 in
set_option maxHeartbeats 4000000 in
theorem div64_lit (w : World) : Calls Tryz.prog 167 #[.int .u64 4611686018427387903, .int .u64 18446744073709551615, .int .u64 13835058055282163712] w fun e w' => e = .returned (.tuple #[.int .u64 6148914691236517205, .int .u64 4611686018427387903]) ∧ w' = w := by
  have hb : Lib.bitLen (13835058055282163712 : Int).toNat = 64 := by decide +kernel
  have b1 : bits .and .u64 13835058055282163712 4294967295 = 0 := by decide +kernel
  have b2 : bits .or .u64 4611686018427387903 0 = 4611686018427387903 := by decide +kernel
  have b3 : bits .and .u64 18446744073709551615 4294967295 = 4294967295 := by decide +kernel
  have hW : ∀ n, IntKind.u64.wrap n = n % 18446744073709551616 := IntKind.wrap_u64
  go_enter Tryz.func167, Tryz.ntmps167
  go_wp2_with (go_at_call 185; refine (lz64_any _ _ (by decide +kernel) (by decide +kernel)).mono ?_; rintro e w' ⟨rfl, rfl⟩; rw [hb])
  refine wp_loop_rounds 1 ?_
  rw [rounds_succ]
  go_wp2_with fail
  refine wp_loop_rounds 1 ?_
  rw [rounds_succ]
  go_wp2_with fail
  go_ret2
  exact ⟨rfl, rfl⟩
set_option maxRecDepth 100000 in
set_option maxHeartbeats 4000000 in
theorem div_lit (w : World) : Calls Tryz.prog 148 #[.int .u64 4611686018427387903, .int .u64 18446744073709551615, .int .u64 13835058055282163712] w fun e w' => e = .returned (.tuple #[.int .u64 6148914691236517205, .int .u64 4611686018427387903]) ∧ w' = w := by
  go_enter Tryz.func148, Tryz.ntmps148
  go_wp2_with (go_at_call 167; refine (div64_lit _).mono ?_; rintro e w' ⟨rfl, rfl⟩)
  go_ret2
  exact ⟨rfl, rfl⟩
set_option maxRecDepth 100000 in
set_option maxHeartbeats 4000000 in
theorem recip_3 (w : World) : Calls Tryz.prog 149 #[.int .u64 3] w fun e w' => e = .returned (.int .u64 6148914691236517205) ∧ w' = w := by
  have hW : ∀ n, IntKind.u64.wrap n = n % 18446744073709551616 := IntKind.wrap_u64
  have HN := Lib.hid (fun w => nlz_lit 3 62 w (by decide +kernel) (by decide +kernel) (by decide +kernel) (by decide +kernel))
  go_enter Tryz.func149, Tryz.ntmps149
  go_wp2_with first | (go_at_call 130; refine (HN.out _).mono ?_; rintro e w' ⟨rfl, rfl⟩) | (go_at_call 148; refine (div_lit _).mono ?_; rintro e w' ⟨rfl, rfl⟩)
  go_ret
  exact ⟨rfl, rfl⟩
set_option maxRecDepth 100000 in
set_option maxHeartbeats 4000000 in
theorem divWW_a (w : World) : Calls Tryz.prog 150 #[.int .u64 0, .int .u64 2, .int .u64 3, .int .u64 6148914691236517205] w fun e w' => e = .returned (.tuple #[.int .u64 0, .int .u64 2]) ∧ w' = w := by
  have hW : ∀ n, IntKind.u64.wrap n = n % 18446744073709551616 := IntKind.wrap_u64
  have b1 : bits .or .u64 0 0 = 0 := by decide +kernel
  have HN := Lib.hid (fun w => nlz_lit 3 62 w (by decide +kernel) (by decide +kernel) (by decide +kernel) (by decide +kernel))
  have M1 := Lib.hid (fun w => mul_lit 6148914691236517205 0 0 0 (by decide +kernel) (by decide +kernel) (by decide +kernel) (by decide +kernel) w)
  have M2 := Lib.hid (fun w => mul_lit 13835058055282163712 0 0 0 (by decide +kernel) (by decide +kernel) (by decide +kernel) (by decide +kernel) w)
  have A1 := Lib.hid (fun w => add_lit 0 9223372036854775808 0 9223372036854775808 0 w (by decide +kernel) (by decide +kernel) (by decide +kernel))
  have A2 := Lib.hid (fun w => add_lit 0 0 0 0 0 w (by decide +kernel) (by decide +kernel) (by decide +kernel))
  have S1 := Lib.hid (fun w => sub_lit 9223372036854775808 0 0 9223372036854775808 0 w (by decide +kernel) (by decide +kernel) (by decide +kernel))
  have S2 := Lib.hid (fun w => sub_lit 0 0 0 0 0 w (by decide +kernel) (by decide +kernel) (by decide +kernel))
  go_enter Tryz.func150, Tryz.ntmps150
  go_wp2_with fail
  refine (HN.out _).mono ?_
  rintro e w' ⟨rfl, rfl⟩
  go_wp2_with fail
  refine (M1.out _).mono ?_
  rintro e w' ⟨rfl, rfl⟩
  go_wp2_with fail
  refine (A1.out _).mono ?_
  rintro e w' ⟨rfl, rfl⟩
  go_wp2_with fail
  refine (A2.out _).mono ?_
  rintro e w' ⟨rfl, rfl⟩
  go_wp2_with fail
  refine (M2.out _).mono ?_
  rintro e w' ⟨rfl, rfl⟩
  go_wp2_with fail
  refine (S1.out _).mono ?_
  rintro e w' ⟨rfl, rfl⟩
  go_wp2_with fail
  refine (S2.out _).mono ?_
  rintro e w' ⟨rfl, rfl⟩
  go_wp2_with fail
  go_ret2
  exact ⟨rfl, rfl⟩
set_option maxRecDepth 100000 in
set_option maxHeartbeats 4000000 in
theorem divWW_b (w : World) : Calls Tryz.prog 150 #[.int .u64 2, .int .u64 0, .int .u64 3, .int .u64 6148914691236517205] w fun e w' => e = .returned (.tuple #[.int .u64 12297829382473034410, .int .u64 2]) ∧ w' = w := by
  have hW : ∀ n, IntKind.u64.wrap n = n % 18446744073709551616 := IntKind.wrap_u64
  have b1 : bits .or .u64 9223372036854775808 0 = 9223372036854775808 := by decide +kernel
  have HN := Lib.hid (fun w => nlz_lit 3 62 w (by decide +kernel) (by decide +kernel) (by decide +kernel) (by decide +kernel))
  have M1 := Lib.hid (fun w => mul_lit 6148914691236517205 9223372036854775808 3074457345618258602 9223372036854775808 (by decide +kernel) (by decide +kernel) (by decide +kernel) (by decide +kernel) w)
  have M2 := Lib.hid (fun w => mul_lit 13835058055282163712 12297829382473034410 9223372036854775807 9223372036854775808 (by decide +kernel) (by decide +kernel) (by decide +kernel) (by decide +kernel) w)
  have A1 := Lib.hid (fun w => add_lit 9223372036854775808 0 0 9223372036854775808 0 w (by decide +kernel) (by decide +kernel) (by decide +kernel))
  have A2 := Lib.hid (fun w => add_lit 3074457345618258602 9223372036854775808 0 12297829382473034410 0 w (by decide +kernel) (by decide +kernel) (by decide +kernel))
  have S1 := Lib.hid (fun w => sub_lit 0 9223372036854775808 0 9223372036854775808 1 w (by decide +kernel) (by decide +kernel) (by decide +kernel))
  have S2 := Lib.hid (fun w => sub_lit 9223372036854775808 9223372036854775807 1 0 0 w (by decide +kernel) (by decide +kernel) (by decide +kernel))
  go_enter Tryz.func150, Tryz.ntmps150
  go_wp2_with fail
  refine (HN.out _).mono ?_
  rintro e w' ⟨rfl, rfl⟩
  go_wp2_with fail
  refine (M1.out _).mono ?_
  rintro e w' ⟨rfl, rfl⟩
  go_wp2_with fail
  refine (A1.out _).mono ?_
  rintro e w' ⟨rfl, rfl⟩
  go_wp2_with fail
  refine (A2.out _).mono ?_
  rintro e w' ⟨rfl, rfl⟩
  go_wp2_with fail
  refine (M2.out _).mono ?_
  rintro e w' ⟨rfl, rfl⟩
  go_wp2_with fail
  refine (S1.out _).mono ?_
  rintro e w' ⟨rfl, rfl⟩
  go_wp2_with fail
  refine (S2.out _).mono ?_
  rintro e w' ⟨rfl, rfl⟩
  go_wp2_with fail
  go_ret2
  exact ⟨rfl, rfl⟩
end Go.Proofs.YtflhdplfkpdejaaGreatFmt
namespace Go.Proofs.YtflhdplfkpdejaaGreatFmt
open Go.RowKit Go.Proofs.YtflhdplfkpdejaaGreatFmtW.PrintWords
set_option maxRecDepth 100000 in
set_option maxHeartbeats 4000000 in
theorem divWVW_lit (b bx c cx : Nat) (zs xs : List Int) (w : World) (hz : Blk w b zs) (hzl : 2 ≤ zs.length) (hx : Blk w bx xs) (hxl : 2 ≤ xs.length) (h0 : xs.getD 0 0 = 0) (h1 : xs.getD 1 0 = 2) (hne : b ≠ bx) :
    Calls Tryz.prog 126 #[.slice (some ⟨b, 0, none⟩) 2 c, .int .u64 0, .slice (some ⟨bx, 0, none⟩) 2 cx, .int .u64 3] w fun e w' => e = .returned (.int .u64 2) ∧ Blk w' b ((zs.set 1 0).set 0 12297829382473034410) ∧ Only w w' (fun k => k = b) := by
  have hne2 : b ≠ bx := hne
  have x0 : w.cell? ⟨bx, 0, none⟩ = some (.int .u64 0) := by rw [hx.cell 0 (by omega), h0]
  have x1 : w.cell? ⟨bx, 1, none⟩ = some (.int .u64 2) := by rw [hx.cell 1 (by omega), h1]
  have z1 := hz.cell 1 (by omega)
  have f1 := blk_frozen hz 1
  have hz1 := hz.set 1 0
  have y0 := hz1.cell 0 (by simp; omega)
  have g0 := blk_frozen hz1 0
  have hz2 := hz1.set 0 12297829382473034410
  have hon := ((Only.refl w (fun k => k = b)).set (p := ⟨b, 1, none⟩) (.inr rfl) (.int .u64 0)).set (p := ⟨b, 0, none⟩) (.inr rfl) (.int .u64 12297829382473034410)
  have HF := Lib.hid (And.intro hz2 hon)
  have HA := Lib.hid (fun w => divWW_a w)
  have HB := Lib.hid (fun w => divWW_b w)
  clear hz2 hon hz hx hz1
  go_enter Tryz.func126, Tryz.ntmps126
  go_wp2_with fail
  refine (recip_3 _).mono ?_
  rintro e w' ⟨rfl, rfl⟩
  go_wp2_with fail
  refine wp_loop_rounds 3 ?_
  rw [rounds_succ]
  go_wp2_with fail
  refine (HA.out _).mono ?_
  rintro e w' ⟨rfl, rfl⟩
  go_wp2_with fail
  rw [rounds_succ]
  go_wp2_with fail
  refine (HB.out _).mono ?_
  rintro e w' ⟨rfl, rfl⟩
  go_wp2_with fail
  rw [rounds_succ]
  go_wp2_with fail
  go_ret
  exact ⟨rfl, HF.out⟩
set_option maxRecDepth 100000 in
set_option maxHeartbeats 4000000 in
theorem divW_lit (bx cx : Nat) (xs : List Int) (w : World) (hx : Blk w bx xs) (hxl : 2 ≤ xs.length) (h0 : xs.getD 0 0 = 0) (h1 : xs.getD 1 0 = 2) :
    Calls Tryz.prog 85 #[.slice none 0 0, .slice (some ⟨bx, 0, none⟩) 2 cx, .int .u64 3] w fun e w' => ∃ v b, e = .returned (.tuple #[v, .int .u64 2]) ∧ IsNat w' v (some b) 12297829382473034410 ∧ w.heap.size ≤ b ∧ Only w w' (fun _ => False) := by
  have hmk : ∀ w, Calls Tryz.prog 93 #[.slice none 0 0, .int .i64 2] w fun e w' => ∃ b zs, e = .returned (.slice (some ⟨b, 0, none⟩) 2 zs.length) ∧ Blk w' b zs ∧ 2 ≤ zs.length ∧ zs.length ≤ most ∧ Only w w' (fun _ => False) ∧ b = w.heap.size := fun w => by
    refine (make_any (.slice none 0 0) none 2 w .nil (by omega) (by decide)).mono ?_
    rintro e w' ⟨b, zs, h1, h2, h3, h4, h5, h6⟩
    refine ⟨b, zs, h1, h2, h3, h4, h5, ?_⟩
    rcases h6 with ⟨h, _⟩ | h
    · cases h
    · exact h
  go_enter Tryz.func85, Tryz.ntmps85
  go_wp2_with fail
  refine (hmk w).mono ?_
  rintro e w1 ⟨b, zs, rfl, hb, hnz, hzm, ho, rfl⟩
  have hne : w.heap.size ≠ bx := by have := blk_lt hx; omega
  go_wp2_with fail
  refine (divWVW_lit w.heap.size bx zs.length cx zs xs w1 hb hnz (ho.blk hx (fun h => h)) hxl h0 h1 hne).mono ?_
  rintro e w2 ⟨rfl, hb2, ho2⟩
  go_wp2_with fail
  have hn := norm_got w.heap.size 2 _ w2 hb2 (by simpa using hnz) (by simpa using hzm) (fun j hj => by
    have : j = 0 ∨ j = 1 := by omega
    rcases this with rfl | rfl
    · simp [List.getD, show 0 < zs.length by omega]
    · simp [List.getD, show 1 < zs.length by omega])
  rw [show ((zs.set 1 0).set 0 12297829382473034410).length = zs.length by simp] at hn
  refine hn.mono ?_
  rintro e w3 ⟨v, rfl, hv, ho3⟩
  go_wp2_with fail
  go_ret2
  refine ⟨v, w.heap.size, rfl, ?_, Nat.le_refl _, ?_⟩
  · have e : num (fun i => ((zs.set 1 0).set 0 12297829382473034410).getD i 0) 2 = 12297829382473034410 := by
      simp [num, List.getD, show 0 < zs.length by omega, show 1 < zs.length by omega]
    rw [← e]; exact hv
  · refine ((ho.mono (fun _ _ h => h.elim)).step ho2 ?_).step ho3 (fun _ _ h => h.elim)
    rintro i hi rfl; omega
set_option maxRecDepth 100000 in
set_option maxHeartbeats 4000000 in
theorem setWord_2 (w : World) : Calls Tryz.prog 86 #[.slice none 0 0, .int .u64 2] w fun e w' => ∃ b c, e = .returned (.slice (some ⟨b, 0, none⟩) 1 c) ∧ IsNat w' (.slice (some ⟨b, 0, none⟩) 1 c) (some b) 2 ∧ w.heap.size ≤ b ∧ Only w w' (fun _ => False) := by
  have hmk : ∀ w, Calls Tryz.prog 93 #[.slice none 0 0, .int .i64 1] w fun e w' => ∃ b zs, e = .returned (.slice (some ⟨b, 0, none⟩) 1 zs.length) ∧ Blk w' b zs ∧ 1 ≤ zs.length ∧ zs.length ≤ most ∧ Only w w' (fun _ => False) ∧ b = w.heap.size := fun w => by
    refine (make_any (.slice none 0 0) none 1 w .nil (by omega) (by decide)).mono ?_
    rintro e w' ⟨b, zs, h1, h2, h3, h4, h5, h6⟩
    refine ⟨b, zs, h1, h2, h3, h4, h5, ?_⟩
    rcases h6 with ⟨h, _⟩ | h
    · cases h
    · exact h
  go_enter Tryz.func86, Tryz.ntmps86
  go_wp2_with fail
  refine (hmk w).mono ?_
  rintro e w1 ⟨b, zs, rfl, hb, hnz, hzm, ho, rfl⟩
  have z0 := hb.cell 0 (by omega)
  have f0 := blk_frozen hb 0
  have hb2 := hb.set 0 2
  go_wp2_with fail
  go_ret
  refine ⟨w.heap.size, zs.length, rfl, ?_, Nat.le_refl _, ho.set (p := ⟨w.heap.size, 0, none⟩) (.inl (Nat.le_refl _)) _⟩
  have e : num (fun i => (zs.set 0 2).getD i 0) 1 = 2 := by simp [num, List.getD, show 0 < zs.length by omega]
  have hl : (zs.set 0 2).length = zs.length := by simp
  rw [← hl]
  refine .own _ 1 (zs.set 0 2) 2 hb2 (by rw [hl]; exact hnz) (by rw [hl]; exact hzm) ⟨fun i hi => ?_, fun _ => ?_⟩ e
  · obtain rfl : i = 0 := by omega
    simp [List.getD, show 0 < zs.length by omega]
  · simp [List.getD, show 0 < zs.length by omega]
end Go.Proofs.YtflhdplfkpdejaaGreatFmt
namespace Go.Proofs.YtflhdplfkpdejaaGreatFmt
open Go.RowKit Go.Proofs.YtflhdplfkpdejaaGreatFmtW.PrintWords
theorem read_at {w wr : World} {b bx : Nat} {xs zs ys : List Int} {i : Nat} (hx : Blk w bx xs) (hi : i < xs.length) (hb : Blk w b zs) (hr : Only w wr (· = b)) (hy : Blk wr b ys) (hl : ys.length = zs.length) (he : ys.getD i 0 = zs.getD i 0) : wr.cell? ⟨bx, i, none⟩ = some (.int .u64 (xs.getD i 0)) :=
  read_kept hx hi (Only.refl w _) hb hr hy hl he
theorem sub_step (f g y : Nat → Int) (k : Nat) (c b x v : Int) (h : num y k + num g k = num f k + c * 2 ^ (64 * k)) (hx : f k = x) (hv : g k = v) (hy : y k = (x - v - c) % 18446744073709551616) (hb : b = if x < v + c then 1 else 0) (w0 : 0 ≤ x ∧ x < 18446744073709551616) (w1 : 0 ≤ v ∧ v < 18446744073709551616) (d0 : 0 ≤ c) (d1 : c ≤ 1) : num y (k + 1) + num g (k + 1) = num f (k + 1) + b * 2 ^ (64 * (k + 1)) := by
  have e2 : (2 : Int) ^ 64 = 18446744073709551616 := by decide
  have hs : y k = x - v - c + b * 18446744073709551616 := by
    rw [hy, hb]
    by_cases hlt : x < v + c
    · rw [if_pos hlt]; omega
    · rw [if_neg hlt]; omega
  rw [num, num, num, hs, hx, hv, show 64 * (k + 1) = 64 + 64 * k by omega, Int.pow_add, e2]
  generalize (2 : Int) ^ (64 * k) = P at *
  have e3 : (x - v - c + b * 18446744073709551616) * P = x * P - v * P - c * P + b * (18446744073709551616 * P) := by
    rw [Int.add_mul, Int.sub_mul, Int.sub_mul, Int.mul_assoc]
  rw [e3]
  omega
set_option maxRecDepth 100000 in
set_option maxHeartbeats 4000000 in
theorem subVV_any (bz cz bx cx bv cv n : Nat) (zs xs vs : List Int) (w : World) (hz : Blk w bz zs) (hx : Blk w bx xs) (hv : Blk w bv vs) (hn : n ≤ zs.length) (hnx : n ≤ xs.length) (hnv : n ≤ vs.length) (hm : n ≤ 1099511627776) (hwx : Wd (fun i => xs.getD i 0) n) (hwv : Wd (fun i => vs.getD i 0) n) :
    Calls Tryz.prog 51 #[.slice (some ⟨bz, 0, none⟩) n cz, .slice (some ⟨bx, 0, none⟩) n cx, .slice (some ⟨bv, 0, none⟩) n cv] w fun e w' => ∃ c : Int, e = .returned (.int .u64 c) ∧ 0 ≤ c ∧ c ≤ 1 ∧ Only w w' (· = bz) ∧
      ∃ ys, Blk w' bz ys ∧ ys.length = zs.length ∧ (∀ p, n ≤ p → ys.getD p 0 = zs.getD p 0) ∧ Wd (fun i => ys.getD i 0) n ∧ num (fun i => ys.getD i 0) n + num (fun i => vs.getD i 0) n = num (fun i => xs.getD i 0) n + c * 2 ^ (64 * n) := by
  have h1 : ((n : Int) != n) = false := by simp
  have HWX := Lib.hid hwx
  have HWV := Lib.hid hwv
  clear hwx hwv
  go_enter Tryz.func51, Tryz.ntmps51
  go_wp2_with fail
  go_loopw [6, 25] (fun c i wr => ∃ (k : Nat) (d : Int), k ≤ n ∧ i = .int .i64 k ∧ c = .int .u64 d ∧ 0 ≤ d ∧ d ≤ 1 ∧ Only w wr (· = bz) ∧ ∃ ys, Blk wr bz ys ∧ ys.length = zs.length ∧ (∀ p, k ≤ p → ys.getD p 0 = zs.getD p 0) ∧ Wd (fun i => ys.getD i 0) k ∧ num (fun i => ys.getD i 0) k + num (fun i => vs.getD i 0) k = num (fun i => xs.getD i 0) k + d * 2 ^ (64 * k))
    (fun _ i _ => n - (intOf i).toNat)
  case atStart => exact ⟨0, 0, Nat.zero_le _, rfl, rfl, by omega, by omega, Only.refl _ _, zs, hz, rfl, fun _ _ => rfl, fun i hi => by omega, by simp [num]⟩
  case round =>
    obtain ⟨k, d, hk, rfl, rfl, hd0, hd1, ho, ys, hy, hyl, hhi, hwd, hnum⟩ := hrel
    have HN := Lib.hid hnum
    have HH := Lib.hid hhi
    have HD := Lib.hid hwd
    clear hnum hwd
    by_cases hlt : k < n
    · have c0 := read_at hx (i := k) (by omega) hz ho hy hyl (hhi k (Nat.le_refl _))
      have c1 := read_at hv (i := k) (by omega) hz ho hy hyl (hhi k (Nat.le_refl _))
      have cz := hy.cell k (by omega)
      have fz := blk_frozen hy k
      have hkI : (k : Int) < n := by omega
      have w0 := HWX.out k hlt
      have w1 := HWV.out k hlt
      simp only at w0 w1
      clear hhi
      generalize hX : xs.getD k 0 = x at c0 w0
      generalize hV : vs.getD k 0 = v at c1 w1
      have HXV := Lib.hid (And.intro hX hV)
      clear hX hV
      go_wp2_with fail
      go_quiet ((go_at_call 99; exact Calls.quiet_of_same (sub_any x v d _ w0.1 w0.2 w1.1 w1.2 hd0 hd1)))
      go_wp2_with fail
      go_roundw
      case rel =>
        refine ⟨k + 1, if x < v + d then 1 else 0, by omega, by go_num, rfl, by split <;> omega, by split <;> omega, (ho.drewN _).set (.inr rfl) _, ys.set k ((x - v - d) % 18446744073709551616), ?_, by simpa using hyl, ?_, ?_, ?_⟩
        · exact Blk.set (w := wr.drewN _) hy k _
        · intro p hp
          rw [← HH.out p (by omega)]
          simp only [List.getD, List.getElem?_set]
          rw [if_neg (by omega)]
        · intro i hi
          show 0 ≤ (ys.set k _).getD i 0 ∧ (ys.set k _).getD i 0 < _
          simp only [List.getD, List.getElem?_set]
          by_cases e : k = i
          · subst e
            rw [if_pos rfl, if_pos (by omega)]
            exact ⟨Int.emod_nonneg _ (by decide), Int.emod_lt_of_pos _ (by decide)⟩
          · rw [if_neg e]
            exact HD.out i (by omega)
        · have hat : (ys.set k ((x - v - d) % 18446744073709551616)).getD k 0 = (x - v - d) % 18446744073709551616 := by
            simp only [List.getD, List.getElem?_set]
            rw [if_pos trivial, if_pos (by omega)]; rfl
          have hbe : num (fun i => (ys.set k ((x - v - d) % 18446744073709551616)).getD i 0) k = num (fun i => ys.getD i 0) k := num_congr k fun i hi => by
            simp only [List.getD, List.getElem?_set]
            rw [if_neg (by omega)]
          refine sub_step (fun i => xs.getD i 0) (fun i => vs.getD i 0) (fun i => (ys.set k ((x - v - d) % 18446744073709551616)).getD i 0) k d _ x v ?_ HXV.out.1 HXV.out.2 hat rfl w0 w1 hd0 hd1
          rw [hbe]; exact HN.out
      case measure => simp [intOf]; omega
    · obtain rfl : k = n := by omega
      go_wp2_with fail
      go_ret
      exact ⟨d, rfl, hd0, hd1, ho, ys, hy, hyl, HH.out, HD.out, HN.out⟩
end Go.Proofs.YtflhdplfkpdejaaGreatFmt
namespace Go.Proofs.YtflhdplfkpdejaaGreatFmt
open Go.RowKit Go.Proofs.YtflhdplfkpdejaaGreatFmtW.PrintWords
theorem Tryz.subVV_enters (args : Array Value) (w : World) : (callFunc 97 args).run Tryz.prog w = .ok (.enter 51 args) w :=
  run_callFunc_twin (twin := "math/big.subVV_g") Tryz.func97 (by kernel_rfl) (by kernel_rfl) (by kernel_rfl) (by kernel_rfl) Tryz.func51 (by kernel_rfl) (by kernel_rfl) (by kernel_rfl) args w
set_option maxRecDepth 100000 in
set_option maxHeartbeats 4000000 in
theorem sub_same (z : Value) (o : Option Nat) (bx bv n : Nat) (xs vs : List Int) (w : World) (hz : Room w z o) (hx : Blk w bx xs) (hv : Blk w bv vs) (hn : 0 < n) (hnx : n ≤ xs.length) (hnv : n ≤ vs.length) (hm : n ≤ 16777217) (hrx : Nrm xs n) (hrv : Nrm vs n) (hle : num (fun i => vs.getD i 0) n ≤ num (fun i => xs.getD i 0) n) :
    Calls Tryz.prog 64 #[z, .slice (some ⟨bx, 0, none⟩) n xs.length, .slice (some ⟨bv, 0, none⟩) n vs.length] w (Got w o (num (fun i => xs.getD i 0) n - num (fun i => vs.getD i 0) n)) := by
  have hmm : most = 274877906944 := rfl
  have h1 : ((n : Int) == 0) = false := by rw [beq_eq_false_iff_ne]; omega
  have q0 : (0 : Int) ≤ n := by omega
  have q1 : (n : Int) ≤ xs.length := by omega
  have q2 : (n : Int) ≤ vs.length := by omega
  have hmk := Lib.hid (fun w (h : Room w z o) => make_any z o n w h hn (by omega))
  have hen := Tryz.subVV_enters
  have HX := Lib.hid hmm
  clear hmm
  go_enter Tryz.func64, Tryz.ntmps64
  go_wp2_with fail
  refine (hmk.out w hz).mono ?_
  rintro e w1 ⟨b, zs, rfl, hb, hnz, hzm, ho, hob⟩
  have q3 : (n : Int) ≤ zs.length := by omega
  have hx1 : Blk w1 bx xs := ho.blk hx (fun h => h)
  have hv1 : Blk w1 bv vs := ho.blk hv (fun h => h)
  have HC := Lib.hid (fun w2 (hw : w2.heap = w1.heap) => subVV_any b zs.length bx xs.length bv vs.length n zs xs vs w2 (by unfold Blk; rw [hw]; exact hb) (by unfold Blk; rw [hw]; exact hx1) (by unfold Blk; rw [hw]; exact hv1) hnz hnx hnv (by omega) hrx.1 hrv.1)
  go_wp2_with fail
  go_region_law (go_simp; go_at_call 51; refine (HC.out w1.drew rfl).mono ?_; rintro e w2 ⟨d, rfl, hd0, hd1, ho2, ys, hy, hyl, hout, hwd, hnum⟩)
  all_goals
    have hd : d = 0 := by
      have r1 := num_range n hwd
      have hp : (0 : Int) < 2 ^ (64 * n) := Int.pow_pos (by omega)
      rcases (show d = 0 ∨ d = 1 by omega) with h | h
      · exact h
      · rw [h, Int.one_mul] at hnum; omega
    subst hd
    have HN := Lib.hid hnum
    have HW := Lib.hid hwd
    clear hnum hwd hout
    have hn2 := norm_got b n ys w2 hy (by omega) (by omega) HW.out
    rw [hyl] at hn2
    have HNN := Lib.hid hn2
    clear hn2
    go_wp2_with fail
    refine HNN.out.mono ?_
    rintro e w3 ⟨v, rfl, hv3, ho3⟩
    go_wp2_with fail
    go_ret
    refine ⟨v, some b, rfl, ?_, ?_, ?_⟩
    · have := HN.out
      rw [Int.zero_mul, Int.add_zero] at this
      rw [← this, Int.add_sub_cancel]
      exact hv3
    · refine ((ho.mono (fun _ _ h => h.elim)).drew.step ho2 ?_).step ho3 (fun _ _ h => h.elim)
      rintro i hi rfl
      rcases hob with ⟨h, _⟩ | h
      · exact h
      · omega
    · rcases hob with ⟨h, _⟩ | h
      · exact .inl h.symm
      · exact .inr ⟨_, rfl, by omega⟩
end Go.Proofs.YtflhdplfkpdejaaGreatFmt
namespace Go.Proofs.YtflhdplfkpdejaaGreatFmt.F
open Go.RowKit Go.Proofs.YtflhdplfkpdejaaGreatFmtW.PrintWords Go.Proofs.YtflhdplfkpdejaaGreatFmtW.PrintLast Go.Proofs.YtflhdplfkpdejaaGreatFmtW.PrintMore
attribute [local go_sem] max2_int min2_int max_two min_two max_three min_three max_four min_four   -- for this text's walks alone
set_option linter.unusedVariables false
set_option linter.unusedSimpArgs false
mutual
def big_nat_cmp.j0 : Nat → List Int → List Int → Int → Int → Int → Bool → Option (Int)
  | 0, _, _, _, _, _, _ => none
  | k + 1, x0, x1, x4, x5, x6, x18 => if x18 = true then (if x5 < x6 then (some (-1)) else (if x5 > x6 then (some 1) else (some x4))) else (big_nat_cmp.l0 k x0 x1 x4 (wrap64 (x5 - 1)))
def big_nat_cmp.j2 : Nat → List Int → List Int → Int → Int → Option (Int)
  | 0, _, _, _, _ => none
  | k + 1, x0, x1, x4, x7 => if 0 ≤ x7 then (if x7 < (x0.length : Int) then (if x7 < (x1.length : Int) then (if (rd x0 x7) < (rd x1 x7) then (some (-1)) else (if (rd x0 x7) > (rd x1 x7) then (some 1) else (some x4))) else (none)) else (none)) else (none)
def big_nat_cmp.l0 : Nat → List Int → List Int → Int → Int → Option (Int)
  | 0, _, _, _, _ => none
  | k + 1, x0, x1, x4, x7 => if x7 > 0 then (if 0 ≤ x7 then (if x7 < (x0.length : Int) then (if x7 < (x1.length : Int) then (if (rd x0 x7) = (rd x1 x7) then (big_nat_cmp.l0 k x0 x1 x4 (wrap64 (x7 - 1))) else (big_nat_cmp.j2 k x0 x1 x4 x7)) else (none)) else (none)) else (none)) else (big_nat_cmp.j2 k x0 x1 x4 x7)
end
def big_nat_cmp.f (k : Nat) (l0 : List Int) (l1 : List Int) : Option (Int) := if (l0.length : Int) = (l1.length : Int) then (big_nat_cmp.j0 k l0 l1 0 (l0.length : Int) (l1.length : Int) ((l0.length : Int) == 0)) else (big_nat_cmp.j0 k l0 l1 0 (l0.length : Int) (l1.length : Int) true)
theorem big_nat_cmp.mono_l : ∀ k, (∀ y0 y1 y2 y3 y4 y5, LeO (big_nat_cmp.j0 k y0 y1 y2 y3 y4 y5) (big_nat_cmp.j0 (k + 1) y0 y1 y2 y3 y4 y5)) ∧ (∀ y0 y1 y2 y3, LeO (big_nat_cmp.j2 k y0 y1 y2 y3) (big_nat_cmp.j2 (k + 1) y0 y1 y2 y3)) ∧ (∀ y0 y1 y2 y3, LeO (big_nat_cmp.l0 k y0 y1 y2 y3) (big_nat_cmp.l0 (k + 1) y0 y1 y2 y3))
  | 0 => ⟨fun _ _ _ _ _ _ r h => by simp [big_nat_cmp.j0] at h, fun _ _ _ _ r h => by simp [big_nat_cmp.j2] at h, fun _ _ _ _ r h => by simp [big_nat_cmp.l0] at h⟩
  | k + 1 => by
    obtain ⟨ih0, ih1, ih2⟩ := big_nat_cmp.mono_l k
    refine ⟨?_, ?_, ?_⟩
    · intro y0 y1 y2 y3 y4 y5
      unfold big_nat_cmp.j0
      repeat' first
      | (with_reducible exact ih0 _ _ _ _ _ _)
      | (with_reducible exact ih1 _ _ _ _)
      | (with_reducible exact ih2 _ _ _ _)
      | (with_reducible exact LeO.refl _)
      | (with_reducible exact LeO.none _)
      | (with_reducible refine LeO.ite ?_ ?_)
      | (with_reducible refine LeO.bind ?_ (fun _ => ?_))
      | exact ih0 _ _ _ _ _ _
      | exact ih1 _ _ _ _
      | exact ih2 _ _ _ _
      | exact LeO.none _
      | refine LeO.ite ?_ ?_
      | refine LeO.bind ?_ (fun _ => ?_)
    · intro y0 y1 y2 y3
      unfold big_nat_cmp.j2
      repeat' first
      | (with_reducible exact ih0 _ _ _ _ _ _)
      | (with_reducible exact ih1 _ _ _ _)
      | (with_reducible exact ih2 _ _ _ _)
      | (with_reducible exact LeO.refl _)
      | (with_reducible exact LeO.none _)
      | (with_reducible refine LeO.ite ?_ ?_)
      | (with_reducible refine LeO.bind ?_ (fun _ => ?_))
      | exact ih0 _ _ _ _ _ _
      | exact ih1 _ _ _ _
      | exact ih2 _ _ _ _
      | exact LeO.none _
      | refine LeO.ite ?_ ?_
      | refine LeO.bind ?_ (fun _ => ?_)
    · intro y0 y1 y2 y3
      unfold big_nat_cmp.l0
      repeat' first
      | (with_reducible exact ih0 _ _ _ _ _ _)
      | (with_reducible exact ih1 _ _ _ _)
      | (with_reducible exact ih2 _ _ _ _)
      | (with_reducible exact LeO.refl _)
      | (with_reducible exact LeO.none _)
      | (with_reducible refine LeO.ite ?_ ?_)
      | (with_reducible refine LeO.bind ?_ (fun _ => ?_))
      | exact ih0 _ _ _ _ _ _
      | exact ih1 _ _ _ _
      | exact ih2 _ _ _ _
      | exact LeO.none _
      | refine LeO.ite ?_ ?_
      | refine LeO.bind ?_ (fun _ => ?_)
theorem big_nat_cmp.mono : ∀ a0 a1 k, LeO (big_nat_cmp.f k a0 a1) (big_nat_cmp.f (k + 1) a0 a1) := by
  intro a0 a1 k
  obtain ⟨ih0, ih1, ih2⟩ := big_nat_cmp.mono_l k
  unfold big_nat_cmp.f
  repeat' first
      | (with_reducible exact ih0 _ _ _ _ _ _)
      | (with_reducible exact ih1 _ _ _ _)
      | (with_reducible exact ih2 _ _ _ _)
      | (with_reducible exact LeO.refl _)
      | (with_reducible exact LeO.none _)
      | (with_reducible refine LeO.ite ?_ ?_)
      | (with_reducible refine LeO.bind ?_ (fun _ => ?_))
      | exact ih0 _ _ _ _ _ _
      | exact ih1 _ _ _ _
      | exact ih2 _ _ _ _
      | exact LeO.none _
      | refine LeO.ite ?_ ?_
      | refine LeO.bind ?_ (fun _ => ?_)
set_option maxHeartbeats 8000000 in
set_option maxRecDepth 100000 in
theorem big_nat_cmp.calls (k : Nat) (A0 : Option Addr) (c0 : Nat) (l0 : List Int) (A1 : Option Addr) (c1 : Nat) (l1 : List Int) (r : Int) (w : World) (hr0 : Kd.C (Kd.int .u64) w A0 l0.length l0) (hc0 : l0.length ≤ c0) (hr1 : Kd.C (Kd.int .u64) w A1 l1.length l1) (hc1 : l1.length ≤ c1) (h : big_nat_cmp.f k l0 l1 = some r) :
    Calls Tryz.prog 71 #[.slice A0 l0.length c0, .slice A1 l1.length c1] w fun e w' => e = .returned (.int .i64 r) ∧ Drawn0 w w' := by
  have HR0 := Aside0.mk hr0
  have HC0 := Aside0.mk hc0
  clear hr0 hc0
  have HR1 := Aside0.mk hr1
  have HC1 := Aside0.mk hc1
  clear hr1 hc1
  have H : (if (l0.length : Int) = (l1.length : Int) then (big_nat_cmp.j0 k l0 l1 0 (l0.length : Int) (l1.length : Int) ((l0.length : Int) == 0)) else (big_nat_cmp.j0 k l0 l1 0 (l0.length : Int) (l1.length : Int) true)) = some r := h
  clear h
  have HC3 := Aside0.mk H
  clear H
  go_enter Tryz.func71, Tryz.ntmps71
  go_upto_region 3 with (fail)
  repeat (go_quiet (fail); go_upto_region 3 with (fail))
  go_cut [18] (fun v18 wc => ∃ (kq : Nat) (x18_2 : Bool), v18 = .bool x18_2 ∧ Aside0 (big_nat_cmp.j0 kq l0 l1 0 (l0.length : Int) (l1.length : Int) x18_2 = some r) ∧ Aside0 (kq ≤ k) ∧ Drawn0 w wc)
  case first =>
    have H := HC3.out
    clear HC3
    by_cases c4 : (l0.length : Int) = (l1.length : Int)
    · rw [if_pos c4] at H
      have c4b0 : ((l0.length : Int) == (l1.length : Int)) = true := beq_iff_eq.mpr c4
      have c4b1 : ((l0.length : Int) != (l1.length : Int)) = false := bne_eq_false_iff_eq.mpr c4
      have c4b2 : (l0.length == l1.length) = true := by first | simpa using c4 | (simp at c4 ⊢; omega)
      clear c4
      (first | rw [c4b0] | (simp only [i64_w, i32_w]; rw [c4b0]) | skip)
      have H' := Aside0.mk H
      clear H
      go_wp2
      repeat (go_quiet (fail); try go_wp2)
      go_meet
      case rel => exact ⟨_, (((l0.length : Int) == 0)), (by first | rfl | (simp; done) | (simp [*]; done)), H', ⟨by first | omega | exact Nat.le_refl _⟩, by repeat (first | exact Drawn0.refl _ | apply Drawn0.step)⟩
    · rw [if_neg c4] at H
      have c4b0 : ((l0.length : Int) == (l1.length : Int)) = false := beq_eq_false_iff_ne.mpr c4
      have c4b1 : ((l0.length : Int) != (l1.length : Int)) = true := bne_iff_ne.mpr c4
      have c4b2 : (l0.length == l1.length) = false := by first | simpa using c4 | (simp at c4 ⊢; omega)
      (first | rw [c4b0] | (simp only [i64_w, i32_w]; rw [c4b0]) | skip)
      have H' := Aside0.mk H
      clear H
      go_wp2
      repeat (go_quiet (fail); try go_wp2)
      go_meet
      case rel => exact ⟨_, (true), (by first | rfl | (simp; done) | (simp [*]; done)), H', ⟨by first | omega | exact Nat.le_refl _⟩, by repeat (first | exact Drawn0.refl _ | apply Drawn0.step)⟩
  case rest =>
    clear HC3
    try clear c1
    try clear p2
    try clear c4
    try clear c4b0
    try clear c4b1
    try clear c4b2
    obtain ⟨kq, x18_2, rfl, HA, HJ2, ⟨mc2, rfl⟩⟩ := hcut
    cases kq with
    | zero => exact absurd HA.out (by simp [big_nat_cmp.j0])
    | succ kj2 =>
      have H := HA.out
      clear HA
      simp only [big_nat_cmp.j0] at H
      by_cases c5 : x18_2 = true
      · subst c5
        have H1 : (if (l0.length : Int) < (l1.length : Int) then (some (-1)) else (if (l0.length : Int) > (l1.length : Int) then (some 1) else (some 0))) = some r := by rw [if_pos rfl] at H; exact H
        clear H
        have H := H1
        clear H1
        by_cases c6 : (l0.length : Int) < (l1.length : Int)
        · rw [if_pos c6] at H
          have c6b0 : decide ((l0.length : Int) < (l1.length : Int)) = true := decide_eq_true c6
          have c6b1 : decide (l0.length < l1.length) = true := decide_eq_true (Int.ofNat_lt.mp c6)
          clear c6
          obtain rfl := Option.some.inj H
          go_wp2
          repeat (go_quiet (fail); try go_wp2)
          go_ret
          exact ⟨by first | rfl | (simp; done) | (simp [*]; done), by repeat (first | exact Drawn0.refl _ | apply Drawn0.step)⟩
        · rw [if_neg c6] at H
          have c6b0 : decide ((l0.length : Int) < (l1.length : Int)) = false := decide_eq_false c6
          have c6b1 : decide (l0.length < l1.length) = false := decide_eq_false (fun h => c6 (Int.ofNat_lt.mpr h))
          clear c6
          by_cases c7 : (l0.length : Int) > (l1.length : Int)
          · rw [if_pos c7] at H
            have c7b0 : decide ((l1.length : Int) < (l0.length : Int)) = true := decide_eq_true c7
            have c7b1 : decide (l1.length < l0.length) = true := decide_eq_true (Int.ofNat_lt.mp c7)
            clear c7
            obtain rfl := Option.some.inj H
            go_wp2
            repeat (go_quiet (fail); try go_wp2)
            go_ret
            exact ⟨by first | rfl | (simp; done) | (simp [*]; done), by repeat (first | exact Drawn0.refl _ | apply Drawn0.step)⟩
          · rw [if_neg c7] at H
            have c7b0 : decide ((l1.length : Int) < (l0.length : Int)) = false := decide_eq_false c7
            have c7b1 : decide (l1.length < l0.length) = false := decide_eq_false (fun h => c7 (Int.ofNat_lt.mpr h))
            clear c7
            obtain rfl := Option.some.inj H
            go_wp2
            repeat (go_quiet (fail); try go_wp2)
            go_ret
            exact ⟨by first | rfl | (simp; done) | (simp [*]; done), by repeat (first | exact Drawn0.refl _ | apply Drawn0.step)⟩
      · replace c5 := Bool.eq_false_iff.mpr c5
        subst c5
        have H1 : (big_nat_cmp.l0 kj2 l0 l1 0 (wrap64 ((l0.length : Int) - 1))) = some r := by rw [if_neg (show ¬ (false = true) by decide)] at H; exact H
        clear H
        have H := H1
        clear H1
        have HC8 := Aside0.mk H
        clear H
        go_upto_block 1 with (fail)
        repeat (go_quiet (fail); go_upto_block 1 with (fail))
        go_cut [7] (fun v7 wc => ∃ (kq : Nat) (x7_7 : Int), v7 = .int .i64 x7_7 ∧ Aside0 (big_nat_cmp.j2 kq l0 l1 0 x7_7 = some r) ∧ Aside0 (kq ≤ kj2) ∧ Drawn0 w wc)
        case first =>
          have H := HC8.out
          clear HC8
          have H' := Aside0.mk H
          clear H
          go_wp2
          repeat (go_quiet (fail); try go_wp2)
          go_loopg [7] kj2 (fun kq v7 w' => ∃ (x7_2 : Int), v7 = .int .i64 x7_2 ∧ Aside0 (big_nat_cmp.l0 kq l0 l1 0 x7_2 = some r) ∧ Aside0 (kq ≤ kj2) ∧ Drawn0 w w')
          case atStart => exact ⟨(wrap64 ((l0.length : Int) - 1)), (by first | rfl | (simp; done) | (simp [*]; done)), H', ⟨Nat.le_refl _⟩, by repeat (first | exact Drawn0.refl _ | apply Drawn0.step)⟩
          case round =>
            clear H'
            try clear c1
            try clear c2
            try clear p2
            try clear c4
            try clear c4b0
            try clear c4b1
            try clear c4b2
            try clear c5
            try clear c6
            try clear c6b0
            try clear c6b1
            try clear p6
            try clear c7
            try clear c7b0
            try clear c7b1
            try clear p2
            obtain ⟨x7_2, rfl, HA, HK2, ⟨m2, rfl⟩⟩ := hrel
            cases gk with
            | zero => exact absurd HA.out (by simp [big_nat_cmp.l0])
            | succ k2 =>
              have H := HA.out
              clear HA
              simp only [big_nat_cmp.l0] at H
              by_cases c9 : x7_2 > 0
              · rw [if_pos c9] at H
                have c9b0 : decide (0 < x7_2) = true := decide_eq_true c9
                clear c9
                (first | rw [c9b0] | (simp only [i64_w, i32_w]; rw [c9b0]) | skip)
                by_cases c10 : 0 ≤ x7_2
                · rw [if_pos c10] at H
                  have c10b0 : decide (0 ≤ x7_2) = true := decide_eq_true c10
                  clear c10
                  by_cases c11 : x7_2 < (l0.length : Int)
                  · rw [if_pos c11] at H
                    have c11b0 : decide (x7_2 < (l0.length : Int)) = true := decide_eq_true c11
                    clear c11
                    by_cases c12 : x7_2 < (l1.length : Int)
                    · rw [if_pos c12] at H
                      have c12b0 : decide (x7_2 < (l1.length : Int)) = true := decide_eq_true c12
                      clear c12
                      by_cases c13 : (rd l0 x7_2) = (rd l1 x7_2)
                      · rw [if_pos c13] at H
                        have c13b0 : ((rd l0 x7_2) == (rd l1 x7_2)) = true := beq_iff_eq.mpr c13
                        have c13b1 : ((rd l0 x7_2) != (rd l1 x7_2)) = false := bne_eq_false_iff_eq.mpr c13
                        clear c13
                        have H' := Aside0.mk H
                        clear H
                        have p132 : 0 ≤ (x7_2 : Int) := of_decide_eq_true (by first | (with_reducible assumption) | assumption)
                        have q132 : x7_2 < (l0.length : Int) := of_decide_eq_true (by first | (with_reducible assumption) | assumption)
                        obtain ⟨ad132, e132, hx132_0⟩ := Kd.at_int HR0.out x7_2 p132 q132
                        cases e132
                        replace p132 := eq_true p132
                        replace q132 := eq_true q132
                        have p133 : 0 ≤ (x7_2 : Int) := of_decide_eq_true (by first | (with_reducible assumption) | assumption)
                        have q133 : x7_2 < (l1.length : Int) := of_decide_eq_true (by first | (with_reducible assumption) | assumption)
                        obtain ⟨ad133, e133, hx133_0⟩ := Kd.at_int HR1.out x7_2 p133 q133
                        cases e133
                        replace p133 := eq_true p133
                        replace q133 := eq_true q133
                        go_wp2
                        repeat (go_quiet (fail); try go_wp2)
                        go_roundg k2
                        case measure => have := HJ2.out; have := HK2.out; omega
                        case rel => exact ⟨(wrap64 (x7_2 - 1)), (by first | rfl | (simp; done) | (simp [*]; done)), H', ⟨by have := HJ2.out; have := HK2.out; omega⟩, by repeat (first | exact Drawn0.refl _ | apply Drawn0.step)⟩
                      · rw [if_neg c13] at H
                        have c13b0 : ((rd l0 x7_2) == (rd l1 x7_2)) = false := beq_eq_false_iff_ne.mpr c13
                        have c13b1 : ((rd l0 x7_2) != (rd l1 x7_2)) = true := bne_iff_ne.mpr c13
                        have H' := Aside0.mk H
                        clear H
                        have p132 : 0 ≤ (x7_2 : Int) := of_decide_eq_true (by first | (with_reducible assumption) | assumption)
                        have q132 : x7_2 < (l0.length : Int) := of_decide_eq_true (by first | (with_reducible assumption) | assumption)
                        obtain ⟨ad132, e132, hx132_0⟩ := Kd.at_int HR0.out x7_2 p132 q132
                        cases e132
                        replace p132 := eq_true p132
                        replace q132 := eq_true q132
                        have p133 : 0 ≤ (x7_2 : Int) := of_decide_eq_true (by first | (with_reducible assumption) | assumption)
                        have q133 : x7_2 < (l1.length : Int) := of_decide_eq_true (by first | (with_reducible assumption) | assumption)
                        obtain ⟨ad133, e133, hx133_0⟩ := Kd.at_int HR1.out x7_2 p133 q133
                        cases e133
                        replace p133 := eq_true p133
                        replace q133 := eq_true q133
                        go_wp2
                        repeat (go_quiet (fail); try go_wp2)
                        go_meet
                        case rel => exact ⟨_, (x7_2), (by first | rfl | (simp; done) | (simp [*]; done)), H', ⟨by have := HJ2.out; have := HK2.out; first | omega | exact Nat.le_refl _⟩, by repeat (first | exact Drawn0.refl _ | apply Drawn0.step)⟩
                    · rw [if_neg c12] at H
                      exact absurd H (by simp)
                  · rw [if_neg c11] at H
                    exact absurd H (by simp)
                · rw [if_neg c10] at H
                  exact absurd H (by simp)
              · rw [if_neg c9] at H
                have c9b0 : decide (0 < x7_2) = false := decide_eq_false c9
                clear c9
                (first | rw [c9b0] | (simp only [i64_w, i32_w]; rw [c9b0]) | skip)
                have H' := Aside0.mk H
                clear H
                go_wp2
                repeat (go_quiet (fail); try go_wp2)
                go_meet
                case rel => exact ⟨_, (x7_2), (by first | rfl | (simp; done) | (simp [*]; done)), H', ⟨by have := HJ2.out; have := HK2.out; first | omega | exact Nat.le_refl _⟩, by repeat (first | exact Drawn0.refl _ | apply Drawn0.step)⟩
        case rest =>
          clear HC8
          try clear c1
          try clear p1
          try clear q1
          try clear hx1
          try clear c2
          try clear p2
          try clear c4
          try clear c4b0
          try clear c4b1
          try clear c4b2
          try clear c5
          try clear c6
          try clear c6b0
          try clear c6b1
          try clear p6
          try clear c7
          try clear c7b0
          try clear c7b1
          try clear c9
          try clear c9b0
          try clear c10
          try clear c10b0
          try clear c11
          try clear c11b0
          try clear c12
          try clear c12b0
          try clear c13
          try clear c13b0
          try clear c13b1
          try clear p13
          try clear q13
          try clear hx13
          try clear hx132_0
          try clear hx133_0
          try clear p132
          try clear p133
          try clear p2
          try clear p6
          try clear q132
          try clear q133
          obtain ⟨kq, x7_7, rfl, HA, HJ7, ⟨mc7, rfl⟩⟩ := hcut
          cases kq with
          | zero => exact absurd HA.out (by simp [big_nat_cmp.j2])
          | succ kj7 =>
            have H := HA.out
            clear HA
            simp only [big_nat_cmp.j2] at H
            by_cases c14 : 0 ≤ x7_7
            · rw [if_pos c14] at H
              have c14b0 : decide (0 ≤ x7_7) = true := decide_eq_true c14
              clear c14
              by_cases c15 : x7_7 < (l0.length : Int)
              · rw [if_pos c15] at H
                have c15b0 : decide (x7_7 < (l0.length : Int)) = true := decide_eq_true c15
                clear c15
                by_cases c16 : x7_7 < (l1.length : Int)
                · rw [if_pos c16] at H
                  have c16b0 : decide (x7_7 < (l1.length : Int)) = true := decide_eq_true c16
                  clear c16
                  by_cases c17 : (rd l0 x7_7) < (rd l1 x7_7)
                  · rw [if_pos c17] at H
                    have c17b0 : decide ((rd l0 x7_7) < (rd l1 x7_7)) = true := decide_eq_true c17
                    clear c17
                    obtain rfl := Option.some.inj H
                    have p134 : 0 ≤ (x7_7 : Int) := of_decide_eq_true (by first | (with_reducible assumption) | assumption)
                    have q134 : x7_7 < (l0.length : Int) := of_decide_eq_true (by first | (with_reducible assumption) | assumption)
                    obtain ⟨ad134, e134, hx134_0⟩ := Kd.at_int HR0.out x7_7 p134 q134
                    cases e134
                    replace p134 := eq_true p134
                    replace q134 := eq_true q134
                    have p135 : 0 ≤ (x7_7 : Int) := of_decide_eq_true (by first | (with_reducible assumption) | assumption)
                    have q135 : x7_7 < (l1.length : Int) := of_decide_eq_true (by first | (with_reducible assumption) | assumption)
                    obtain ⟨ad135, e135, hx135_0⟩ := Kd.at_int HR1.out x7_7 p135 q135
                    cases e135
                    replace p135 := eq_true p135
                    replace q135 := eq_true q135
                    go_wp2
                    repeat (go_quiet (fail); try go_wp2)
                    go_ret
                    exact ⟨by first | rfl | (simp; done) | (simp [*]; done), by repeat (first | exact Drawn0.refl _ | apply Drawn0.step)⟩
                  · rw [if_neg c17] at H
                    have c17b0 : decide ((rd l0 x7_7) < (rd l1 x7_7)) = false := decide_eq_false c17
                    clear c17
                    by_cases c18 : (rd l0 x7_7) > (rd l1 x7_7)
                    · rw [if_pos c18] at H
                      have c18b0 : decide ((rd l1 x7_7) < (rd l0 x7_7)) = true := decide_eq_true c18
                      clear c18
                      obtain rfl := Option.some.inj H
                      have p134 : 0 ≤ (x7_7 : Int) := of_decide_eq_true (by first | (with_reducible assumption) | assumption)
                      have q134 : x7_7 < (l0.length : Int) := of_decide_eq_true (by first | (with_reducible assumption) | assumption)
                      obtain ⟨ad134, e134, hx134_0⟩ := Kd.at_int HR0.out x7_7 p134 q134
                      cases e134
                      replace p134 := eq_true p134
                      replace q134 := eq_true q134
                      have p135 : 0 ≤ (x7_7 : Int) := of_decide_eq_true (by first | (with_reducible assumption) | assumption)
                      have q135 : x7_7 < (l1.length : Int) := of_decide_eq_true (by first | (with_reducible assumption) | assumption)
                      obtain ⟨ad135, e135, hx135_0⟩ := Kd.at_int HR1.out x7_7 p135 q135
                      cases e135
                      replace p135 := eq_true p135
                      replace q135 := eq_true q135
                      have p136 : 0 ≤ (x7_7 : Int) := of_decide_eq_true (by first | (with_reducible assumption) | assumption)
                      have q136 : x7_7 < (l0.length : Int) := of_decide_eq_true (by first | (with_reducible assumption) | assumption)
                      obtain ⟨ad136, e136, hx136_0⟩ := Kd.at_int HR0.out x7_7 p136 q136
                      obtain rfl : ad134 = ad136 := (by injection e136)
                      replace p136 := eq_true p136
                      replace q136 := eq_true q136
                      have p137 : 0 ≤ (x7_7 : Int) := of_decide_eq_true (by first | (with_reducible assumption) | assumption)
                      have q137 : x7_7 < (l1.length : Int) := of_decide_eq_true (by first | (with_reducible assumption) | assumption)
                      obtain ⟨ad137, e137, hx137_0⟩ := Kd.at_int HR1.out x7_7 p137 q137
                      obtain rfl : ad135 = ad137 := (by injection e137)
                      replace p137 := eq_true p137
                      replace q137 := eq_true q137
                      go_wp2
                      repeat (go_quiet (fail); try go_wp2)
                      go_ret
                      exact ⟨by first | rfl | (simp; done) | (simp [*]; done), by repeat (first | exact Drawn0.refl _ | apply Drawn0.step)⟩
                    · rw [if_neg c18] at H
                      have c18b0 : decide ((rd l1 x7_7) < (rd l0 x7_7)) = false := decide_eq_false c18
                      clear c18
                      obtain rfl := Option.some.inj H
                      have p134 : 0 ≤ (x7_7 : Int) := of_decide_eq_true (by first | (with_reducible assumption) | assumption)
                      have q134 : x7_7 < (l0.length : Int) := of_decide_eq_true (by first | (with_reducible assumption) | assumption)
                      obtain ⟨ad134, e134, hx134_0⟩ := Kd.at_int HR0.out x7_7 p134 q134
                      cases e134
                      replace p134 := eq_true p134
                      replace q134 := eq_true q134
                      have p135 : 0 ≤ (x7_7 : Int) := of_decide_eq_true (by first | (with_reducible assumption) | assumption)
                      have q135 : x7_7 < (l1.length : Int) := of_decide_eq_true (by first | (with_reducible assumption) | assumption)
                      obtain ⟨ad135, e135, hx135_0⟩ := Kd.at_int HR1.out x7_7 p135 q135
                      cases e135
                      replace p135 := eq_true p135
                      replace q135 := eq_true q135
                      have p136 : 0 ≤ (x7_7 : Int) := of_decide_eq_true (by first | (with_reducible assumption) | assumption)
                      have q136 : x7_7 < (l0.length : Int) := of_decide_eq_true (by first | (with_reducible assumption) | assumption)
                      obtain ⟨ad136, e136, hx136_0⟩ := Kd.at_int HR0.out x7_7 p136 q136
                      obtain rfl : ad134 = ad136 := (by injection e136)
                      replace p136 := eq_true p136
                      replace q136 := eq_true q136
                      have p137 : 0 ≤ (x7_7 : Int) := of_decide_eq_true (by first | (with_reducible assumption) | assumption)
                      have q137 : x7_7 < (l1.length : Int) := of_decide_eq_true (by first | (with_reducible assumption) | assumption)
                      obtain ⟨ad137, e137, hx137_0⟩ := Kd.at_int HR1.out x7_7 p137 q137
                      obtain rfl : ad135 = ad137 := (by injection e137)
                      replace p137 := eq_true p137
                      replace q137 := eq_true q137
                      go_wp2
                      repeat (go_quiet (fail); try go_wp2)
                      go_ret
                      exact ⟨by first | rfl | (simp; done) | (simp [*]; done), by repeat (first | exact Drawn0.refl _ | apply Drawn0.step)⟩
                · rw [if_neg c16] at H
                  exact absurd H (by simp)
              · rw [if_neg c15] at H
                exact absurd H (by simp)
            · rw [if_neg c14] at H
              exact absurd H (by simp)
end Go.Proofs.YtflhdplfkpdejaaGreatFmt.F
namespace Go.Proofs.YtflhdplfkpdejaaGreatFmt
open Go.RowKit Go.Proofs.YtflhdplfkpdejaaGreatFmtW.PrintWords
theorem one_word {w : World} {v : Value} {o : Option Nat} {x : Int} (h : IsNat w v o x) (h0 : 0 < x) (h1 : x < 18446744073709551616) : ∃ b ys, o = some b ∧ v = .slice (some ⟨b, 0, none⟩) 1 ys.length ∧ Blk w b ys ∧ 1 ≤ ys.length ∧ ys.length ≤ most ∧ Nrm ys 1 ∧ ys.getD 0 0 = x := by
  rcases h.cases_ with ⟨rfl, _⟩ | ⟨_, b, n, ys, rfl, rfl, hb, hn, hny, hym, hr, hx⟩
  · omega
  · obtain rfl : n = 1 := by
      have := hr.low hn
      rw [hx] at this
      have := pow_lt (Int.lt_of_le_of_lt this (Int.lt_of_lt_of_le h1 (by decide : (18446744073709551616 : Int) ≤ 2 ^ 64)))
      omega
    have e1 : num (fun i => ys.getD i 0) 1 = ys.getD 0 0 := by simp [num]
    exact ⟨b, ys, rfl, rfl, hb, hny, hym, hr, by rw [← e1]; exact hx⟩
theorem kd_word {w : World} {b : Nat} {ys : List Int} (h : Blk w b ys) (hy : 1 ≤ ys.length) : Kd.C (Kd.int .u64) w (some ⟨b, 0, none⟩) [ys.getD 0 0].length [ys.getD 0 0] := by
  refine Kd.C_of_reads (d := 0) ⟨rfl, by simp, fun _ => ⟨_, rfl, fun j hj => ?_⟩⟩
  obtain rfl : j = 0 := by simp at hj; omega
  exact h.cell 0 (by omega)
theorem cmp_one (vx vy : Value) (ox oy : Option Nat) (x y : Int) (w : World) (hx : IsNat w vx ox x) (hy : IsNat w vy oy y) (hy0 : 0 < y) (hlt : y < x) (hx1 : x < 18446744073709551616) :
    Calls Tryz.prog 71 #[vx, vy] w fun e w' => e = .returned (.int .i64 1) ∧ ∃ n, w' = w.drewN n := by
  obtain ⟨b, ys, rfl, rfl, hb, h1, h2, h3, rfl⟩ := one_word hx (by omega) hx1
  obtain ⟨b', ys', rfl, rfl, hb', h1', h2', h3', rfl⟩ := one_word hy hy0 (by omega)
  have hf : F.big_nat_cmp.f 3 [ys.getD 0 0] [ys'.getD 0 0] = some 1 := by
    have w0 : wrap64 (1 - 1) = 0 := IntWalk.wrap64_in _ ⟨by decide, by decide⟩
    unfold F.big_nat_cmp.f F.big_nat_cmp.j0 F.big_nat_cmp.l0 F.big_nat_cmp.j2
    simp only [List.length_singleton, Int.natCast_one, w0, if_true]
    have e0 : ∀ a : Int, rd [a] 0 = a := fun a => rfl
    rw [e0, e0]
    have n1 : ¬ ys.getD 0 0 < ys'.getD 0 0 := by omega
    simp only [n1, if_false]
    rw [if_pos hlt]
    rfl
  refine (F.big_nat_cmp.calls 3 (some ⟨b, 0, none⟩) ys.length [ys.getD 0 0] (some ⟨b', 0, none⟩) ys'.length [ys'.getD 0 0] 1 w (kd_word hb h1) (by simpa using h1) (kd_word hb' h1') (by simpa using h1') hf).mono ?_
  rintro e w' ⟨rfl, h⟩
  exact ⟨rfl, h.out⟩
theorem sub_one (vz : Value) (oz : Option Nat) (vx vy : Value) (ox oy : Option Nat) (x y : Int) (w : World) (hz : Room w vz oz) (hx : IsNat w vx ox x) (hy : IsNat w vy oy y) (hy0 : 0 < y) (hlt : y < x) (hx1 : x < 18446744073709551616) :
    Calls Tryz.prog 64 #[vz, vx, vy] w (Got w oz (x - y)) := by
  obtain ⟨b, ys, rfl, rfl, hb, h1, h2, h3, rfl⟩ := one_word hx (by omega) hx1
  obtain ⟨b', ys', rfl, rfl, hb', h1', h2', h3', rfl⟩ := one_word hy hy0 (by omega)
  have e1 : ∀ zs : List Int, num (fun i => zs.getD i 0) 1 = zs.getD 0 0 := fun zs => by simp [num]
  have := sub_same vz oz b b' 1 ys ys' w hz hb hb' (by omega) h1 h1' (by omega) h3 h3' (by rw [e1, e1]; omega)
  rw [e1, e1] at this
  exact this
theorem some_words {w : World} {v : Value} {o : Option Nat} {x y : Int} (h : IsNat w v o (x - y)) (hlt : y < x) : ∃ b n ys, o = some b ∧ v = .slice (some ⟨b, 0, none⟩) n (ys : List Int).length ∧ 0 < n ∧ IsNat w (.slice (some ⟨b, 0, none⟩) n ys.length) o (x - y) := by
  rcases h.cases_ with ⟨h0, _⟩ | ⟨_, b, n, ys, rfl, rfl, hb, hn, hny, hym, hr, hx⟩
  · omega
  · exact ⟨b, n, ys, rfl, rfl, hn, h⟩
set_option maxRecDepth 100000 in
set_option maxHeartbeats 4000000 in
theorem add_opp (gz gx gy : Nat) (oz ox oy : Option Nat) (z x y : Int) (w : World) (hz : IsInt w gz oz z) (hx : IsInt w gx ox x) (hy : IsInt w gy oy y) (hy0 : 0 < y) (hlt : y < -x) (hx1 : -x < 18446744073709551616) :
    Calls Tryz.prog 49 #[.pointer (some ⟨gz, 0, none⟩), .pointer (some ⟨gx, 0, none⟩), .pointer (some ⟨gy, 0, none⟩)] w fun e w' => e = .returned (.pointer (some ⟨gz, 0, none⟩)) ∧ Put w w' gz oz (x + y) := by
  have hn1 : ∀ n, Only w (w.drewN n) (fun _ => False) := fun n => (Only.refl w (fun _ => False)).drewN n
  have T : ∀ n, Only w (w.drewN n) (fun _ => False) ∧ IsInt (w.drewN n) gz oz z ∧ IsInt (w.drewN n) gx ox x ∧ IsInt (w.drewN n) gy oy y := fun n => ⟨hn1 n, hz.only (hn1 n) (fun h => h) (fun _ _ h => h), hx.only (hn1 n) (fun h => h) (fun _ _ h => h), hy.only (hn1 n) (fun h => h) (fun _ _ h => h)⟩
  have d0 : w.cell? ⟨gx, 0, none⟩ = some (.bool true) := by
    obtain ⟨vx, hgx, hnx⟩ := hx
    have := blk_cell hgx 0
    rw [decide_eq_true (by omega)] at this
    exact this
  have e0 : w.cell? ⟨gy, 0, none⟩ = some (.bool false) := by
    obtain ⟨vy, hgy, hny⟩ := hy
    have := blk_cell hgy 0
    rw [decide_eq_false (by omega)] at this
    exact this
  have HT := Lib.hid T
  have HL := Lib.hid (And.intro hy0 (And.intro hlt hx1))
  clear T hz hx hy hn1
  go_enter Tryz.func49, Tryz.ntmps49
  go_wp2_with fail
  go_quiet (fail)
  go_wp2_with fail
  clear d0 e0
  obtain ⟨hoW, hz, hx, hy⟩ := HT.out nq
  generalize w.drewN nq = W at *
  obtain ⟨vz, hgz, hnz⟩ := id hz
  obtain ⟨vx, hgx, hnx⟩ := id hx
  obtain ⟨vy, hgy, hny⟩ := id hy
  have ax : ((Int.natAbs x : Nat) : Int) = -x := by omega
  have ay : ((Int.natAbs y : Nat) : Int) = y := by omega
  have az : ((Int.natAbs (x + y) : Nat) : Int) = -x - y := by omega
  rw [ax] at hnx
  rw [ay] at hny
  have HAZ := Lib.hid az
  clear ax ay az
  have c1 : W.cell? ⟨gz, 1, none⟩ = some vz := blk_cell hgz 1
  have d1 : W.cell? ⟨gx, 1, none⟩ = some vx := blk_cell hgx 1
  have e1 : W.cell? ⟨gy, 1, none⟩ = some vy := blk_cell hgy 1
  have HCM := Lib.hid (fun n => cmp_one vx vy ox oy (-x) y (W.drewN n) (hnx.only ((Only.refl W (fun _ => False)).drewN n) (fun _ _ h => h)) (hny.only ((Only.refl W (fun _ => False)).drewN n) (fun _ _ h => h)) HL.out.1 HL.out.2.1 HL.out.2.2)
  go_quiet ((go_at_call 71; exact Calls.quiet_of (HCM.out _)))
  go_wp2_with fail
  have hoW2 := hoW.drewN nq
  have hn2 := (Only.refl W (fun _ => False)).drewN nq
  have hz2 := hz.only hn2 (fun h => h) (fun _ _ h => h)
  have hx2 := hnx.only hn2 (fun _ _ h => h)
  have hy2 := hny.only hn2 (fun _ _ h => h)
  have hgz2 : (W.drewN nq).heap[gz]? = _ := hgz
  have hgx2 : (W.drewN nq).heap[gx]? = _ := hgx
  have hgy2 : (W.drewN nq).heap[gy]? = _ := hgy
  have hnz2 := hnz.only hn2 (fun _ _ h => h)
  clear c1 d1 e1 hn2 hz hx hy hnx hny hnz hgx hgy hgz
  generalize W.drewN nq = V at *
  have c1 : V.cell? ⟨gz, 1, none⟩ = some vz := blk_cell hgz2 1
  have d1 : V.cell? ⟨gx, 1, none⟩ = some vx := blk_cell hgx2 1
  have e1 : V.cell? ⟨gy, 1, none⟩ = some vy := blk_cell hgy2 1
  have HSU := Lib.hid (sub_one vz oz vx vy ox oy (-x) y V.drew hnz2.drew.room hx2.drew hy2.drew HL.out.1 HL.out.2.1 HL.out.2.2)
  have K : ∀ w1, Only V.drew w1 (fun k => oz = some k) → w1.cell? ⟨gz, 1, none⟩ = some vz ∧ w1.frozen? ⟨gz, 1, none⟩ = false ∧ w1.frozen? ⟨gz, 0, none⟩ = false ∧ w1.cell? ⟨gz, 0, none⟩ = some (.bool (decide (z < 0))) := fun w1 ho => by
    have h := blk_held hnz2 hgz2 ho
    exact ⟨blk_cell h 1, blk_frozen h 1, blk_frozen h 0, blk_cell h 0⟩
  have HK := Lib.hid K
  clear K
  go_region_law (go_simp; go_at_call 64; refine HSU.out.mono ?_; rintro e w1 ⟨v, o', rfl, hv, ho, hoo⟩; obtain ⟨b, n, ys, hob, rfl, hn0, HV⟩ := some_words hv HL.out.2.1; obtain ⟨k1, k2, k3, k4⟩ := HK.out _ ho)
  all_goals
    have hd : decide ((n : Int) > 0) = true := by simp; omega
    go_wp2_with fail
    go_ret
    have h := Put.from_drew (r := x + y) hz2 (o' := o') (by rw [HAZ.out]; exact HV) ho hoo
    rw [decide_eq_true (by have := HL.out; omega)] at h
    exact ⟨rfl, h.after hoW2⟩
end Go.Proofs.YtflhdplfkpdejaaGreatFmt
