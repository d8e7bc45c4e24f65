/- Part 12 of the walk of ExactOnes: IntH IntI. -/
import Derived.Test.YtflhdplfkpdejaaGreatFmtPart11
namespace Go.Proofs.YtflhdplfkpdejaaGreatFmt
open Go.RowKit Go.Proofs.YtflhdplfkpdejaaGreatFmtW.PrintWords
theorem lsh0_nat (vx : Value) (ox : Option Nat) (x : Int) (w : World) (hx : IsNat w vx ox x) (hf : Fits x) (hp : 0 < x) :
    Calls Tryz.prog 60 #[.slice none 0 0, vx, .int .u64 0] w (Got w none x) := by
  have hmm : most = 274877906944 := rfl
  rcases hx.cases_ with ⟨rfl, A, c, rfl⟩ | ⟨_, b, n, ys, rfl, rfl, hb, hn, hny, hym, hr, rfl⟩
  · omega
  · have := hr.short hf
    exact lsh_none b n ys.length ys w hb hn hny (by omega) hr
set_option maxRecDepth 100000 in
set_option maxHeartbeats 2000000 in
theorem lsh0_int (gz gx : Nat) (ox : Option Nat) (x : Int) (w : World) (hz : IsInt w gz none 0) (hx : IsInt w gx ox x) (hf : Fits (Int.natAbs x)) (hp : x ≠ 0) :
    Calls Tryz.prog 37 #[.pointer (some ⟨gz, 0, none⟩), .pointer (some ⟨gx, 0, none⟩), .int .u64 0] w fun e w' => e = .returned (.pointer (some ⟨gz, 0, none⟩)) ∧ Put w w' gz none x := by
  obtain ⟨vz, hgz, hnz⟩ := id hz
  obtain ⟨vx, hgx, hnx⟩ := id hx
  have hx1 := hnx.drew
  obtain rfl : vz = .slice none 0 0 := by
    cases hnz with
    | nil => rfl
  have c1 : w.cell? ⟨gz, 1, none⟩ = some (.slice none 0 0) := blk_cell hgz 1
  have d1 : w.cell? ⟨gx, 1, none⟩ = some vx := blk_cell hgx 1
  have K : ∀ w1, Only w.drew w1 (fun k => (none : Option Nat) = some k) → w1.cell? ⟨gz, 1, none⟩ = some (.slice none 0 0) ∧ w1.frozen? ⟨gz, 1, none⟩ = false ∧ w1.frozen? ⟨gz, 0, none⟩ = false ∧ w1.cell? ⟨gz, 0, none⟩ = some (.bool (decide ((0 : Int) < 0))) ∧ w1.cell? ⟨gx, 0, none⟩ = some (.bool (decide (x < 0))) := fun w1 ho => by
    have e1 := blk_held hnz hgz ho
    have e2 := blk_held hnz hgx ho
    exact ⟨blk_cell e1 1, blk_frozen e1 1, blk_frozen e1 0, blk_cell e1 0, blk_cell e2 0⟩
  have HK := Lib.hid K
  have HL := Lib.hid (lsh0_nat vx ox _ w.drew hx1 hf (by omega))
  clear K
  go_enter Tryz.func37, Tryz.ntmps37
  go_wp2_with fail
  go_region_law (go_simp; go_at_call 60; refine HL.out.mono ?_; rintro e w1 ⟨v, o', rfl, hv, ho, hoo⟩; obtain ⟨A, n, c, rfl⟩ := hv.slice_; obtain ⟨k1, k2, k3, k4, k5⟩ := HK.out _ ho)
  all_goals
    go_wp2_with fail
    go_ret
    exact ⟨rfl, Put.from_drew hz (o' := o') hv ho hoo⟩
end Go.Proofs.YtflhdplfkpdejaaGreatFmt
namespace Go.Proofs.YtflhdplfkpdejaaGreatFmt
open Go.RowKit Go.Proofs.YtflhdplfkpdejaaGreatFmtW.PrintWords
theorem two_words {w : World} {v : Value} {o : Option Nat} (h : IsNat w v o 36893488147419103232) : ∃ b ys, o = some b ∧ v = .slice (some ⟨b, 0, none⟩) 2 ys.length ∧ Blk w b ys ∧ 2 ≤ ys.length ∧ ys.getD 0 0 = 0 ∧ ys.getD 1 0 = 2 := by
  rcases h.cases_ with ⟨h0, _⟩ | ⟨_, b, n, ys, rfl, rfl, hb, hn, hny, hym, hr, hx⟩
  · omega
  · have a := hr.low hn
    have c := num_range n hr.1
    rw [hx] at a c
    have h1 := pow_lt (Int.lt_of_le_of_lt a (by decide : (36893488147419103232 : Int) < 2 ^ 66))
    have h2 : (2 : Int) ^ 65 = 36893488147419103232 := by decide
    rw [← h2] at c
    have h3 := pow_lt c.2
    obtain rfl : n = 2 := by omega
    have w0 : 0 ≤ ys.getD 0 0 ∧ ys.getD 0 0 < 18446744073709551616 := hr.1 0 (by omega)
    have w1 : 0 ≤ ys.getD 1 0 ∧ ys.getD 1 0 < 18446744073709551616 := hr.1 1 (by omega)
    have hx : 0 + ys.getD 0 0 * 2 ^ (64 * 0) + ys.getD 1 0 * 2 ^ (64 * 1) = 36893488147419103232 := hx
    have e : (2 : Int) ^ (64 * 1) = 18446744073709551616 := by decide
    rw [Nat.mul_zero, Int.pow_zero, e] at hx
    refine ⟨b, ys, rfl, rfl, hb, hny, ?_, ?_⟩ <;> omega
set_option maxRecDepth 100000 in
set_option maxHeartbeats 4000000 in
theorem div_nat_lit (vu vv : Value) (ou ov : Option Nat) (w : World) (hu : IsNat w vu ou 36893488147419103232) (hv : IsNat w vv ov 3) :
    Calls Tryz.prog 59 #[.slice none 0 0, .pointer none, .slice none 0 0, vu, vv] w fun e w' => ∃ vq bq vr br, e = .returned (.tuple #[vq, vr]) ∧ IsNat w' vq (some bq) 12297829382473034410 ∧ IsNat w' vr (some br) 2 ∧ w.heap.size ≤ bq ∧ w.heap.size ≤ br ∧ Only w w' (fun _ => False) := by
  obtain ⟨bu, xs, rfl, rfl, hbu, hl, h0, h1⟩ := two_words hu
  obtain ⟨bv, ys, rfl, rfl, hbv, hlv, _, _, hy⟩ := one_word hv (by decide) (by decide)
  have c0 : w.cell? ⟨bv, 0, none⟩ = some (.int .u64 3) := by rw [hbv.cell 0 (by omega), hy]
  have HD := Lib.hid (divW_lit bu xs.length xs w hbu hl h0 h1)
  clear hbu hbv hu hv
  go_enter Tryz.func59, Tryz.ntmps59
  go_wp2_with fail
  refine HD.out.mono ?_
  rintro e w1 ⟨vq, bq, rfl, hq, hbq, ho1⟩
  go_wp2_with fail
  refine (setWord_2 w1).mono ?_
  rintro e w2 ⟨br, cr, rfl, hr, hbr, ho2⟩
  go_wp2_with fail
  go_ret2
  refine ⟨vq, bq, _, br, rfl, hq.only ho2 (fun _ _ h => h), hr, hbq, ?_, ho1.trans ho2⟩
  have := ho1.base.size
  omega
theorem lshb_nat (vx : Value) (ox : Option Nat) (x : Int) (q r : Nat) (w : World) (hx : IsNat w vx ox x) (hf : Fits x) (hp : 0 < x) (hq : 0 < q) (hq2 : q ≤ 1073741824) (hr : 0 < r) (hr2 : r < 64) :
    Calls Tryz.prog 60 #[.slice none 0 0, vx, .int .u64 ((64 * q + r : Nat) : Int)] w (Got w none (x * 2 ^ (64 * q + r))) := by
  have hmm : most = 274877906944 := rfl
  rcases hx.cases_ with ⟨rfl, A, c, rfl⟩ | ⟨_, b, n, ys, rfl, rfl, hb, hn, hny, hym, hr', rfl⟩
  · omega
  · have := hr'.short hf
    exact lsh_big b n ys.length q r ys w hb hn hny (by omega) hr'.1 hq hr hr2
set_option maxRecDepth 100000 in
set_option maxHeartbeats 4000000 in
theorem lshb_int (gz gx : Nat) (ox : Option Nat) (x : Int) (q r s : Nat) (w : World) (hz : IsInt w gz none 0) (hx : IsInt w gx ox x) (hf : Fits (Int.natAbs x)) (hp : x ≠ 0) (hq : 0 < q) (hq2 : q ≤ 1073741824) (hr : 0 < r) (hr2 : r < 64) (hs : s = 64 * q + r) :
    Calls Tryz.prog 37 #[.pointer (some ⟨gz, 0, none⟩), .pointer (some ⟨gx, 0, none⟩), .int .u64 (s : Int)] w fun e w' => e = .returned (.pointer (some ⟨gz, 0, none⟩)) ∧ Put w w' gz none (x * 2 ^ s) := by
  obtain ⟨vz, hgz, hnz⟩ := id hz
  obtain ⟨vx, hgx, hnx⟩ := id hx
  have hx1 := hnx.drew
  obtain rfl : vz = .slice none 0 0 := by
    cases hnz with
    | nil => rfl
  have c1 : w.cell? ⟨gz, 1, none⟩ = some (.slice none 0 0) := blk_cell hgz 1
  have d1 : w.cell? ⟨gx, 1, none⟩ = some vx := blk_cell hgx 1
  have K : ∀ w1, Only w.drew w1 (fun k => (none : Option Nat) = some k) → w1.cell? ⟨gz, 1, none⟩ = some (.slice none 0 0) ∧ w1.frozen? ⟨gz, 1, none⟩ = false ∧ w1.frozen? ⟨gz, 0, none⟩ = false ∧ w1.cell? ⟨gz, 0, none⟩ = some (.bool (decide ((0 : Int) < 0))) ∧ w1.cell? ⟨gx, 0, none⟩ = some (.bool (decide (x * 2 ^ s < 0))) := fun w1 ho => by
    have e1 := blk_held hnz hgz ho
    have e2 := blk_held hnz hgx ho
    exact ⟨blk_cell e1 1, blk_frozen e1 1, blk_frozen e1 0, blk_cell e1 0, by rw [sign_pow]; exact blk_cell e2 0⟩
  have HK := Lib.hid K
  have hL := lshb_nat vx ox _ q r w.drew hx1 hf (by omega) hq hq2 hr hr2
  rw [← hs] at hL
  have HL := Lib.hid hL
  clear K hL hs
  go_enter Tryz.func37, Tryz.ntmps37
  go_wp2_with fail
  go_region_law (go_simp; go_at_call 60; refine HL.out.mono ?_; rintro e w1 ⟨v, o', rfl, hv, ho, hoo⟩; obtain ⟨A, n, c, rfl⟩ := hv.slice_; obtain ⟨k1, k2, k3, k4, k5⟩ := HK.out _ ho)
  all_goals
    go_wp2_with fail
    go_ret
    refine ⟨rfl, Put.from_drew hz (o' := o') ?_ ho hoo⟩
    rw [natAbs_pow]; exact hv
end Go.Proofs.YtflhdplfkpdejaaGreatFmt
