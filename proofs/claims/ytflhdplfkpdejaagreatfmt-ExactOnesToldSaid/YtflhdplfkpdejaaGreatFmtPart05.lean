/- Part 5 of the walk of ExactOnes: NatN IntD IntE IntF ExA. -/
import Derived.Test.YtflhdplfkpdejaaGreatFmtPart04
import Derived.Lib.Builder
namespace Go.Proofs.YtflhdplfkpdejaaGreatFmt
open Go.RowKit Go.Proofs.YtflhdplfkpdejaaGreatFmtW.PrintWords
theorem ret_int {k : IntKind} {a b : Int} (h : a = b) : Ending.returned (.int k a) = .returned (.int k b) := by rw [h]
def BLen (x : Int) (k : Nat) : Prop := x < 2 ^ k ∧ (0 < k → 2 ^ (k - 1) ≤ x)
theorem BLen.zero : BLen 0 0 := ⟨by decide, fun h => by omega⟩
theorem BLen.unique {x : Int} {k j : Nat} (h : BLen x k) (h' : BLen x j) : k = j := by
  have key : ∀ {x : Int} {k j : Nat}, BLen x k → BLen x j → k ≤ j := by
    intro x k j h h'
    rcases Nat.lt_or_ge j k with h1 | h1
    · have := pow_lt (Int.lt_of_le_of_lt (h.2 (by omega)) h'.1)
      omega
    · exact h1
  exact Nat.le_antisymm (key h h') (key h' h)
theorem bitLenAux_spec : ∀ (f x : Nat), x < 2 ^ f → x < 2 ^ Lib.bitLenAux f x ∧ (0 < Lib.bitLenAux f x → 2 ^ (Lib.bitLenAux f x - 1) ≤ x)
  | 0, x, h => by simp [Lib.bitLenAux] at h ⊢; exact h
  | f + 1, x, h => by
    unfold Lib.bitLenAux
    split
    · rename_i h0; subst h0; simp
    · rename_i h0
      obtain ⟨h1, h2⟩ := bitLenAux_spec f (x / 2) (by rw [Nat.pow_succ] at h; omega)
      generalize Lib.bitLenAux f (x / 2) = k at *
      refine ⟨by rw [Nat.add_comm, Nat.pow_succ]; omega, fun _ => ?_⟩
      rw [Nat.add_comm, Nat.add_sub_cancel]
      by_cases hk : 0 < k
      · have := h2 hk
        obtain ⟨m, rfl⟩ : ∃ m, k = m + 1 := ⟨k - 1, by omega⟩
        rw [Nat.add_sub_cancel] at this
        rw [Nat.pow_succ]; omega
      · obtain rfl : k = 0 := by omega
        simp; omega
theorem bitLen_spec (x : Nat) (h : x < 18446744073709551616) : BLen (x : Int) (Lib.bitLen x) := by
  obtain ⟨h1, h2⟩ := bitLenAux_spec 64 x h
  refine ⟨?_, fun hk => ?_⟩
  · rw [two_pow_cast]; exact Int.ofNat_lt.2 h1
  · rw [two_pow_cast]; exact Int.ofNat_le.2 (h2 hk)
theorem smear (t u : Int) (k : Nat) (hk : k ≤ 64) (lo : Int) (h0 : 0 ≤ lo) (hu : 0 ≤ u) (hut : u ≤ t) (h : lo ≤ t ∧ t < 2 ^ k) : lo ≤ bits .or .u64 t u ∧ bits .or .u64 t u < 2 ^ k := by
  obtain ⟨x, rfl⟩ : ∃ x : Nat, t = x := ⟨t.toNat, by omega⟩
  obtain ⟨y, rfl⟩ : ∃ y : Nat, u = y := ⟨u.toNat, by omega⟩
  obtain ⟨h1, h2⟩ := h
  rw [two_pow_cast] at h2 ⊢
  have h3 : x < 2 ^ k := Int.ofNat_lt.1 h2
  have hp : 2 ^ k ≤ 2 ^ 64 := Nat.pow_le_pow_right (by omega) hk
  rw [u64_or_nat _ _ (by omega) (by omega)]
  have h5 : x ||| y < 2 ^ k := Nat.or_lt_two_pow h3 (by omega)
  have h6 : x ≤ x ||| y := Nat.left_le_or
  omega
theorem top_bits (f : Nat → Int) (m k : Nat) (hf : Wd f (m + 1)) (h : BLen (f m) k) (hk : 0 < k) : BLen (num f (m + 1)) (64 * m + k) := by
  obtain ⟨h0, h1⟩ := num_range m fun i hi => hf i (by omega)
  have hp : (0 : Int) < 2 ^ (64 * m) := Int.pow_pos (by omega)
  rw [num]
  refine ⟨?_, fun _ => ?_⟩
  · rw [Int.pow_add, Int.mul_comm (2 ^ (64 * m))]
    have : (f m + 1) * 2 ^ (64 * m) ≤ 2 ^ k * 2 ^ (64 * m) := Int.mul_le_mul_of_nonneg_right (by have := h.1; omega) (Int.le_of_lt hp)
    rw [Int.add_mul, Int.one_mul] at this
    omega
  · rw [show 64 * m + k - 1 = 64 * m + (k - 1) by omega, Int.pow_add, Int.mul_comm (2 ^ (64 * m))]
    have : 2 ^ (k - 1) * 2 ^ (64 * m) ≤ f m * 2 ^ (64 * m) := Int.mul_le_mul_of_nonneg_right (h.2 hk) (Int.le_of_lt hp)
    omega
set_option maxRecDepth 100000 in
set_option maxHeartbeats 1000000 in
theorem bitLen_words (b n : Nat) (ys : List Int) (w : World) (hb : Blk w b ys) (hn : 0 < n) (hny : n ≤ ys.length) (hm : n ≤ 16777217) (hr : Nrm ys n) :
    Calls Tryz.prog 58 #[.slice (some ⟨b, 0, none⟩) n ys.length] w fun e w' => (∃ k : Nat, e = .returned (.int .i64 k) ∧ BLen (num (fun i => ys.getD i 0) n) k ∧ k ≤ 64 * n) ∧ w' = w := by
  obtain ⟨m, rfl⟩ : ∃ m, n = m + 1 := ⟨n - 1, by omega⟩
  have hc := hb.cell m (by omega)
  have ht := hr.1 m (by omega)
  have ht0 := hr.2 hn
  rw [Nat.add_sub_cancel] at ht0
  simp only at ht
  have hnum := top_bits (fun i => ys.getD i 0) m (Lib.bitLen (ys.getD m 0).toNat) hr.1
  have hbt := bitLen_spec (ys.getD m 0).toNat (by omega)
  have h64 : Lib.bitLen (ys.getD m 0).toNat ≤ 64 := Lib.bitLen_le _ 64 (by omega) (by omega)
  rw [Int.toNat_of_nonneg ht.1] at hbt
  have hpos : 0 < Lib.bitLen (ys.getD m 0).toNat := by
    rcases Nat.eq_zero_or_pos (Lib.bitLen (ys.getD m 0).toNat) with h | h
    · have := hbt.1
      rw [h, Int.pow_zero] at this
      omega
    · exact h
  have H := Lib.hid (And.intro (hnum hbt hpos) (And.intro hbt (And.intro h64 hpos)))
  have HT := Lib.hid (And.intro ht ht0)
  clear hnum hbt h64 hpos ht ht0
  generalize hx : ys.getD m 0 = t at hc
  have HX := Lib.hid hx
  clear hx
  have i0 : ((m : Int) + 1 - 1) = m := by omega
  go_enter Tryz.func58, Tryz.ntmps58
  go_wp2_with fail
  have hT : ∀ T : Int, (2 ^ (Lib.bitLen t.toNat - 1) ≤ T ∧ T < 2 ^ Lib.bitLen t.toNat) → Calls Tryz.prog 84 #[.int .u64 T] w fun e w' => e = .returned (.int .i64 (Lib.bitLen t.toNat)) ∧ w' = w := by
    intro T hT
    have h := H.out
    rw [HX.out] at h
    obtain ⟨_, hbt, h64, hpos⟩ := h
    have hp : (2 : Int) ^ Lib.bitLen t.toNat ≤ 2 ^ 64 := by
      rw [two_pow_cast, two_pow_cast]
      exact Int.ofNat_le.2 (Nat.pow_le_pow_right (by omega) h64)
    have e64 : (2 : Int) ^ 64 = 18446744073709551616 := by decide
    have hq : (0 : Int) < 2 ^ (Lib.bitLen t.toNat - 1) := Int.pow_pos (by omega)
    refine (len_any T w (by omega) (by omega)).mono ?_
    rintro e w' ⟨rfl, rfl⟩
    have hs := bitLen_spec T.toNat (by omega)
    rw [Int.toNat_of_nonneg (by omega)] at hs
    rw [hs.unique ⟨hT.2, fun _ => hT.1⟩]
    exact ⟨rfl, rfl⟩
  refine (hT _ ?_).mono ?_
  · have h := H.out
    rw [HX.out] at h
    obtain ⟨_, hbt, h64, hpos⟩ := h
    have hlo : (0 : Int) ≤ 2 ^ (Lib.bitLen t.toNat - 1) := Int.le_of_lt (Int.pow_pos (by omega))
    have sm : ∀ (T : Int) (c : Int), 0 < c → (2 ^ (Lib.bitLen t.toNat - 1) ≤ T ∧ T < 2 ^ Lib.bitLen t.toNat) → 2 ^ (Lib.bitLen t.toNat - 1) ≤ bits .or .u64 T (T / c) ∧ bits .or .u64 T (T / c) < 2 ^ Lib.bitLen t.toNat := fun T c hc h => smear T _ _ h64 _ hlo (Int.ediv_nonneg (by omega) (by omega)) (Int.ediv_le_self _ (by omega)) h
    have s5 := sm _ 65536 (by omega) (sm _ 256 (by omega) (sm _ 16 (by omega) (sm _ 4 (by omega) (sm t 2 (by omega) ⟨hbt.2 hpos, hbt.1⟩))))
    refine smear _ _ _ h64 _ hlo ?_ ?_ s5
    · exact Int.ediv_nonneg (Int.ediv_nonneg (by omega) (by omega)) (by omega)
    · exact Int.le_trans (Int.ediv_le_self _ (Int.ediv_nonneg (by omega) (by omega))) (Int.ediv_le_self _ (by omega))
  · rintro e w' ⟨rfl, rfl⟩
    clear hT
    have h := H.out
    rw [HX.out] at h
    obtain ⟨hnum, _, h64, _⟩ := h
    have HN := Lib.hid hnum
    clear hnum
    go_wp2
    go_ret
    have hn := HN.out
    exact ⟨⟨64 * m + Lib.bitLen t.toNat, ret_int (by omega), hn, by omega⟩, rfl⟩
theorem bitLen_nat (vx : Value) (ox : Option Nat) (x : Int) (w : World) (hx : IsNat w vx ox x) (hf : Fits x) :
    Calls Tryz.prog 58 #[vx] w fun e w' => (∃ k : Nat, e = .returned (.int .i64 k) ∧ BLen x k ∧ k ≤ 1073741888) ∧ w' = w := by
  rcases hx.cases_ with ⟨rfl, A, c, rfl⟩ | ⟨_, b, n, ys, rfl, rfl, hb, hn, hny, hym, hr, rfl⟩
  · go_enter Tryz.func58, Tryz.ntmps58
    go_wp2
    go_ret
    exact ⟨⟨0, rfl, .zero, by omega⟩, rfl⟩
  · have := hr.short hf
    refine (bitLen_words b n ys w hb hn hny this hr).mono ?_
    rintro e w' ⟨⟨k, he, hk, hk2⟩, hw⟩
    exact ⟨⟨k, he, hk, by omega⟩, hw⟩
def Low (x : Int) (t : Nat) : Prop := ∃ q : Int, x = q * 2 ^ t ∧ q % 2 = 1
theorem ctz_spec (x : Nat) (h : x < 18446744073709551616) (h0 : x ≠ 0) : Low (x : Int) (Lib.ctz 64 x) ∧ Lib.ctz 64 x < 64 := by
  obtain ⟨m, hm, hk⟩ := Lib.ctzFrom_spec 64 x (by omega) h
  have e : Lib.ctz 64 x = Lib.ctzFrom 64 x := by simp [Lib.ctz, h0]
  rw [e]
  refine ⟨⟨2 * m + 1, ?_, by omega⟩, hk⟩
  rw [two_pow_cast, Int.mul_comm]
  exact_mod_cast hm
theorem low_num (f : Nat → Int) (m n t : Nat) (hz : ∀ i, i < m → f i = 0) (h : Low (f m) t) (ht : t < 64) : Low (num f (m + 1 + n)) (64 * m + t) := by
  obtain ⟨q, hq, h2⟩ := h
  refine ⟨q + num (fun i => f (m + 1 + i)) n * 2 ^ (64 - t), ?_, ?_⟩
  · rw [num_add, num, num_zero m hz, hq, Int.add_mul, Int.mul_assoc (num _ _), ← Int.pow_add, show 64 - t + (64 * m + t) = 64 * (m + 1) by omega, Int.zero_add, Int.mul_assoc, ← Int.pow_add, Nat.add_comm t]
  · have e : (2 : Int) ^ (64 - t) = 2 ^ (63 - t) * 2 := by rw [show 64 - t = 63 - t + 1 by omega, Int.pow_succ]
    rw [e, ← Int.mul_assoc, Int.add_mul_emod_self_right, h2]
set_option maxRecDepth 100000 in
set_option maxHeartbeats 1000000 in
theorem tz_words (b n : Nat) (ys : List Int) (w : World) (hb : Blk w b ys) (hn : 0 < n) (hny : n ≤ ys.length) (hm : n ≤ 16777217) (hr : Nrm ys n) (hT : Tab w) :
    Calls Tryz.prog 63 #[.slice (some ⟨b, 0, none⟩) n ys.length] w fun e w' => ∃ t : Nat, e = .returned (.int .u64 t) ∧ Low (num (fun i => ys.getD i 0) n) t ∧ t ≤ 64 * n ∧ Only w w' (fun _ => False) := by
  have h1 : ((n : Int) == 0) = false := by rw [beq_eq_false_iff_ne]; omega
  have HB := Only.refl w (fun _ => False)
  have htop := hr.2 hn
  have HTOP := Lib.hid htop
  have hT1 : ∀ x : Int, 0 ≤ x → x < 18446744073709551616 → x ≠ 0 → ∀ w1, w1.heap = w.heap → Calls Tryz.prog 96 #[.int .u64 x] w1 fun e w' => (∃ t : Nat, e = .returned (.int .i64 t) ∧ Low x t ∧ t < 64) ∧ w' = w1 := by
    intro x h0 h2 h3 w1 hw
    obtain ⟨y, rfl⟩ : ∃ y : Nat, x = y := ⟨x.toNat, by omega⟩
    refine (tz_any y (by omega) (by omega) w1 (hT.of (by rw [hw]))).mono ?_
    rintro e w' ⟨rfl, rfl⟩
    obtain ⟨a, b⟩ := ctz_spec y (by omega) (by omega)
    exact ⟨⟨_, rfl, a, b⟩, rfl⟩
  clear htop
  go_enter Tryz.func63, Tryz.ntmps63
  go_wp2_with fail
  go_loop [3] (fun i => ∃ k : Nat, k < n ∧ i = .int .u64 k ∧ ∀ j, j < k → ys.getD j 0 = 0) (fun i => n - (intOf i).toNat)
  case atStart => exact ⟨0, hn, rfl, fun j h => by omega⟩
  case round =>
    obtain ⟨k, hk, rfl, hz⟩ := hrel
    have HZ := Lib.hid hz
    clear hz
    have hcell := hb.cell k (by omega)
    have hw := hr.1 k hk
    simp only at hw
    generalize hx : ys.getD k 0 = x at hcell hw
    have HX := Lib.hid hx
    clear hx
    by_cases h0 : x = 0
    · subst h0
      have hk1 : k + 1 < n := by
        rcases Nat.lt_or_ge (k + 1) n with h | h
        · exact h
        · have e : n - 1 = k := by omega
          have h1 := HTOP.out
          rw [e, HX.out] at h1
          exact absurd rfl h1
      go_wp2_with fail
      go_round
      case rel =>
        refine ⟨k + 1, hk1, by go_num, fun j hj => ?_⟩
        by_cases e : j = k
        · rw [e]; exact HX.out
        · exact HZ.out j (by omega)
      case measure => simp [intOf]; omega
    · have hx0 : (x == 0) = false := by rw [beq_eq_false_iff_ne]; exact h0
      go_wp2_with fail
      refine (hT1 x hw.1 hw.2 h0 w rfl).mono ?_
      rintro e w1 ⟨⟨t, rfl, hl, ht⟩, rfl⟩
      go_wp2_with fail
      go_ret
      refine ⟨64 * k + t, ret_int (by omega), ?_, by omega, HB⟩
      obtain ⟨m, rfl⟩ : ∃ m, n = k + 1 + m := ⟨n - (k + 1), by omega⟩
      refine low_num (fun i => ys.getD i 0) k m t HZ.out ?_ ht
      show Low (ys.getD k 0) t
      rw [HX.out]; exact hl
theorem tz_nat (vx : Value) (ox : Option Nat) (x : Int) (w : World) (hx : IsNat w vx ox x) (hp : 0 < x) (hf : Fits x) (hT : Tab w) :
    Calls Tryz.prog 63 #[vx] w fun e w' => ∃ t : Nat, e = .returned (.int .u64 t) ∧ Low x t ∧ t ≤ 1073741888 ∧ Only w w' (fun _ => False) := by
  rcases hx.cases_ with ⟨rfl, A, c, rfl⟩ | ⟨_, b, n, ys, rfl, rfl, hb, hn, hny, hym, hr, rfl⟩
  · omega
  · have := hr.short hf
    refine (tz_words b n ys w hb hn hny this hr hT).mono ?_
    rintro e w' ⟨t, he, ht, ht2, ho⟩
    exact ⟨t, he, ht, by omega, ho⟩
end Go.Proofs.YtflhdplfkpdejaaGreatFmt
namespace Go.Proofs.YtflhdplfkpdejaaGreatFmt
open Go.RowKit Go.Proofs.YtflhdplfkpdejaaGreatFmtW.PrintWords
theorem rsh_any {y : Int} (vz : Value) (oz : Option Nat) (vx : Value) (ox : Option Nat) (x : Int) (s : Nat) (w : World) (hz : IsNat w vz oz y) (hx : IsNat w vx ox x) (hf : Fits x) (hs : 0 < s ∨ (oz = none ∧ 0 < x)) (hs2 : s < 1099511627776) :
    Calls Tryz.prog 65 #[vz, vx, .int .u64 (s : Int)] w (Got w oz (x / 2 ^ s)) := by
  by_cases h : 0 < s
  · exact rsh_nat vz oz vx ox x s w hz.room hx hf h hs2
  · obtain rfl : s = 0 := by omega
    obtain ⟨rfl, hp⟩ := hs.resolve_left h
    have hmm : most = 274877906944 := rfl
    rw [Int.pow_zero, Int.ediv_one]
    cases hz with
    | nil =>
      rcases hx.cases_ with ⟨rfl, A, c, rfl⟩ | ⟨_, b, n, ys, rfl, rfl, hb, hn, hny, hym, hr, rfl⟩
      · omega
      · have := hr.short hf
        exact rsh_none b n ys.length ys w hb hn hny (by omega) hr
theorem int_info : ∃ j, Tryz.prog.info? 76 = some j ∧ j.size ≠ 0 := by
  have h : (Tryz.prog.info? 76).map (fun i => i.size) = some 2 := by kernel_rfl
  obtain ⟨j, hj, h2⟩ := Option.map_eq_some_iff.1 h
  exact ⟨j, hj, by rw [h2]; decide⟩
theorem neq_other (a b : Nat) (ca cb : Array Value) (w : World) (hne : a ≠ b) (ha : w.heap[a]? = some (.cells ca 76 (0, 0))) (hb : w.heap[b]? = some (.cells cb 76 (0, 0))) :
    (binOp .neq 59 (.pointer (some ⟨a, 0, none⟩)) (.pointer (some ⟨b, 0, none⟩))).run Tryz.prog w = .ok (.bool true) w := by
  obtain ⟨j, hj, hs⟩ := int_info
  have hn : (⟨a, 0, none⟩ : Addr) ≠ ⟨b, 0, none⟩ := fun h => hne (congrArg Addr.block h)
  have h : ∀ d : Nat, (Op.equalIn (d + 1) 59 (.pointer (some ⟨a, 0, none⟩)) (.pointer (some ⟨b, 0, none⟩))).run Tryz.prog w = .ok false w := fun d => by
    simp [Op.equalIn, run_underlying Tryz.underlying59, sizeOf, typeInfo, hj, hs, run_sameAddr_other w hn ha hb]
  simp only [binOp]
  simp [Op.equal, Op.maxDepth, h 9999]
theorem neq_same (a : Nat) (w : World) :
    (binOp .neq 59 (.pointer (some ⟨a, 0, none⟩)) (.pointer (some ⟨a, 0, none⟩))).run Tryz.prog w = .ok (.bool false) w := by
  obtain ⟨j, hj, hs⟩ := int_info
  exact Lib.run_neq_ptr_same w _ Tryz.underlying59 hj
theorem natAbs_nonneg {x : Int} (h : 0 ≤ x) : ((Int.natAbs x : Nat) : Int) = x := by omega
set_option maxRecDepth 100000 in
set_option maxHeartbeats 2000000 in
theorem rsh_int (gz gx : Nat) (oz ox : Option Nat) (z x : Int) (s : Nat) (w : World) (hz : IsInt w gz oz z) (hx : IsInt w gx ox x) (hx0 : 0 ≤ x) (hf : Fits x) (hs0 : 0 < s ∨ (oz = none ∧ 0 < x)) (hs2 : s < 1099511627776) :
    Calls Tryz.prog 44 #[.pointer (some ⟨gz, 0, none⟩), .pointer (some ⟨gx, 0, none⟩), .int .u64 (s : Int)] w fun e w' => e = .returned (.pointer (some ⟨gz, 0, none⟩)) ∧ Put w w' gz oz (x / 2 ^ s) := by
  obtain ⟨vz, hgz, hnz⟩ := id hz
  obtain ⟨vx, hgx, hnx⟩ := id hx
  rw [natAbs_nonneg hx0] at hnx
  have hz1 := hnz.drew
  have hx1 := hnx.drew
  have c1 : w.cell? ⟨gz, 1, none⟩ = some vz := blk_cell hgz 1
  have d1 : w.cell? ⟨gx, 1, none⟩ = some vx := blk_cell hgx 1
  have d0 : w.cell? ⟨gx, 0, none⟩ = some (.bool false) := by
    have := blk_cell hgx 0
    rw [decide_eq_false (by omega)] at this
    exact this
  have hr : 0 ≤ x / 2 ^ s := Int.ediv_nonneg hx0 (Int.le_of_lt (Int.pow_pos (by omega)))
  have K : ∀ w1, Only w.drew w1 (fun k => oz = some k) → w1.cell? ⟨gz, 1, none⟩ = some vz ∧ w1.frozen? ⟨gz, 1, none⟩ = false ∧ w1.frozen? ⟨gz, 0, none⟩ = false ∧ w1.cell? ⟨gz, 0, none⟩ = some (.bool (decide (z < 0))) := fun w1 ho => by
    have e1 := blk_held hnz hgz ho
    exact ⟨blk_cell e1 1, blk_frozen e1 1, blk_frozen e1 0, blk_cell e1 0⟩
  have HK := Lib.hid K
  have HR := Lib.hid (fun w' (_ : w' = w.drew) => rsh_any vz oz vx ox x s w.drew hz1 hx1 hf hs0 hs2)
  clear K
  go_enter Tryz.func44, Tryz.ntmps44
  go_wp2_with fail
  go_region_law (go_simp; go_at_call 65; refine (HR.out _ rfl).mono ?_; rintro e w1 ⟨v, o', rfl, hv, ho, hoo⟩; obtain ⟨A, n, c, rfl⟩ := hv.slice_; obtain ⟨k1, k2, k3, k4⟩ := HK.out _ ho)
  all_goals
    go_wp2_with fail
    go_ret
    have h := Put.from_drew (r := x / 2 ^ s) hz (o' := o') (by rw [natAbs_nonneg hr]; exact hv) ho hoo
    rw [decide_eq_false (by omega)] at h
    exact ⟨rfl, h⟩
set_option maxRecDepth 100000 in
set_option maxHeartbeats 2000000 in
theorem set_int (gz gx : Nat) (oz ox : Option Nat) (z x : Int) (w : World) (hz : IsInt w gz oz z) (hx : IsInt w gx ox x) (hf : Fits (Int.natAbs x)) (hne : gz ≠ gx) :
    Calls Tryz.prog 62 #[.pointer (some ⟨gz, 0, none⟩), .pointer (some ⟨gx, 0, none⟩)] w fun e w' => e = .returned (.pointer (some ⟨gz, 0, none⟩)) ∧ Put w w' gz oz x := by
  obtain ⟨vz, hgz, hnz⟩ := id hz
  obtain ⟨vx, hgx, hnx⟩ := id hx
  have hz1 : Room w.drew vz oz := hnz.drew.room
  have hx1 := hnx.drew
  have c1 : w.cell? ⟨gz, 1, none⟩ = some vz := blk_cell hgz 1
  have d1 : w.cell? ⟨gx, 1, none⟩ = some vx := blk_cell hgx 1
  have K : ∀ w1, Only w.drew w1 (fun k => oz = some k) → w1.cell? ⟨gz, 1, none⟩ = some vz ∧ w1.frozen? ⟨gz, 1, none⟩ = false ∧ w1.frozen? ⟨gz, 0, none⟩ = false ∧ w1.cell? ⟨gz, 0, none⟩ = some (.bool (decide (z < 0))) ∧ w1.cell? ⟨gx, 0, none⟩ = some (.bool (decide (x < 0))) := fun w1 ho => by
    have e1 := blk_held hnz hgz ho
    have e2 := blk_held hnz hgx ho
    exact ⟨blk_cell e1 1, blk_frozen e1 1, blk_frozen e1 0, blk_cell e1 0, blk_cell e2 0⟩
  have HK := Lib.hid K
  clear K
  have hpq := neq_other gz gx _ _ w hne hgz hgx
  go_enter Tryz.func62, Tryz.ntmps62
  go_wp2_with fail
  go_region_law (go_simp; go_at_call 87; refine (set_nat vz oz vx ox _ _ hz1 hx1 hf).mono ?_; rintro e w1 ⟨v, o', rfl, hv, ho, hoo⟩; obtain ⟨A, n, c, rfl⟩ := hv.slice_; obtain ⟨k1, k2, k3, k4, k5⟩ := HK.out _ ho)
  all_goals
    go_wp2_with fail
    go_ret
    exact ⟨rfl, Put.from_drew hz (o' := o') hv ho hoo⟩
set_option maxRecDepth 100000 in
theorem set_self (g : Nat) (w : World) :
    Calls Tryz.prog 62 #[.pointer (some ⟨g, 0, none⟩), .pointer (some ⟨g, 0, none⟩)] w fun e w' => e = .returned (.pointer (some ⟨g, 0, none⟩)) ∧ w' = w := by
  have hpq := neq_same g w
  go_enter Tryz.func62, Tryz.ntmps62
  go_wp2
  go_ret
  exact ⟨rfl, rfl⟩
set_option maxRecDepth 100000 in
set_option maxHeartbeats 2000000 in
theorem abs_int (gz gx : Nat) (oz ox : Option Nat) (z x : Int) (w : World) (hz : IsInt w gz oz z) (hx : IsInt w gx ox x) (hf : Fits (Int.natAbs x)) (hne : gz ≠ gx) :
    Calls Tryz.prog 45 #[.pointer (some ⟨gz, 0, none⟩), .pointer (some ⟨gx, 0, none⟩)] w fun e w' => e = .returned (.pointer (some ⟨gz, 0, none⟩)) ∧ Put w w' gz oz (Int.natAbs x) := by
  go_enter Tryz.func45, Tryz.ntmps45
  go_wp2_with fail
  refine (set_int gz gx oz ox z x w hz hx hf hne).mono ?_
  rintro e w1 ⟨rfl, o1, hi, ho, hoo⟩
  obtain ⟨v, c0, c1, f0, f1, hn⟩ := hi.cells
  go_wp2_with fail
  go_ret
  obtain ⟨o2, h2, ho2, hoo2⟩ := put_sign (r := (Int.natAbs x : Int)) hi (by omega)
  rw [decide_eq_false (by omega)] at h2 ho2
  refine ⟨rfl, o2, h2, ?_, ?_⟩
  · refine ho.step ho2 ?_
    rintro i hi' (rfl | h)
    · exact .inl rfl
    · rcases hoo with h1 | ⟨b, h1, h3⟩
      · exact .inr (h1 ▸ h)
      · rw [h1] at h; cases h; omega
  · rcases hoo2 with h1 | ⟨b, h1, h3⟩
    · rw [h1]; exact hoo
    · exact .inr ⟨b, h1, Nat.le_trans ho.base.size h3⟩
set_option maxRecDepth 100000 in
set_option maxHeartbeats 2000000 in
theorem neg_int (g : Nat) (o : Option Nat) (z : Int) (w : World) (hz : IsInt w g o z) :
    Calls Tryz.prog 40 #[.pointer (some ⟨g, 0, none⟩), .pointer (some ⟨g, 0, none⟩)] w fun e w' => e = .returned (.pointer (some ⟨g, 0, none⟩)) ∧ Put w w' g o (-z) := by
  have hp := put_sign (r := -z) hz (by omega)
  obtain ⟨v, c0, c1, f0, f1, hn⟩ := hz.cells
  rcases hn.cases_ with ⟨h0, A, c, rfl⟩ | ⟨hp0, b, n, ys, rfl, rfl, hb, hn0, hny, hym, hr, hx⟩
  · obtain rfl := natAbs_zero h0
    have hd : decide ((0 : Int) > 0) = false := by decide
    clear hn h0 hz
    go_enter Tryz.func40, Tryz.ntmps40
    go_wp2_with fail
    refine (set_self g w).mono ?_
    rintro e w1 ⟨rfl, rfl⟩
    go_wp2_with fail
    go_ret
    exact ⟨rfl, hp⟩
  · have hz0 := natAbs_pos hp0
    have hd : decide ((n : Int) > 0) = true := by simp; omega
    have hs : (!decide (z < 0)) = decide (-z < 0) := by
      by_cases h : z < 0
      · rw [decide_eq_true h, decide_eq_false (by omega)]; rfl
      · rw [decide_eq_false h, decide_eq_true (by omega)]; rfl
    rw [← hs] at hp
    clear hn hz hx hp0 hs
    go_enter Tryz.func40, Tryz.ntmps40
    go_wp2_with fail
    refine (set_self g w).mono ?_
    rintro e w1 ⟨rfl, rfl⟩
    go_wp2_with fail
    go_ret
    exact ⟨rfl, hp⟩
end Go.Proofs.YtflhdplfkpdejaaGreatFmt
namespace Go.Proofs.YtflhdplfkpdejaaGreatFmt
open Go.RowKit Go.Proofs.YtflhdplfkpdejaaGreatFmtW.PrintWords
theorem Put.after {w W w' : World} {g : Nat} {o : Option Nat} {r : Int} (h : Put W w' g o r) (hw : Only w W (fun _ => False)) : Put w w' g o r := by
  obtain ⟨o', h1, h2, h3⟩ := h
  refine ⟨o', h1, (hw.mono (fun _ _ h => h.elim)).step h2 (fun _ _ h => h), ?_⟩
  rcases h3 with h3 | ⟨b, h3, h4⟩
  · exact .inl h3
  · exact .inr ⟨b, h3, Nat.le_trans hw.base.size h4⟩
set_option maxRecDepth 100000 in
set_option maxHeartbeats 4000000 in
theorem or_int (gz gx gy : Nat) (oz ox oy : Option Nat) (z x y : Int) (k : Nat) (w : World) (hz : IsInt w gz oz z) (hx : IsInt w gx ox x) (hy : IsInt w gy oy y) (hx0 : 0 ≤ x) (hy0 : 0 ≤ y) (hf : Fits x) (hk : k < 64) (hxk : x % 2 ^ k = 0) (hyk : y < 2 ^ k) :
    Calls Tryz.prog 48 #[.pointer (some ⟨gz, 0, none⟩), .pointer (some ⟨gx, 0, none⟩), .pointer (some ⟨gy, 0, none⟩)] w fun e w' => e = .returned (.pointer (some ⟨gz, 0, none⟩)) ∧ Put w w' gz oz (x + y) := by
  have hn1 : ∀ n, Only w (w.drewN n) (fun _ => False) := fun n => (Only.refl w (fun _ => False)).drewN n
  have T : ∀ n, Only w (w.drewN n) (fun _ => False) ∧ IsInt (w.drewN n) gz oz z ∧ IsInt (w.drewN n) gx ox x ∧ IsInt (w.drewN n) gy oy y := fun n => ⟨hn1 n, hz.only (hn1 n) (fun h => h) (fun _ _ h => h), hx.only (hn1 n) (fun h => h) (fun _ _ h => h), hy.only (hn1 n) (fun h => h) (fun _ _ h => h)⟩
  have d0 : w.cell? ⟨gx, 0, none⟩ = some (.bool false) := by
    obtain ⟨vx, hgx, hnx⟩ := hx
    have := blk_cell hgx 0
    rw [decide_eq_false (by omega)] at this
    exact this
  have e0 : w.cell? ⟨gy, 0, none⟩ = some (.bool false) := by
    obtain ⟨vy, hgy, hny⟩ := hy
    have := blk_cell hgy 0
    rw [decide_eq_false (by omega)] at this
    exact this
  have HT := Lib.hid T
  have HR : Hid (∀ (w : World) (vz vx vy : Value), Room w vz oz → IsNat w vx ox x → IsNat w vy oy y → Calls Tryz.prog 67 #[vz, vx, vy] w (Got w oz (x + y))) := Lib.hid (fun w vz vx vy h1 h2 h3 => or_nat vz oz vx ox x vy oy y k w h1 h2 h3 hf hk hxk hyk)
  have h0 : 0 ≤ x + y := by omega
  have HX := Lib.hid (And.intro hx0 hy0)
  have H0 := Lib.hid h0
  clear T hz hx hy hn1 hyk hxk
  go_enter Tryz.func48, Tryz.ntmps48
  go_wp2_with fail
  go_quiet (fail)
  go_wp2_with fail
  clear d0 e0
  obtain ⟨hoW, hz, hx, hy⟩ := HT.out nq
  generalize w.drewN nq = W at *
  obtain ⟨vz, hgz, hnz⟩ := id hz
  obtain ⟨vx, hgx, hnx⟩ := id hx
  obtain ⟨vy, hgy, hny⟩ := id hy
  rw [natAbs_nonneg HX.out.1] at hnx
  rw [natAbs_nonneg HX.out.2] at hny
  have hc := HR.out W.drew vz vx vy hnz.drew.room hnx.drew hny.drew
  have HC := Lib.hid hc
  have c1 : W.cell? ⟨gz, 1, none⟩ = some vz := blk_cell hgz 1
  have d1 : W.cell? ⟨gx, 1, none⟩ = some vx := blk_cell hgx 1
  have e1 : W.cell? ⟨gy, 1, none⟩ = some vy := blk_cell hgy 1
  have K : ∀ w1, Only W.drew w1 (fun k => oz = some k) → w1.cell? ⟨gz, 1, none⟩ = some vz ∧ w1.frozen? ⟨gz, 1, none⟩ = false ∧ w1.frozen? ⟨gz, 0, none⟩ = false ∧ w1.cell? ⟨gz, 0, none⟩ = some (.bool (decide (z < 0))) := fun w1 ho => by
    have e1 := blk_held hnz hgz ho
    exact ⟨blk_cell e1 1, blk_frozen e1 1, blk_frozen e1 0, blk_cell e1 0⟩
  have HK := Lib.hid K
  clear K hc
  go_region_law (go_simp; go_at_call 67; refine HC.out.mono ?_; rintro e w1 ⟨v, o', rfl, hv, ho, hoo⟩; obtain ⟨A, n, c, rfl⟩ := hv.slice_; obtain ⟨k1, k2, k3, k4⟩ := HK.out _ ho)
  all_goals
    go_wp2_with fail
    go_ret
    have h := Put.from_drew (r := x + y) hz (o' := o') (by rw [natAbs_nonneg H0.out]; exact hv) ho hoo
    rw [decide_eq_false (Int.not_lt.2 H0.out)] at h
    exact ⟨rfl, h.after hoW⟩
set_option maxRecDepth 100000 in
set_option maxHeartbeats 4000000 in
theorem and_int (gz gx gy : Nat) (oz ox oy : Option Nat) (z x y : Int)  (w : World) (hz : IsInt w gz oz z) (hx : IsInt w gx ox x) (hy : IsInt w gy oy y) (hx0 : 0 < x) (hy0 : y = 1073741823) (hf : Fits x) :
    Calls Tryz.prog 46 #[.pointer (some ⟨gz, 0, none⟩), .pointer (some ⟨gx, 0, none⟩), .pointer (some ⟨gy, 0, none⟩)] w fun e w' => e = .returned (.pointer (some ⟨gz, 0, none⟩)) ∧ Put w w' gz oz (x % 1073741824) := by
  have hn1 : ∀ n, Only w (w.drewN n) (fun _ => False) := fun n => (Only.refl w (fun _ => False)).drewN n
  have T : ∀ n, Only w (w.drewN n) (fun _ => False) ∧ IsInt (w.drewN n) gz oz z ∧ IsInt (w.drewN n) gx ox x ∧ IsInt (w.drewN n) gy oy y := fun n => ⟨hn1 n, hz.only (hn1 n) (fun h => h) (fun _ _ h => h), hx.only (hn1 n) (fun h => h) (fun _ _ h => h), hy.only (hn1 n) (fun h => h) (fun _ _ h => h)⟩
  have d0 : w.cell? ⟨gx, 0, none⟩ = some (.bool false) := by
    obtain ⟨vx, hgx, hnx⟩ := hx
    have := blk_cell hgx 0
    rw [decide_eq_false (by omega)] at this
    exact this
  have e0 : w.cell? ⟨gy, 0, none⟩ = some (.bool false) := by
    obtain ⟨vy, hgy, hny⟩ := hy
    have := blk_cell hgy 0
    rw [decide_eq_false (by omega)] at this
    exact this
  have HT := Lib.hid T
  have HR : Hid (∀ (w : World) (vz vx vy : Value), Room w vz oz → IsNat w vx ox x → IsNat w vy oy y → Calls Tryz.prog 68 #[vz, vx, vy] w (Got w oz (x % 1073741824))) := Lib.hid (fun w vz vx vy h1 h2 h3 => and_nat vz oz vx ox x vy oy w h1 h2 (by rw [← hy0]; exact h3) hx0 hf)
  have h0 : 0 ≤ x % 1073741824 := by omega
  have HX := Lib.hid (And.intro hx0 hy0)
  have H0 := Lib.hid h0
  clear T hz hx hy hn1 hy0 
  go_enter Tryz.func46, Tryz.ntmps46
  go_wp2_with fail
  go_quiet (fail)
  go_wp2_with fail
  clear d0 e0
  obtain ⟨hoW, hz, hx, hy⟩ := HT.out nq
  generalize w.drewN nq = W at *
  obtain ⟨vz, hgz, hnz⟩ := id hz
  obtain ⟨vx, hgx, hnx⟩ := id hx
  obtain ⟨vy, hgy, hny⟩ := id hy
  rw [natAbs_nonneg (Int.le_of_lt HX.out.1)] at hnx
  rw [natAbs_nonneg (by have := HX.out.2; omega)] at hny
  have hc := HR.out W.drew vz vx vy hnz.drew.room hnx.drew hny.drew
  have HC := Lib.hid hc
  have c1 : W.cell? ⟨gz, 1, none⟩ = some vz := blk_cell hgz 1
  have d1 : W.cell? ⟨gx, 1, none⟩ = some vx := blk_cell hgx 1
  have e1 : W.cell? ⟨gy, 1, none⟩ = some vy := blk_cell hgy 1
  have K : ∀ w1, Only W.drew w1 (fun k => oz = some k) → w1.cell? ⟨gz, 1, none⟩ = some vz ∧ w1.frozen? ⟨gz, 1, none⟩ = false ∧ w1.frozen? ⟨gz, 0, none⟩ = false ∧ w1.cell? ⟨gz, 0, none⟩ = some (.bool (decide (z < 0))) := fun w1 ho => by
    have e1 := blk_held hnz hgz ho
    exact ⟨blk_cell e1 1, blk_frozen e1 1, blk_frozen e1 0, blk_cell e1 0⟩
  have HK := Lib.hid K
  clear K hc
  go_region_law (go_simp; go_at_call 68; refine HC.out.mono ?_; rintro e w1 ⟨v, o', rfl, hv, ho, hoo⟩; obtain ⟨A, n, c, rfl⟩ := hv.slice_; obtain ⟨k1, k2, k3, k4⟩ := HK.out _ ho)
  all_goals
    go_wp2_with fail
    go_ret
    have h := Put.from_drew (r := x % 1073741824) hz (o' := o') (by rw [natAbs_nonneg H0.out]; exact hv) ho hoo
    rw [decide_eq_false (Int.not_lt.2 H0.out)] at h
    exact ⟨rfl, h.after hoW⟩
end Go.Proofs.YtflhdplfkpdejaaGreatFmt
namespace Go.Proofs.YtflhdplfkpdejaaGreatFmt
open Go.RowKit Go.Proofs.YtflhdplfkpdejaaGreatFmtW.PrintWords
set_option maxRecDepth 100000 in
theorem low64_nat (vx : Value) (ox : Option Nat) (x : Int) (w : World) (hx : IsNat w vx ox x) (h : x < 18446744073709551616) :
    Calls Tryz.prog 70 #[vx] w fun e w' => e = .returned (.int .u64 x) ∧ w' = w := by
  rcases hx.cases_ with ⟨rfl, A, c, rfl⟩ | ⟨_, b, n, ys, rfl, rfl, hb, hn, hny, hym, hr, rfl⟩
  · go_enter Tryz.func70, Tryz.ntmps70
    go_wp2
    go_ret
    exact ⟨rfl, rfl⟩
  · obtain rfl : n = 1 := by
      have := pow_lt (Int.lt_of_le_of_lt (hr.low hn) (Int.lt_of_lt_of_le h (by decide : (18446744073709551616 : Int) ≤ 2 ^ 64)))
      omega
    have e1 : num (fun i => ys.getD i 0) 1 = ys.getD 0 0 := by simp [num]
    rw [e1]
    have hc := hb.cell 0 (by omega)
    have hw := hr.1 0 (by omega)
    simp only at hw
    clear e1 h hr
    generalize ys.getD 0 0 = x at hc hw
    go_enter Tryz.func70, Tryz.ntmps70
    go_wp2
    go_ret
    exact ⟨rfl, rfl⟩
set_option maxRecDepth 100000 in
theorem int64_int (g : Nat) (o : Option Nat) (x : Int) (w : World) (hx : IsInt w g o x) (h0 : 0 ≤ x) (h : x < 9223372036854775808) :
    Calls Tryz.prog 47 #[.pointer (some ⟨g, 0, none⟩)] w fun e w' => e = .returned (.int .i64 x) ∧ w' = w := by
  obtain ⟨v, c0, c1, _, _, hn⟩ := hx.cells
  rw [natAbs_nonneg h0] at hn
  rw [decide_eq_false (by omega)] at c0
  have hl := low64_nat v o x w hn (by omega)
  have HL := Lib.hid hl
  clear hl
  go_enter Tryz.func47, Tryz.ntmps47
  go_wp2_with fail
  refine HL.out.mono ?_
  rintro e w1 ⟨rfl, rfl⟩
  go_wp2_with fail
  go_ret
  exact ⟨rfl, rfl⟩
set_option maxRecDepth 100000 in
theorem bitLen_int (g : Nat) (o : Option Nat) (x : Int) (w : World) (hx : IsInt w g o x) (hf : Fits (Int.natAbs x)) :
    Calls Tryz.prog 35 #[.pointer (some ⟨g, 0, none⟩)] w fun e w' => (∃ k : Nat, e = .returned (.int .i64 k) ∧ BLen (Int.natAbs x) k ∧ k ≤ 1073741888) ∧ w' = w := by
  obtain ⟨v, c0, c1, _, _, hn⟩ := hx.cells
  have HL := Lib.hid (bitLen_nat v o _ w hn hf)
  go_enter Tryz.func35, Tryz.ntmps35
  go_wp2_with fail
  refine HL.out.mono ?_
  rintro e w1 ⟨⟨k, rfl, hk, hk2⟩, rfl⟩
  go_wp2_with fail
  go_ret
  exact ⟨⟨k, rfl, hk, hk2⟩, rfl⟩
set_option maxRecDepth 100000 in
theorem tz_int (g : Nat) (o : Option Nat) (x : Int) (w : World) (hx : IsInt w g o x) (h0 : x ≠ 0) (hf : Fits (Int.natAbs x)) (hT : Tab w) :
    Calls Tryz.prog 43 #[.pointer (some ⟨g, 0, none⟩)] w fun e w' => ∃ t : Nat, e = .returned (.int .u64 t) ∧ Low (Int.natAbs x) t ∧ t ≤ 1073741888 ∧ Only w w' (fun _ => False) := by
  obtain ⟨v, c0, c1, _, _, hn⟩ := hx.cells
  have HL := Lib.hid (tz_nat v o _ w hn (by omega) hf hT)
  go_enter Tryz.func43, Tryz.ntmps43
  go_wp2_with fail
  refine HL.out.mono ?_
  rintro e w1 ⟨t, rfl, hk, hk2, ho⟩
  go_wp2_with fail
  go_ret
  exact ⟨t, rfl, hk, hk2, ho⟩
end Go.Proofs.YtflhdplfkpdejaaGreatFmt
namespace Go.Proofs.YtflhdplfkpdejaaGreatFmt
open Go.RowKit Go.Proofs.YtflhdplfkpdejaaGreatFmtW.PrintWords
def val : List Int → Int
  | [] => 0
  | d :: ds => d + 1073741824 * val ds
def Digs (ds : List Int) : Prop := ∀ d ∈ ds, 0 ≤ d ∧ d < 1073741824
theorem val_range : ∀ (ds : List Int), Digs ds → 0 ≤ val ds ∧ val ds < 2 ^ (30 * ds.length)
  | [], _ => by simp [val]
  | d :: ds, h => by
    obtain ⟨h0, h1⟩ := val_range ds fun x hx => h x (List.mem_cons_of_mem _ hx)
    obtain ⟨h2, h3⟩ := h d List.mem_cons_self
    rw [val, List.length_cons, show 30 * (ds.length + 1) = 30 + 30 * ds.length by omega, Int.pow_add]
    have e : (2 : Int) ^ 30 = 1073741824 := by decide
    rw [e]
    generalize (2 : Int) ^ (30 * ds.length) = P at *
    omega
theorem Digs.drop {ds : List Int} (h : Digs ds) (k : Nat) : Digs (ds.drop k) := fun d hd => h d (List.mem_of_mem_drop hd)
theorem drop_cons (ds : List Int) (k : Nat) (h : k < ds.length) : ds.drop k = ds.getD k 0 :: ds.drop (k + 1) := by
  rw [List.drop_eq_getElem_cons h]
  simp [List.getD, h]
theorem Digs.at {ds : List Int} (h : Digs ds) (k : Nat) (hk : k < ds.length) : 0 ≤ ds.getD k 0 ∧ ds.getD k 0 < 1073741824 := by
  have e : ds.getD k 0 = ds[k] := by simp [List.getD, hk]
  rw [e]; exact h _ (List.getElem_mem hk)
theorem fits_val {ds : List Int} (h : Digs ds) (hl : ds.length ≤ 1000000) : Fits (val ds) := Fits.of (val_range ds h).2 (by omega)
def New (B : Nat) (w : World) (g : Nat) (z : Int) : Prop := ∃ o, IsInt w g o z ∧ B ≤ g ∧ ∀ b, o = some b → B ≤ b
theorem New.put {B : Nat} {w0 w w' : World} {g : Nat} {o : Option Nat} {r : Int} (hB : w0.heap.size = B) (hw : Only w0 w (fun _ => False)) (hg : B ≤ g) (ho : ∀ b, o = some b → B ≤ b) (h : Put w w' g o r) : New B w' g r ∧ Only w0 w' (fun _ => False) := by
  obtain ⟨o', h1, h2, h3⟩ := h
  refine ⟨⟨o', h1, hg, fun b hb => ?_⟩, hw.step h2 ?_⟩
  · rcases h3 with rfl | ⟨c, h3, h4⟩
    · exact ho b hb
    · rw [h3] at hb; cases hb
      have := hw.base.size
      omega
  · rintro i hi (rfl | h)
    · omega
    · have := ho i h; omega
theorem New.alloc (w : World) : New w.heap.size (w.alloc (.cells #[.bool false, .slice none 0 0] 76)) w.heap.size 0 :=
  ⟨none, ⟨_, by simpa using heap_alloc_new w (.cells #[.bool false, .slice none 0 0] 76), .nil⟩, Nat.le_refl _, fun _ h => by cases h⟩
theorem newInt_any (x : Int) (w : World) (h : 0 ≤ x) (h2 : x < 9223372036854775808) :
    Calls Tryz.prog 31 #[.int .i64 x] w fun e w' => ∃ g, e = .returned (.pointer (some ⟨g, 0, none⟩)) ∧ New w.heap.size w' g x ∧ Only w w' (fun _ => False) := by
  by_cases h0 : x = 0
  · subst h0
    refine (newInt_zero w).mono ?_
    rintro e w' ⟨rfl, rfl⟩
    exact ⟨_, rfl, New.alloc w, (Only.refl _ _).alloc _⟩
  · refine (newInt_pos x w (by omega) h2).mono ?_
    rintro e w' ⟨g, rfl, b, hb, hg, ho, hb2, hg2⟩
    have e1 : num (fun i => [x].getD i 0) 1 = x := by simp [num]
    refine ⟨g, rfl, ⟨some b, ⟨.slice (some ⟨b, 0, none⟩) 1 1, ?_, ?_⟩, hg2, fun c hc => by cases hc; exact hb2⟩, ho⟩
    · rw [decide_eq_false (by omega)]; exact hg
    · rw [natAbs_nonneg h]
      refine .own b 1 [x] x hb (by simp) (by simp [most]) ⟨fun i hi => ?_, fun _ => ?_⟩ e1
      · obtain rfl : i = 0 := by omega
        show 0 ≤ x ∧ x < _
        omega
      · show x ≠ 0
        exact h0
set_option maxRecDepth 100000 in
set_option maxHeartbeats 4000000 in
theorem whole_calls (neg : Bool) (A : Option Addr) (c : Nat) (ds : List Int) (w : World) (hr : ReadsInt w .i64 A ds.length ds) (hd : Digs ds) (hl : ds.length ≤ 1000000) :
    Calls Tryz.prog 28 #[.bool neg, .slice A ds.length c] w fun e w' => ∃ g, e = .returned (.pointer (some ⟨g, 0, none⟩)) ∧ New w.heap.size w' g (if neg then -val ds else val ds) ∧ Only w w' (fun _ => False) := by
  obtain ⟨w0, hw0⟩ : ∃ w0 : World, w0 = w.alloc (.cells #[.bool false, .slice none 0 0] 76) := ⟨_, rfl⟩
  go_enter Tryz.func28, Tryz.ntmps28
  go_wp2_with fail
  go_loopw [10] (fun i wr => ∃ k : Nat, k ≤ ds.length ∧ i = .int .i64 k ∧ New w.heap.size wr w.heap.size (val (ds.drop (ds.length - k))) ∧ Only w wr (fun _ => False))
    (fun i _ => ds.length - (intOf i).toNat)
  case atStart =>
    refine ⟨0, Nat.zero_le _, rfl, ?_, (Only.refl _ _).alloc _⟩
    rw [Nat.sub_zero, List.drop_of_length_le (Nat.le_refl _)]
    exact New.alloc w
  case round =>
    obtain ⟨k, hk, rfl, ⟨o, hi, hg, ho⟩, hw⟩ := hrel
    by_cases hlt : k < ds.length
    · have hlt2 : (k : Int) < ds.length := by omega
      have hdr := drop_cons ds (ds.length - 1 - k) (by omega)
      have hdg := hd.at (ds.length - 1 - k) (by omega)
      have hcell : ∃ ad, A = some ad ∧ w.cell? (ad.add (ds.length - 1 - k)) = some (.int .i64 (ds.getD (ds.length - 1 - k) 0)) := by
        obtain ⟨ad, h1, h2⟩ := hr.2.2 (by omega)
        exact ⟨ad, h1, h2 _ (by omega)⟩
      obtain ⟨ad, rfl, hc⟩ := hcell
      have hv := val_range _ (hd.drop (ds.length - k))
      rw [show ds.length - 1 - k + 1 = ds.length - k by omega] at hdr
      generalize hD : ds.getD (ds.length - 1 - k) 0 = d at hc hdg hdr
      generalize hV : val (ds.drop (ds.length - k)) = v at hi hv
      have HD := Lib.hid hdr
      have HV := Lib.hid hV
      clear hdr hV hD
      have hbase : ∀ w1, Only w w1 (fun _ => False) → w1.cell? (ad.add (ds.length - 1 - k)) = some (.int .i64 d) := fun w1 h => (World.cell?_of_block (h.kept _ (World.block_lt_of_cell? w _ hc) (fun h => h))).trans hc
      have HC := Lib.hid hbase
      clear hbase hc
      go_wp2_with fail
      refine (lsh_int _ _ o o v v 30 wr hi hi (Fits.of (k := 30 * (ds.drop (ds.length - k)).length) (by rw [← HV.out]; have := hv.2; rw [HV.out]; omega) (by rw [List.length_drop]; omega)) (by omega) (by omega)).mono ?_
      rintro e w1 ⟨rfl, hp⟩
      obtain ⟨⟨o1, hi1, _, ho1⟩, hw1⟩ := New.put rfl hw hg ho hp
      have hc := HC.out w1 hw1
      go_wp2_with fail
      refine (newInt_any d w1 hdg.1 (by omega)).mono ?_
      rintro e w2 ⟨gy, rfl, ⟨oy, hiy, hgy, hoy⟩, hw2⟩
      go_wp2_with fail
      have hi2 := hi1.only hw2 (fun h => h) (fun _ _ h => h)
      have hq := Int.mul_nonneg hv.1 (by decide : (0 : Int) ≤ 2 ^ 30)
      refine (or_int _ _ gy o1 o1 oy _ _ d 30 w2 hi2 hi2 hiy hq hdg.1 ?_ (by omega) (Int.mul_emod_left _ _) hdg.2).mono ?_
      · refine Fits.of (k := 30 * (ds.drop (ds.length - k)).length + 30) ?_ (by rw [List.length_drop]; omega)
        rw [Int.pow_add]
        exact Int.mul_lt_mul_of_pos_right hv.2 (by decide)
      · rintro e w3 ⟨rfl, hp3⟩
        obtain ⟨hn3, hw3⟩ := New.put rfl (hw1.trans hw2) hg ho1 hp3
        clear hc
        go_wp2_with fail
        go_roundw
        case rel =>
          refine ⟨k + 1, by omega, by go_num, ?_, hw3⟩
          rw [show ds.length - (k + 1) = ds.length - 1 - k by omega, HD.out, val, HV.out]
          rw [show d + 1073741824 * v = v * 2 ^ 30 + d by omega]
          exact hn3
        case measure => simp [intOf]; omega
    · obtain rfl : k = ds.length := by omega
      rw [Nat.sub_self, List.drop_zero] at hi
      cases neg with
      | false =>
        go_wp2_with fail
        go_ret
        exact ⟨_, rfl, ⟨o, hi, hg, ho⟩, hw⟩
      | true =>
        go_wp2_with fail
        refine (neg_int _ o _ wr hi).mono ?_
        rintro e w1 ⟨rfl, hp⟩
        obtain ⟨hn1, hw1⟩ := New.put rfl hw hg ho hp
        go_wp2_with fail
        go_ret
        exact ⟨_, rfl, hn1, hw1⟩
end Go.Proofs.YtflhdplfkpdejaaGreatFmt
