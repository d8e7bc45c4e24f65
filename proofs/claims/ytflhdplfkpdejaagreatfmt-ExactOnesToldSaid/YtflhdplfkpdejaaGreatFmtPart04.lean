/- Part 4 of the walk of ExactOnes: NatG NatH NatI NatJ NatK IntA IntB IntC NatL NatM BitsB. -/
import Derived.Test.YtflhdplfkpdejaaGreatFmtPart03
import Derived.Lib.SliceRun
import Derived.Deep.QuietTactic
import Derived.BigQuiet
import Derived.Deep.RegionLaw
import Derived.Deep.RegionHeld3
import Derived.Lib.Strings
import Derived.Lib.Slices
import Derived.Lib.Small
import Derived.Lib.Walk
import Derived.Lib.BitFns
import Derived.Lib.TrailingZeros
import Derived.Laws.Bits64b
import Derived.Laws.BitsLemmas
namespace Go.Proofs.YtflhdplfkpdejaaGreatFmt
open Go.RowKit Go.Proofs.YtflhdplfkpdejaaGreatFmtW.PrintWords
set_option maxRecDepth 100000 in
set_option maxHeartbeats 4000000 in
theorem and_gt (z : Value) (o : Option Nat) (bx m cx bv n cv : Nat) (xs vs : List Int) (w : World) (hz : Room w z o) (hx : Blk w bx xs) (hv : Blk w bv vs) (hm : n < m) (hn : 0 < n) (hmx : m ≤ xs.length) (hnv : n ≤ vs.length) (hm4 : m + 4 ≤ most) :
    Calls Tryz.prog 68 #[z, .slice (some ⟨bx, 0, none⟩) m cx, .slice (some ⟨bv, 0, none⟩) n cv] w fun e w' => ∃ b ys, Only w w' (fun k => o = some k) ∧ (o = some b ∨ w.heap.size ≤ b) ∧ Blk w' b ys ∧ e = .returned (.slice (some ⟨b, 0, none⟩) (nlen ys n) ys.length) ∧ n ≤ ys.length ∧ ys.length ≤ most ∧ ∀ i, i < n → ys.getD i 0 = bits .and .u64 (xs.getD i 0) (vs.getD i 0) := by
  have hmm : most = 274877906944 := rfl
  have hm3 : m ≤ 274877906944 := by omega
  have hmk : ∀ w, Room w z o → Calls Tryz.prog 93 #[z, .int .i64 (n : Int)] w fun e w' => ∃ b zs, e = .returned (.slice (some ⟨b, 0, none⟩) n zs.length) ∧ Blk w' b zs ∧ n ≤ zs.length ∧ zs.length ≤ most ∧ Only w w' (fun _ => False) ∧ ((o = some b ∧ w' = w) ∨ b = w.heap.size) := fun w h => make_any z o n w h (by omega) (by omega)
  have HX := Lib.hid hmm
  have hmI : (n : Int) < (m : Int) := by omega
  clear hmm
  go_enter Tryz.func68, Tryz.ntmps68
  go_wp2_with fail
  refine (hmk w hz).mono ?_
  rintro e w1 ⟨b, zs, rfl, hb, hnz, hzm, ho, hob⟩
  go_wp2_with fail
  go_loopw [9] (fun si wr => ∃ k : Nat, k ≤ n ∧ si = .int .i64 k ∧ Only w1 wr (· = b) ∧ ∃ ys, Blk wr b ys ∧ ys.length = zs.length ∧ (∀ p, k ≤ p → ys.getD p 0 = zs.getD p 0) ∧ ∀ j, j < k → ys.getD j 0 = bits .and .u64 (xs.getD j 0) (vs.getD j 0))
    (fun si _ => n - (intOf si).toNat)
  case atStart => exact ⟨0, Nat.zero_le _, rfl, Only.refl _ _, zs, hb, rfl, fun _ _ => rfl, fun j h => by omega⟩
  case round =>
    obtain ⟨k, hk, rfl, hr, ys, hy, hyl, hlo, hhi⟩ := hrel
    have c0 : k < n → wr.cell? ⟨bx, k, none⟩ = some (.int .u64 (xs.getD k 0)) := fun h => read_kept hx (by omega) ho hb hr hy hyl (hlo k (Nat.le_refl _))
    have c1 : k < n → wr.cell? ⟨bv, k, none⟩ = some (.int .u64 (vs.getD k 0)) := fun h => read_kept hv (by omega) ho hb hr hy hyl (hlo k (Nat.le_refl _))
    have cz : k < n → wr.cell? ⟨b, k, none⟩ = some (.int .u64 (ys.getD k 0)) := fun h => hy.cell k (by omega)
    have fz := blk_frozen hy k
    have hn2 := norm_own b n zs.length _ _ hy (by omega) (by omega) (by have := HX.out; omega)
    go_wp2_with fail
    · have h0 : k < n := by assumption
      have d0 := c0 h0
      have d1 := c1 h0
      have dz := cz h0
      have hkm : (k : Int) < (m : Int) := by omega
      clear c0 c1 cz hn2
      go_region
      go_wp2
      go_roundw
      case rel =>
        refine ⟨k + 1, by omega, by go_num, ?_, ys.set k (bits .and .u64 (xs.getD k 0) (vs.getD k 0)), ?_, by simpa using hyl, ?_, ?_⟩
        · exact (hr.set (.inr rfl) _).drew
        · exact hy.set _ _
        · intro p hp
          rw [← hlo p (by omega)]
          simp only [List.getD, List.getElem?_set]
          rw [if_neg (by omega)]
        · intro j j0
          simp only [List.getD, List.getElem?_set]
          by_cases e : j = k
          · subst e
            rw [if_pos rfl, if_pos (by omega)]; rfl
          · rw [if_neg (by omega)]
            exact hhi j (by omega)
      case measure => simp [intOf]; omega
    · have h0 : ¬ k < n := by assumption
      obtain rfl : k = n := by omega
      refine hn2.mono ?_
      rintro e w4 ⟨rfl, hB4⟩
      go_wp2_with fail
      go_ret
      have ho4 : Only wr w4 (fun _ => False) := ⟨hB4.mono (Nat.zero_le _), fun i hi _ => hB4.block i hi⟩
      refine ⟨b, ys, ?_, ?_, ho4.blk hy (fun h => h), ?_, by omega, by omega, fun i hi => hhi i hi⟩
      · refine ((ho.mono (fun _ _ h => h.elim)).step (hr.step ho4 (fun _ _ h => h.elim)) ?_)
        rintro i hi rfl
        rcases hob with ⟨h, _⟩ | h
        · exact h
        · omega
      · rcases hob with ⟨h, _⟩ | h
        · exact .inl h
        · exact .inr (by omega)
      · rw [hyl]; rfl
set_option maxRecDepth 100000 in
set_option maxHeartbeats 4000000 in
theorem and_same (z : Value) (o : Option Nat) (bx cx bv n cv : Nat) (xs vs : List Int) (w : World) (hz : Room w z o) (hx : Blk w bx xs) (hv : Blk w bv vs) (hn : 0 < n) (hmx : n ≤ xs.length) (hnv : n ≤ vs.length) (hm4 : n + 4 ≤ most) :
    Calls Tryz.prog 68 #[z, .slice (some ⟨bx, 0, none⟩) n cx, .slice (some ⟨bv, 0, none⟩) n cv] w fun e w' => ∃ b ys, Only w w' (fun k => o = some k) ∧ (o = some b ∨ w.heap.size ≤ b) ∧ Blk w' b ys ∧ e = .returned (.slice (some ⟨b, 0, none⟩) (nlen ys n) ys.length) ∧ n ≤ ys.length ∧ ys.length ≤ most ∧ ∀ i, i < n → ys.getD i 0 = bits .and .u64 (xs.getD i 0) (vs.getD i 0) := by
  have hmm : most = 274877906944 := rfl
  have hm3 : n ≤ 274877906944 := by omega
  have hmk : ∀ w, Room w z o → Calls Tryz.prog 93 #[z, .int .i64 (n : Int)] w fun e w' => ∃ b zs, e = .returned (.slice (some ⟨b, 0, none⟩) n zs.length) ∧ Blk w' b zs ∧ n ≤ zs.length ∧ zs.length ≤ most ∧ Only w w' (fun _ => False) ∧ ((o = some b ∧ w' = w) ∨ b = w.heap.size) := fun w h => make_any z o n w h (by omega) (by omega)
  have HX := Lib.hid hmm
  clear hmm
  go_enter Tryz.func68, Tryz.ntmps68
  go_wp2_with fail
  refine (hmk w hz).mono ?_
  rintro e w1 ⟨b, zs, rfl, hb, hnz, hzm, ho, hob⟩
  go_wp2_with fail
  go_loopw [9] (fun si wr => ∃ k : Nat, k ≤ n ∧ si = .int .i64 k ∧ Only w1 wr (· = b) ∧ ∃ ys, Blk wr b ys ∧ ys.length = zs.length ∧ (∀ p, k ≤ p → ys.getD p 0 = zs.getD p 0) ∧ ∀ j, j < k → ys.getD j 0 = bits .and .u64 (xs.getD j 0) (vs.getD j 0))
    (fun si _ => n - (intOf si).toNat)
  case atStart => exact ⟨0, Nat.zero_le _, rfl, Only.refl _ _, zs, hb, rfl, fun _ _ => rfl, fun j h => by omega⟩
  case round =>
    obtain ⟨k, hk, rfl, hr, ys, hy, hyl, hlo, hhi⟩ := hrel
    have c0 : k < n → wr.cell? ⟨bx, k, none⟩ = some (.int .u64 (xs.getD k 0)) := fun h => read_kept hx (by omega) ho hb hr hy hyl (hlo k (Nat.le_refl _))
    have c1 : k < n → wr.cell? ⟨bv, k, none⟩ = some (.int .u64 (vs.getD k 0)) := fun h => read_kept hv (by omega) ho hb hr hy hyl (hlo k (Nat.le_refl _))
    have cz : k < n → wr.cell? ⟨b, k, none⟩ = some (.int .u64 (ys.getD k 0)) := fun h => hy.cell k (by omega)
    have fz := blk_frozen hy k
    have hn2 := norm_own b n zs.length _ _ hy (by omega) (by omega) (by have := HX.out; omega)
    go_wp2_with fail
    · have h0 : k < n := by assumption
      have d0 := c0 h0
      have d1 := c1 h0
      have dz := cz h0
      have hkm : (k : Int) < (n : Int) := by omega
      clear c0 c1 cz hn2
      go_region
      go_wp2
      go_roundw
      case rel =>
        refine ⟨k + 1, by omega, by go_num, ?_, ys.set k (bits .and .u64 (xs.getD k 0) (vs.getD k 0)), ?_, by simpa using hyl, ?_, ?_⟩
        · exact (hr.set (.inr rfl) _).drew
        · exact hy.set _ _
        · intro p hp
          rw [← hlo p (by omega)]
          simp only [List.getD, List.getElem?_set]
          rw [if_neg (by omega)]
        · intro j j0
          simp only [List.getD, List.getElem?_set]
          by_cases e : j = k
          · subst e
            rw [if_pos rfl, if_pos (by omega)]; rfl
          · rw [if_neg (by omega)]
            exact hhi j (by omega)
      case measure => simp [intOf]; omega
    · have h0 : ¬ k < n := by assumption
      obtain rfl : k = n := by omega
      refine hn2.mono ?_
      rintro e w4 ⟨rfl, hB4⟩
      go_wp2_with fail
      go_ret
      have ho4 : Only wr w4 (fun _ => False) := ⟨hB4.mono (Nat.zero_le _), fun i hi _ => hB4.block i hi⟩
      refine ⟨b, ys, ?_, ?_, ho4.blk hy (fun h => h), ?_, by omega, by omega, fun i hi => hhi i hi⟩
      · refine ((ho.mono (fun _ _ h => h.elim)).step (hr.step ho4 (fun _ _ h => h.elim)) ?_)
        rintro i hi rfl
        rcases hob with ⟨h, _⟩ | h
        · exact h
        · omega
      · rcases hob with ⟨h, _⟩ | h
        · exact .inl h
        · exact .inr (by omega)
      · rw [hyl]; rfl
end Go.Proofs.YtflhdplfkpdejaaGreatFmt
namespace Go.Proofs.YtflhdplfkpdejaaGreatFmt
open Go.RowKit Go.Proofs.YtflhdplfkpdejaaGreatFmtW.PrintWords
theorem Only.drewN {a b : World} {S : Nat → Prop} (h : Only a b S) (n : Nat) : Only a (b.drewN n) S := ⟨pw_below_drewN h.base n, h.kept⟩
theorem Got.after {w w1 w' : World} {o : Option Nat} {x : Int} {e : Ending} (h : Only w w1 (fun _ => False)) (k : Got w1 o x e w') : Got w o x e w' := by
  obtain ⟨v, o', he, hv, ho, hoo⟩ := k
  refine ⟨v, o', he, hv, (h.mono (fun _ _ h => h.elim)).step ho (fun _ _ h => h), ?_⟩
  rcases hoo with h1 | ⟨b, h1, h2⟩
  · exact .inl h1
  · exact .inr ⟨b, h1, Nat.le_trans h.base.size h2⟩
set_option maxRecDepth 100000 in
theorem same_none (A : Option Addr) (m c : Nat) (w : World) (h : 0 < m) :
    Calls Tryz.prog 91 #[.slice none 0 0, .slice A m c] w fun e w' => e = .returned (.bool false) ∧ Only w w' (fun _ => False) := by
  have ho := Only.refl w (fun _ => False)
  have h1 : ((0 : Int) == (m : Int)) = false := by rw [beq_eq_false_iff_ne]; omega
  go_enter Tryz.func91, Tryz.ntmps91
  go_wp2_with fail
  go_quiet (fail)
  go_wp2
  go_ret
  exact ⟨rfl, ho.drewN _⟩
set_option maxRecDepth 100000 in
theorem alias_none (A : Option Addr) (m c : Nat) (w : World) :
    Calls Tryz.prog 92 #[.slice none 0 0, .slice A m c] w fun e w' => e = .returned (.bool false) ∧ Only w w' (fun _ => False) := by
  have ho := Only.refl w (fun _ => False)
  have h1 : decide ((0 : Int) > 0) = false := by decide
  go_enter Tryz.func92, Tryz.ntmps92
  go_wp2_with fail
  go_quiet (fail)
  go_wp2
  go_ret
  exact ⟨rfl, ho.drewN _⟩
theorem set_got (z : Value) (o : Option Nat) (bx n c : Nat) (f : List Int) (w : World) (hz : Room w z o) (hx : Blk w bx f) (hn : 0 < n) (hnf : n ≤ f.length) (hm : n + 4 ≤ most) (hw : Nrm f n) :
    Calls Tryz.prog 87 #[z, .slice (some ⟨bx, 0, none⟩) n c] w (Got w o (num (fun i => f.getD i 0) n)) := by
  refine (set_any z o bx n c f w hz hx hn hnf hm).mono ?_
  rintro e w' ⟨b, zs, rfl, hb, h1, h2, ho, hob, hv⟩
  refine ⟨_, some b, rfl, .own b n zs _ hb h1 h2 ⟨fun i hi => ?_, fun h => ?_⟩ (num_congr n hv), ho, ?_⟩
  · show 0 ≤ zs.getD i 0 ∧ zs.getD i 0 < _
    rw [hv i hi]; exact hw.1 i hi
  · rw [hv _ (by omega)]; exact hw.2 h
  · rcases hob with h | h
    · exact .inl h.symm
    · exact .inr ⟨b, rfl, h⟩
set_option maxRecDepth 100000 in
set_option maxHeartbeats 1000000 in
theorem rsh_none (bx m c : Nat) (xs : List Int) (w : World) (hx : Blk w bx xs) (hm : 0 < m) (hmx : m ≤ xs.length) (hm4 : m + 4 ≤ most) (hw : Nrm xs m) :
    Calls Tryz.prog 65 #[.slice none 0 0, .slice (some ⟨bx, 0, none⟩) m c, .int .u64 0] w (Got w none (num (fun i => xs.getD i 0) m)) := by
  have hs : ∀ w1, Only w w1 (fun _ => False) → Calls Tryz.prog 87 #[.slice none 0 0, .slice (some ⟨bx, 0, none⟩) m c] w1 (Got w1 none (num (fun i => xs.getD i 0) m)) := fun w1 ho => set_got (.slice none 0 0) none bx m c xs w1 .nil (ho.blk hx (fun h => h)) hm hmx hm4 hw
  go_enter Tryz.func65, Tryz.ntmps65
  go_wp2_with fail
  refine (same_none _ m c w hm).mono ?_
  rintro e w1 ⟨rfl, ho1⟩
  go_wp2_with fail
  refine (alias_none _ m c w1).mono ?_
  rintro e w2 ⟨rfl, ho2⟩
  go_wp2_with fail
  refine (hs w2 (ho1.trans ho2)).mono ?_
  rintro e w3 hg
  obtain ⟨v, o', rfl, hv⟩ := hg.after (ho1.trans ho2)
  go_wp2_with fail
  go_ret
  exact ⟨v, o', rfl, hv⟩
set_option maxRecDepth 100000 in
set_option maxHeartbeats 1000000 in
theorem lsh_none (bx m c : Nat) (xs : List Int) (w : World) (hx : Blk w bx xs) (hm : 0 < m) (hmx : m ≤ xs.length) (hm4 : m + 4 ≤ most) (hw : Nrm xs m) :
    Calls Tryz.prog 60 #[.slice none 0 0, .slice (some ⟨bx, 0, none⟩) m c, .int .u64 0] w (Got w none (num (fun i => xs.getD i 0) m)) := by
  have hs : ∀ w1, Only w w1 (fun _ => False) → Calls Tryz.prog 87 #[.slice none 0 0, .slice (some ⟨bx, 0, none⟩) m c] w1 (Got w1 none (num (fun i => xs.getD i 0) m)) := fun w1 ho => set_got (.slice none 0 0) none bx m c xs w1 .nil (ho.blk hx (fun h => h)) hm hmx hm4 hw
  go_enter Tryz.func60, Tryz.ntmps60
  go_wp2_with fail
  refine (same_none _ m c w hm).mono ?_
  rintro e w1 ⟨rfl, ho1⟩
  go_wp2_with fail
  refine (alias_none _ m c w1).mono ?_
  rintro e w2 ⟨rfl, ho2⟩
  go_wp2_with fail
  refine (hs w2 (ho1.trans ho2)).mono ?_
  rintro e w3 hg
  obtain ⟨v, o', rfl, hv⟩ := hg.after (ho1.trans ho2)
  go_wp2_with fail
  go_ret
  exact ⟨v, o', rfl, hv⟩
set_option maxRecDepth 100000 in
set_option maxHeartbeats 1000000 in
theorem lsh_zero (z A : Option Addr) (zn zc c s : Nat) (w : World) (hs : 0 < s) (hs2 : s < 18446744073709551616) :
    Calls Tryz.prog 60 #[.slice z zn zc, .slice A 0 c, .int .u64 (s : Int)] w fun e w' => e = .returned (.slice z 0 zc) ∧ w' = w := by
  have h1 : ((s : Int) == 0) = false := by rw [beq_eq_false_iff_ne]; omega
  go_enter Tryz.func60, Tryz.ntmps60
  go_wp2
  go_ret
  exact ⟨rfl, rfl⟩
end Go.Proofs.YtflhdplfkpdejaaGreatFmt
namespace Go.Proofs.YtflhdplfkpdejaaGreatFmt
open Go.RowKit Go.Proofs.YtflhdplfkpdejaaGreatFmtW.PrintWords
theorem num_nonneg {f : Nat → Int} {n : Nat} (h : Wd f n) : 0 ≤ num f n := (num_range n h).1
theorem Nrm.low {ys : List Int} {n : Nat} (h : Nrm ys n) (hn : 0 < n) : 2 ^ (64 * (n - 1)) ≤ num (fun i => ys.getD i 0) n := by
  obtain ⟨m, rfl⟩ : ∃ m, n = m + 1 := ⟨n - 1, by omega⟩
  have h1 := h.2 hn
  have h2 := (h.1 m (by omega)).1
  have h3 := num_nonneg (f := fun i => ys.getD i 0) (n := m) (fun i hi => h.1 i (by omega))
  rw [Nat.add_sub_cancel] at h1 ⊢
  simp only at h2
  rw [num]
  have h4 : (1 : Int) * 2 ^ (64 * m) ≤ ys.getD m 0 * 2 ^ (64 * m) := Int.mul_le_mul_of_nonneg_right (by omega) (Int.le_of_lt (Int.pow_pos (by omega)))
  omega
theorem Nrm.pos {ys : List Int} {n : Nat} (h : Nrm ys n) (hn : 0 < n) : 0 < num (fun i => ys.getD i 0) n :=
  Int.lt_of_lt_of_le (Int.pow_pos (by omega)) (h.low hn)
theorem IsNat.cases_ {w : World} {v : Value} {o : Option Nat} {x : Int} (h : IsNat w v o x) :
    (x = 0 ∧ ∃ A c, v = .slice A 0 c) ∨ (0 < x ∧ ∃ b n ys, o = some b ∧ v = .slice (some ⟨b, 0, none⟩) n ys.length ∧ Blk w b ys ∧ 0 < n ∧ n ≤ ys.length ∧ ys.length ≤ most ∧ Nrm ys n ∧ num (fun i => ys.getD i 0) n = x) := by
  cases h with
  | nil => exact .inl ⟨rfl, _, _, rfl⟩
  | own b n ys x hb hn hm hw hx =>
    by_cases h0 : n = 0
    · subst h0
      exact .inl ⟨hx.symm, _, _, rfl⟩
    · exact .inr ⟨by rw [← hx]; exact hw.pos (by omega), b, n, ys, rfl, rfl, hb, by omega, hn, hm, hw, hx⟩
theorem Room.cut {w : World} {v : Value} {o : Option Nat} (h : Room w v o) : ∃ A n c, v = .slice A n c ∧ IsNat w (.slice A 0 c) o 0 := by
  cases h with
  | nil => exact ⟨_, _, _, rfl, .nil⟩
  | own b n zs hb hn hm => exact ⟨_, _, _, rfl, .own b 0 zs 0 hb (Nat.zero_le _) hm ⟨fun i hi => by omega, fun h => by omega⟩ rfl⟩
def Fits (x : Int) : Prop := ∃ k : Nat, k ≤ 1073741824 ∧ x < 2 ^ k
theorem Fits.le {x y : Int} (h : Fits y) (hxy : x ≤ y) : Fits x := by
  obtain ⟨k, h1, h2⟩ := h
  exact ⟨k, h1, Int.lt_of_le_of_lt hxy h2⟩
theorem Fits.of {x : Int} {k : Nat} (h : x < 2 ^ k) (hk : k ≤ 1073741824) : Fits x := ⟨k, hk, h⟩
theorem pow_lt {a b : Nat} (h : (2 : Int) ^ a < 2 ^ b) : a < b := by
  rcases Nat.lt_or_ge a b with h1 | h1
  · exact h1
  · have : (2 : Int) ^ b ≤ 2 ^ a := by
      rw [two_pow_cast, two_pow_cast]
      exact Int.ofNat_le.2 (Nat.pow_le_pow_right (by omega) h1)
    omega
theorem Nrm.short {ys : List Int} {n : Nat} (h : Nrm ys n) (hx : Fits (num (fun i => ys.getD i 0) n)) : n ≤ 16777217 := by
  by_cases h0 : n = 0
  · omega
  · obtain ⟨k, hk, hlt⟩ := hx
    have := pow_lt (Int.lt_of_le_of_lt (h.low (by omega)) hlt)
    omega
end Go.Proofs.YtflhdplfkpdejaaGreatFmt
namespace Go.Proofs.YtflhdplfkpdejaaGreatFmt
open Go.RowKit Go.Proofs.YtflhdplfkpdejaaGreatFmtW.PrintWords
theorem IsNat.of_words {w : World} {b m : Nat} {ys : List Int} (hb : Blk w b ys) (hm : m ≤ ys.length) (hl : ys.length ≤ most) (hw : Wd (fun i => ys.getD i 0) m) : IsNat w (.slice (some ⟨b, 0, none⟩) (nlen ys m) ys.length) (some b) (num (fun i => ys.getD i 0) m) :=
  .own b _ ys _ hb (Nat.le_trans (nlen_le ys m) hm) hl ⟨fun i hi => hw i (Nat.lt_of_lt_of_le hi (nlen_le ys m)), nlen_word ys m⟩ (num_nlen ys m)
theorem lsh_nat (vz : Value) (oz : Option Nat) (vx : Value) (ox : Option Nat) (x : Int) (s : Nat) (w : World) (hz : Room w vz oz) (hx : IsNat w vx ox x) (hf : Fits x) (hs : 0 < s) (hs2 : s < 64) :
    Calls Tryz.prog 60 #[vz, vx, .int .u64 (s : Int)] w (Got w oz (x * 2 ^ s)) := by
  have hmm : most = 274877906944 := rfl
  rcases hx.cases_ with ⟨rfl, A, c, rfl⟩ | ⟨hp, b, n, ys, rfl, rfl, hb, hn, hny, hym, hr, rfl⟩
  · obtain ⟨B, m, c', rfl, hz0⟩ := hz.cut
    refine (lsh_zero B A m c' c s w hs (by omega)).mono ?_
    rintro e w' ⟨rfl, rfl⟩
    exact ⟨_, oz, rfl, by simpa using hz0, Only.refl _ _, .inl rfl⟩
  · have := hr.short hf
    exact lsh_small vz oz b n ys.length s ys w hz hb hn hny (by omega) hr.1 hs hs2
set_option maxRecDepth 100000 in
set_option maxHeartbeats 1000000 in
theorem rsh_less (z A : Option Addr) (zn zc m c s : Nat) (w : World) (hs : 0 < s) (hs2 : s < 1152921504606846976) (h : m ≤ s / 64) :
    Calls Tryz.prog 65 #[.slice z zn zc, .slice A m c, .int .u64 (s : Int)] w fun e w' => e = .returned (.slice z 0 zc) ∧ w' = w := by
  have h1 : ((s : Int) == 0) = false := by rw [beq_eq_false_iff_ne]; omega
  have h2 : (m : Int) - (s : Int) / 64 ≤ 0 := by omega
  have h3 : (m : Int) ≤ 18014398509481984 := by omega
  go_enter Tryz.func65, Tryz.ntmps65
  go_wp2
  go_ret
  exact ⟨rfl, rfl⟩
theorem rsh_nat (vz : Value) (oz : Option Nat) (vx : Value) (ox : Option Nat) (x : Int) (s : Nat) (w : World) (hz : Room w vz oz) (hx : IsNat w vx ox x) (hf : Fits x) (hs : 0 < s) (hs2 : s < 1099511627776) :
    Calls Tryz.prog 65 #[vz, vx, .int .u64 (s : Int)] w (Got w oz (x / 2 ^ s)) := by
  have hmm : most = 274877906944 := rfl
  have none_ : ∀ A m c, vx = .slice A m c → m ≤ s / 64 → x / 2 ^ s = 0 → Calls Tryz.prog 65 #[vz, vx, .int .u64 (s : Int)] w (Got w oz (x / 2 ^ s)) := by
    rintro A m c rfl hm h0
    obtain ⟨B, k, c', rfl, hz0⟩ := hz.cut
    refine (rsh_less B A k c' m c s w hs (by omega) hm).mono ?_
    rintro e w' ⟨rfl, rfl⟩
    exact ⟨_, oz, rfl, by rw [h0]; exact hz0, Only.refl _ _, .inl rfl⟩
  rcases hx.cases_ with ⟨rfl, A, c, rfl⟩ | ⟨hp, b, n, ys, rfl, rfl, hb, hn, hny, hym, hr, rfl⟩
  · exact none_ A 0 c rfl (Nat.zero_le _) (by simp)
  · have := hr.short hf
    by_cases h : n ≤ s / 64
    · refine none_ _ n _ rfl h (Int.ediv_eq_zero_of_lt (Int.le_of_lt hp) (Int.lt_of_lt_of_le (num_range n hr.1).2 ?_))
      exact_mod_cast Nat.pow_le_pow_right (by omega : 0 < 2) (by omega : 64 * n ≤ s)
    · obtain ⟨q, r, rfl, hr64⟩ : ∃ q r, s = 64 * q + r ∧ r < 64 := ⟨s / 64, s % 64, by omega, by omega⟩
      by_cases h0 : r = 0
      · subst h0
        exact rsh_words vz oz b n ys.length q (n - q) ys w hz hb (by omega) (by omega) hny hny hym hr.1 (by omega) (by omega) (by omega)
      · exact rsh_bits vz oz b n ys.length q r (n - q) ys w hz hb (by omega) (by omega) hny hny hym hr.1 (by omega) hr64 (by omega) (by omega)
set_option maxRecDepth 100000 in
theorem norm_zero (A : Option Addr) (c : Nat) (w : World) : Calls Tryz.prog 95 #[.slice A 0 c] w fun e w' => e = .returned (.slice A 0 c) ∧ w' = w := by
  go_enter Tryz.func95, Tryz.ntmps95
  go_wp2
  go_loop [3] (fun i => i = .int .i64 0) (fun _ => 0)
  case atStart => rfl
  case round =>
    obtain rfl := hrel
    go_wp2
    go_ret
    exact ⟨rfl, rfl⟩
end Go.Proofs.YtflhdplfkpdejaaGreatFmt
namespace Go.Proofs.YtflhdplfkpdejaaGreatFmt
open Go.RowKit Go.Proofs.YtflhdplfkpdejaaGreatFmtW.PrintWords
theorem copy_none (A B : Option Addr) (c1 c2 : Nat) (ty : TypeId) (w : World) : (Builtin.copy_ #[74, 74] ty #[.slice A 0 c1, .slice B 0 c2]).run Tryz.prog w = .ok (goInt 0) w :=
  run_copy_none w _ _ ty 89 A B 0 c1 0 c2 Tryz.underlying74 (by kernel_rfl) (by simp)
theorem or_mul (a b : Int) (k : Nat) (hk : k < 64) (ha : 0 ≤ a) (ha2 : a < 18446744073709551616) (hm : a % 2 ^ k = 0) (hb : 0 ≤ b) (hb2 : b < 2 ^ k) : bits .or .u64 a b = a + b := by
  obtain ⟨x, rfl⟩ : ∃ x : Nat, a = x := ⟨a.toNat, by omega⟩
  obtain ⟨y, rfl⟩ : ∃ y : Nat, b = y := ⟨b.toNat, by omega⟩
  rw [two_pow_cast] at hm hb2
  have h1 : x % 2 ^ k = 0 := by exact_mod_cast hm
  have h2 : y < 2 ^ k := by exact_mod_cast hb2
  have h3 : 2 ^ k < 2 ^ 64 := Nat.pow_lt_pow_right (by omega) hk
  rw [u64_or_nat _ _ (by omega) (by omega), nat_join k x y h1 h2, Int.natCast_add]
theorem and_30 (a : Int) (ha : 0 ≤ a) (ha2 : a < 18446744073709551616) : bits .and .u64 a 1073741823 = a % 1073741824 := by
  obtain ⟨x, rfl⟩ : ∃ x : Nat, a = x := ⟨a.toNat, by omega⟩
  have h := u64_and_nat x 1073741823 (by omega) (by omega)
  have e : ((1073741823 : Nat) : Int) = 1073741823 := rfl
  rw [e] at h
  rw [h, Nat.and_two_pow_sub_one_eq_mod x 30]
  rfl
theorem num_low (f : Nat → Int) (m k : Nat) (hm : 0 < m) (hk : k ≤ 64) : num f m % 2 ^ k = f 0 % 2 ^ k := by
  obtain ⟨n, rfl⟩ : ∃ n, m = 1 + n := ⟨m - 1, by omega⟩
  rw [num_add]
  have e : num f 1 = f 0 := by simp [num]
  rw [e, show 64 * 1 = k + (64 - k) by omega, Int.pow_add, ← Int.mul_assoc, Int.mul_right_comm, Int.add_mul_emod_self_right]
set_option maxRecDepth 100000 in
set_option maxHeartbeats 1000000 in
theorem or_none (z : Value) (o : Option Nat) (A B : Option Addr) (c d : Nat) (w : World) (hz : Room w z o) :
    Calls Tryz.prog 67 #[z, .slice A 0 c, .slice B 0 d] w (Got w o 0) := by
  have hcp := copy_none
  have hcut : ∀ A c, Room w (.slice A 0 c) o → IsNat w (.slice A 0 c) o 0 := fun A c h => by
    obtain ⟨A', n', c', e, h'⟩ := h.cut
    cases e; exact h'
  go_enter Tryz.func67, Tryz.ntmps67
  go_wp2_with fail
  refine (make_zero z o w hz).mono ?_
  rintro e w1 ⟨v, rfl, rfl, hv, A', c', rfl⟩
  have hv0 := hcut _ _ hv
  have HV := Lib.hid hv0
  clear hcut hv hv0
  go_wp2_with fail
  go_loopw [10] (fun si wr => si = .int .i64 0 ∧ wr = w1) (fun _ _ => 0)
  case atStart => exact ⟨rfl, rfl⟩
  case round =>
    obtain ⟨rfl, rfl⟩ := hrel
    go_wp2_with fail
    go_region
    go_wp2_with fail
    refine (norm_zero _ _ _).mono ?_
    rintro e w2 ⟨rfl, rfl⟩
    go_wp2_with fail
    go_ret
    exact ⟨_, o, rfl, HV.out.only (Only.refl _ _).drew (fun _ _ h => h), (Only.refl _ _).drew, .inl rfl⟩
end Go.Proofs.YtflhdplfkpdejaaGreatFmt
namespace Go.Proofs.YtflhdplfkpdejaaGreatFmt
open Go.RowKit Go.Proofs.YtflhdplfkpdejaaGreatFmtW.PrintWords
set_option maxRecDepth 100000 in
set_option maxHeartbeats 2000000 in
theorem newInt_pos (x : Int) (w : World) (h : 0 < x) (h2 : x < 9223372036854775808) :
    Calls Tryz.prog 31 #[.int .i64 x] w fun e w' => ∃ g, e = .returned (.pointer (some ⟨g, 0, none⟩)) ∧ ∃ b, Blk w' b [x] ∧ w'.heap[g]? = some (.cells #[.bool false, .slice (some ⟨b, 0, none⟩) 1 1] 76 (0, 0)) ∧ Only w w' (fun _ => False) ∧ w.heap.size ≤ b ∧ w.heap.size ≤ g := by
  have h1 : ¬ x < 0 := by omega
  have h3 : (x == 0) = false := by rw [beq_eq_false_iff_ne]; omega
  go_enter Tryz.func31, Tryz.ntmps31
  go_wp2
  go_ret
  have hb : Blk (w.alloc (.cells (words [x]) 89)) w.heap.size [x] := Blk.new w [x]
  have hg : ((w.alloc (.cells (words [x]) 89)).alloc (.cells #[.bool false, .slice (some ⟨w.heap.size, 0, none⟩) 1 1] 76)).heap[w.heap.size + 1]? = some (.cells #[.bool false, .slice (some ⟨w.heap.size, 0, none⟩) 1 1] 76 (0, 0)) := by
    have e : (w.alloc (.cells (words [x]) 89)).heap.size = w.heap.size + 1 := by simp
    rw [← e]
    exact heap_alloc_new _ _
  exact ⟨_, rfl, _, blk_alloc hb _, hg, ((Only.refl _ _).alloc _).alloc _, Nat.le_refl _, Nat.le_succ _⟩
set_option maxRecDepth 100000 in
set_option maxHeartbeats 2000000 in
theorem newInt_zero (w : World) :
    Calls Tryz.prog 31 #[.int .i64 0] w fun e w' => e = .returned (.pointer (some ⟨w.heap.size, 0, none⟩)) ∧ w' = w.alloc (.cells #[.bool false, .slice none 0 0] 76) := by
  go_enter Tryz.func31, Tryz.ntmps31
  go_wp2
  go_ret
  exact ⟨rfl, rfl⟩
end Go.Proofs.YtflhdplfkpdejaaGreatFmt
namespace Go.Proofs.YtflhdplfkpdejaaGreatFmt
open Go.RowKit Go.Proofs.YtflhdplfkpdejaaGreatFmtW.PrintWords
def IsInt (w : World) (g : Nat) (o : Option Nat) (z : Int) : Prop := ∃ v, w.heap[g]? = some (.cells #[.bool (decide (z < 0)), v] 76 (0, 0)) ∧ IsNat w v o (Int.natAbs z)
theorem IsInt.only {w w' : World} {S : Nat → Prop} {g : Nat} {o : Option Nat} {z : Int} (h : IsInt w g o z) (hw : Only w w' S) (hg : ¬ S g) (hs : ∀ b, o = some b → ¬ S b) : IsInt w' g o z := by
  obtain ⟨v, h1, h2⟩ := h
  exact ⟨v, (hw.kept g (blk_lt h1) hg).trans h1, h2.only hw hs⟩
theorem IsNat.lt {w : World} {v : Value} {o : Option Nat} {x : Int} (h : IsNat w v o x) (b : Nat) (hb : o = some b) : b < w.heap.size := by
  cases h with
  | nil => cases hb
  | own b n ys x hB hn hm hw hx => cases hb; exact blk_lt hB
theorem IsInt.lt {w : World} {g : Nat} {o : Option Nat} {z : Int} (h : IsInt w g o z) : g < w.heap.size := by
  obtain ⟨v, h1, h2⟩ := h
  exact blk_lt h1
theorem IsInt.lt' {w : World} {g : Nat} {o : Option Nat} {z : Int} (h : IsInt w g o z) (b : Nat) (hb : o = some b) : b < w.heap.size := by
  obtain ⟨v, h1, h2⟩ := h
  exact h2.lt b hb
theorem IsNat.apart {w : World} {v : Value} {o : Option Nat} {x : Int} (h : IsNat w v o x) {g : Nat} {cs : Array Value} (hg : w.heap[g]? = some (.cells cs 76 (0, 0))) : o ≠ some g := by
  cases h with
  | nil => exact fun h => by cases h
  | own b n ys x hb hn hm hw hx =>
    intro h
    cases h
    exact blk_ne hg hb (by decide) rfl
theorem Room.apart {w : World} {v : Value} {o : Option Nat} (h : Room w v o) {g : Nat} {cs : Array Value} (hg : w.heap[g]? = some (.cells cs 76 (0, 0))) : o ≠ some g := by
  cases h with
  | nil => exact fun h => by cases h
  | own b n ys hb hn hm =>
    intro h
    cases h
    exact blk_ne hg hb (by decide) rfl
def Put (w w' : World) (g : Nat) (o : Option Nat) (r : Int) : Prop := ∃ o', IsInt w' g o' r ∧ Only w w' (fun k => k = g ∨ o = some k) ∧ (o' = o ∨ ∃ b, o' = some b ∧ w.heap.size ≤ b)
theorem IsNat.store {w : World} {v : Value} {o : Option Nat} {x : Int} (h : IsNat w v o x) {p : Addr} (hp : o ≠ some p.block) (u : Value) : IsNat (w.setCell p u) v o x := by
  refine h.only (S := fun k => k = p.block) ((Only.refl w (fun k => k = p.block)).set (.inr rfl) u) ?_
  rintro b rfl rfl
  exact hp rfl
theorem put_both {w w1 : World} {g : Nat} {o o' : Option Nat} {z r : Int} {v : Value} (h : IsInt w g o z) (hv : IsNat w1 v o' (Int.natAbs r)) (ho : Only w w1 (fun k => o = some k)) (hoo : o' = o ∨ ∃ b, o' = some b ∧ w.heap.size ≤ b) :
    Put w ((w1.setCell ⟨g, 1, none⟩ v).setCell ⟨g, 0, none⟩ (.bool (decide (r < 0)))) g o r := by
  obtain ⟨v0, hg, hn⟩ := h
  have ha := hn.apart hg
  have hg1 := (ho.kept g (blk_lt hg) ha).trans hg
  have ha1 := hv.apart hg1
  refine ⟨o', ⟨v, ?_, ?_⟩, ?_, hoo⟩
  · have := blk_set (blk_set hg1 1 v) 0 (.bool (decide (r < 0)))
    simpa using this
  · exact (hv.store ha1 _).store ha1 _
  · exact ((ho.mono (fun _ _ h => .inr h)).set (.inr (.inl rfl)) _).set (.inr (.inl rfl)) _
theorem put_sign {w : World} {g : Nat} {o : Option Nat} {z r : Int} (h : IsInt w g o z) (hr : Int.natAbs r = Int.natAbs z) : Put w (w.setCell ⟨g, 0, none⟩ (.bool (decide (r < 0)))) g o r := by
  obtain ⟨v0, hg, hn⟩ := h
  have ha := hn.apart hg
  refine ⟨o, ⟨v0, ?_, ?_⟩, (Only.refl _ _).set (.inr (.inl rfl)) _, .inl rfl⟩
  · have := blk_set hg 0 (.bool (decide (r < 0)))
    simpa using this
  · rw [hr]; exact hn.store ha _
theorem IsInt.cells {w : World} {g : Nat} {o : Option Nat} {z : Int} (h : IsInt w g o z) : ∃ v, w.cell? ⟨g, 0, none⟩ = some (.bool (decide (z < 0))) ∧ w.cell? ⟨g, 1, none⟩ = some v ∧ w.frozen? ⟨g, 0, none⟩ = false ∧ w.frozen? ⟨g, 1, none⟩ = false ∧ IsNat w v o (Int.natAbs z) := by
  obtain ⟨v, hg, hn⟩ := h
  exact ⟨v, blk_cell hg 0, blk_cell hg 1, blk_frozen hg 0, blk_frozen hg 1, hn⟩
theorem natAbs_zero {z : Int} (h : ((Int.natAbs z : Nat) : Int) = 0) : z = 0 := by omega
theorem natAbs_pos {z : Int} (h : 0 < ((Int.natAbs z : Nat) : Int)) : z ≠ 0 := by omega
set_option maxRecDepth 100000 in
set_option maxHeartbeats 1000000 in
theorem sign_int (g : Nat) (o : Option Nat) (z : Int) (w : World) (h : IsInt w g o z) :
    Calls Tryz.prog 34 #[.pointer (some ⟨g, 0, none⟩)] w fun e w' => e = .returned (.int .i64 z.sign) ∧ w' = w := by
  obtain ⟨v, c0, c1, _, _, hn⟩ := h.cells
  rcases hn.cases_ with ⟨hz, A, c, rfl⟩ | ⟨hp, b, n, ys, rfl, rfl, hb, hn0, hny, hym, hr, hx⟩
  · obtain rfl := natAbs_zero hz
    clear hn h hz
    go_enter Tryz.func34, Tryz.ntmps34
    go_wp2
    go_ret
    exact ⟨rfl, rfl⟩
  · have hz := natAbs_pos hp
    have h1 : ((n : Int) == 0) = false := by rw [beq_eq_false_iff_ne]; omega
    by_cases hs : z < 0
    · have e : z.sign = -1 := Int.sign_eq_neg_one_of_neg hs
      rw [e]
      have hd : decide (z < 0) = true := decide_eq_true hs
      rw [hd] at c0
      clear hn h hx hp e hd hs hz
      go_enter Tryz.func34, Tryz.ntmps34
      go_wp2
      go_ret
      exact ⟨rfl, rfl⟩
    · have e : z.sign = 1 := Int.sign_eq_one_of_pos (by omega)
      rw [e]
      have hd : decide (z < 0) = false := decide_eq_false hs
      rw [hd] at c0
      clear hn h hx hp e hd hs hz
      go_enter Tryz.func34, Tryz.ntmps34
      go_wp2
      go_ret
      exact ⟨rfl, rfl⟩
end Go.Proofs.YtflhdplfkpdejaaGreatFmt
namespace Go.Proofs.YtflhdplfkpdejaaGreatFmt
open Go.RowKit Go.Proofs.YtflhdplfkpdejaaGreatFmtW.PrintWords
theorem IsNat.drew {w : World} {v : Value} {o : Option Nat} {x : Int} (h : IsNat w v o x) : IsNat w.drew v o x := h.only (Only.refl w (fun _ => False)).drew (fun _ _ h => h)
theorem sign_pow (x : Int) (s : Nat) : decide (x * 2 ^ s < 0) = decide (x < 0) := by
  have h : (0 : Int) < 2 ^ s := Int.pow_pos (by omega)
  rcases Int.lt_or_le x 0 with h1 | h1
  · have := Int.mul_neg_of_neg_of_pos h1 h
    rw [decide_eq_true h1, decide_eq_true this]
  · have := Int.mul_nonneg h1 (Int.le_of_lt h)
    rw [decide_eq_false (by omega), decide_eq_false (by omega)]
theorem natAbs_pow (x : Int) (s : Nat) : ((Int.natAbs (x * 2 ^ s) : Nat) : Int) = Int.natAbs x * 2 ^ s := by
  rw [Int.natAbs_mul, Int.natAbs_pow, Int.natCast_mul, Int.natCast_pow]; rfl
theorem IsNat.slice_ {w : World} {v : Value} {o : Option Nat} {x : Int} (h : IsNat w v o x) : ∃ A n c, v = .slice A n c := by
  cases h with
  | nil => exact ⟨_, _, _, rfl⟩
  | own b n ys x hb hn hm hw hx => exact ⟨_, _, _, rfl⟩
theorem blk_held {w w1 : World} {oz : Option Nat} {vz : Value} {n : Int} (hn : IsNat w vz oz n) {g : Nat} {cs : Array Value} (hg : w.heap[g]? = some (.cells cs 76 (0, 0))) (ho : Only w.drew w1 (fun k => oz = some k)) : w1.heap[g]? = some (.cells cs 76 (0, 0)) :=
  (ho.kept g (blk_lt hg) (hn.apart hg)).trans hg
theorem Put.from_drew {w w1 : World} {g : Nat} {o o' : Option Nat} {z r : Int} {v : Value} (h : IsInt w g o z) (hv : IsNat w1 v o' (Int.natAbs r)) (ho : Only w.drew w1 (fun k => o = some k)) (hoo : o' = o ∨ ∃ b, o' = some b ∧ w.drew.heap.size ≤ b) :
    Put w ((w1.setCell ⟨g, 1, none⟩ v).setCell ⟨g, 0, none⟩ (.bool (decide (r < 0)))) g o r := put_both h hv ((Only.refl w _).drew.trans ho) hoo
set_option maxRecDepth 100000 in
set_option maxHeartbeats 2000000 in
theorem lsh_int (gz gx : Nat) (oz ox : Option Nat) (z x : Int) (s : Nat) (w : World) (hz : IsInt w gz oz z) (hx : IsInt w gx ox x) (hf : Fits (Int.natAbs x)) (hs : 0 < s) (hs2 : s < 64) :
    Calls Tryz.prog 37 #[.pointer (some ⟨gz, 0, none⟩), .pointer (some ⟨gx, 0, none⟩), .int .u64 (s : Int)] w fun e w' => e = .returned (.pointer (some ⟨gz, 0, none⟩)) ∧ Put w w' gz oz (x * 2 ^ s) := by
  obtain ⟨vz, hgz, hnz⟩ := id hz
  obtain ⟨vx, hgx, hnx⟩ := id hx
  have hz1 : Room w.drew vz oz := hnz.drew.room
  have hx1 := hnx.drew
  have c1 : w.cell? ⟨gz, 1, none⟩ = some vz := blk_cell hgz 1
  have d1 : w.cell? ⟨gx, 1, none⟩ = some vx := blk_cell hgx 1
  have K : ∀ w1, Only w.drew w1 (fun k => oz = some k) → w1.cell? ⟨gz, 1, none⟩ = some vz ∧ w1.frozen? ⟨gz, 1, none⟩ = false ∧ w1.frozen? ⟨gz, 0, none⟩ = false ∧ w1.cell? ⟨gz, 0, none⟩ = some (.bool (decide (z < 0))) ∧ w1.cell? ⟨gx, 0, none⟩ = some (.bool (decide (x * 2 ^ s < 0))) := fun w1 ho => by
    have e1 := blk_held hnz hgz ho
    have e2 := blk_held hnz hgx ho
    exact ⟨blk_cell e1 1, blk_frozen e1 1, blk_frozen e1 0, blk_cell e1 0, by rw [sign_pow]; exact blk_cell e2 0⟩
  have HK := Lib.hid K
  clear K
  go_enter Tryz.func37, Tryz.ntmps37
  go_wp2_with fail
  go_region_law (go_simp; go_at_call 60; refine (lsh_nat vz oz vx ox _ s _ hz1 hx1 hf hs hs2).mono ?_; rintro e w1 ⟨v, o', rfl, hv, ho, hoo⟩; obtain ⟨A, n, c, rfl⟩ := hv.slice_; obtain ⟨k1, k2, k3, k4, k5⟩ := HK.out _ ho)
  all_goals
    go_wp2_with fail
    go_ret
    refine ⟨rfl, Put.from_drew hz (o' := o') ?_ ho hoo⟩
    rw [natAbs_pow]; exact hv
end Go.Proofs.YtflhdplfkpdejaaGreatFmt
namespace Go.Proofs.YtflhdplfkpdejaaGreatFmt
open Go.RowKit Go.Proofs.YtflhdplfkpdejaaGreatFmtW.PrintWords
theorem copy_all (b dc bx sc m : Nat) (zs xs : List Int) (w : World) (T ty : TypeId) (hT : Tryz.prog.underlying T = some (.slice 89)) (hb : Blk w b zs) (hx : Blk w bx xs) (hm : m ≤ zs.length) (hmx : m ≤ xs.length) :
    ∃ ys, (Builtin.copy_ #[T, T] ty #[.slice (some ⟨b, 0, none⟩) m dc, .slice (some ⟨bx, 0, none⟩) m sc]).run Tryz.prog w = .ok (goInt m) (w.setRow b (words ys)) ∧ ys.length = zs.length ∧ ∀ i, i < m → ys.getD i 0 = xs.getD i 0 := by
  have hx2 : ∀ j, j < m → w.cell? ⟨bx, 0 + j, none⟩ = some (.int .u64 (xs.getD j 0)) := fun j hj => (hx.cell (0 + j) (by omega)).trans (by rw [Nat.zero_add])
  refine ⟨_, copy_run b 0 m dc bx 0 m sc m zs (fun j => xs.getD j 0) w T ty hT hb (by simp) hx2 (by omega), length_splice _ _ _ (by simp; omega), fun i hi => ?_⟩
  rw [splice_at _ _ _ _ (by simp; omega), if_pos (by simp; omega)]
  simp [List.getD, hi]
set_option maxRecDepth 100000 in
set_option maxHeartbeats 2000000 in
theorem or_left (z : Value) (o : Option Nat) (bx m : Nat) (B : Option Addr) (cv : Nat) (xs : List Int) (w : World) (hz : Room w z o) (hx : Blk w bx xs) (hm : 0 < m) (hmx : m ≤ xs.length) (hm4 : m + 4 ≤ most) (hxw : Nrm xs m) :
    Calls Tryz.prog 67 #[z, .slice (some ⟨bx, 0, none⟩) m xs.length, .slice B 0 cv] w (Got w o (num (fun i => xs.getD i 0) m)) := by
  have hmm : most = 274877906944 := rfl
  have hm3 : m ≤ 274877906944 := by omega
  have hlt : ¬ (m : Int) < 0 := by omega
  have hmk : ∀ w, Room w z o → Calls Tryz.prog 93 #[z, .int .i64 (m : Int)] w fun e w' => ∃ b zs, e = .returned (.slice (some ⟨b, 0, none⟩) m zs.length) ∧ Blk w' b zs ∧ m ≤ zs.length ∧ zs.length ≤ most ∧ Only w w' (fun _ => False) ∧ ((o = some b ∧ w' = w) ∨ b = w.heap.size) := fun w h => make_any z o m w h (by omega) (by omega)
  have HX := Lib.hid hmm
  clear hmm
  go_enter Tryz.func67, Tryz.ntmps67
  go_wp2_with fail
  refine (hmk _ hz).mono ?_
  rintro e w1 ⟨b, zs, rfl, hb, hnz, hzm, ho, hob⟩
  go_wp2_with fail
  go_loopw [10] (fun si wr => si = .int .i64 0 ∧ wr = w1) (fun _ _ => 0)
  case atStart => exact ⟨rfl, rfl⟩
  case round =>
    obtain ⟨rfl, rfl⟩ := hrel
    have hx1 : Blk wr bx xs := ho.blk hx (fun h => h)
    obtain ⟨ys, hcp, hyl, hat⟩ := copy_all b zs.length bx xs.length m zs xs wr.drew 74 3 Tryz.underlying74 hb hx1 hnz hmx
    have HL := Lib.hid hyl
    have HA := Lib.hid hat
    clear hyl hat
    go_wp2_with fail
    have q1 : (0 : Int) ≤ m := by omega
    have q2 : (m : Int) ≤ zs.length := by omega
    have q3 : (m : Int) ≤ xs.length := by omega
    go_region
    have hyl := HL.out
    have hat := HA.out
    have hy3 : Blk (wr.drew.setRow b (words ys)) b ys := Blk.row (w := wr.drew) hb _
    have hn2 := norm_own b m zs.length _ _ hy3 (by omega) (by omega) (by have := HX.out; omega)
    clear hyl hat
    go_wp2_with fail
    refine hn2.mono ?_
    rintro e w4 ⟨rfl, hB4⟩
    go_wp2_with fail
    go_ret
    have hyl := HL.out
    have hat := HA.out
    have ho4 : Only (wr.drew.setRow b (words ys)) w4 (fun _ => False) := ⟨hB4.mono (Nat.zero_le _), fun i hi _ => hB4.block i hi⟩
    refine ⟨_, some b, rfl, ?_, ?_, ?_⟩
    · rw [← num_congr m hat, ← hyl]
      refine .of_words (ho4.blk hy3 (fun h => h)) (by omega) (by omega) (fun i hi => ?_)
      show 0 ≤ List.getD _ i 0 ∧ List.getD _ i 0 < _
      rw [hat i hi]; exact hxw.1 i hi
    · refine (((ho.mono (fun _ _ h => h.elim)).drew.row ?_ _).step ho4 (fun _ _ h => h.elim))
      rcases hob with ⟨h, _⟩ | h
      · exact .inr h
      · exact .inl (by omega)
    · rcases hob with ⟨h, _⟩ | h
      · exact .inl h.symm
      · exact .inr ⟨b, rfl, by omega⟩
set_option maxRecDepth 100000 in
set_option maxHeartbeats 2000000 in
theorem or_right (z : Value) (o : Option Nat) (bx m : Nat) (B : Option Addr) (cv : Nat) (xs : List Int) (w : World) (hz : Room w z o) (hx : Blk w bx xs) (hm : 0 < m) (hmx : m ≤ xs.length) (hm4 : m + 4 ≤ most) (hxw : Nrm xs m) :
    Calls Tryz.prog 67 #[z, .slice B 0 cv, .slice (some ⟨bx, 0, none⟩) m xs.length] w (Got w o (num (fun i => xs.getD i 0) m)) := by
  have hmm : most = 274877906944 := rfl
  have hm3 : m ≤ 274877906944 := by omega
  have hlt : (0 : Int) < (m : Int) := by omega
  have hmk : ∀ w, Room w z o → Calls Tryz.prog 93 #[z, .int .i64 (m : Int)] w fun e w' => ∃ b zs, e = .returned (.slice (some ⟨b, 0, none⟩) m zs.length) ∧ Blk w' b zs ∧ m ≤ zs.length ∧ zs.length ≤ most ∧ Only w w' (fun _ => False) ∧ ((o = some b ∧ w' = w) ∨ b = w.heap.size) := fun w h => make_any z o m w h (by omega) (by omega)
  have HX := Lib.hid hmm
  clear hmm
  go_enter Tryz.func67, Tryz.ntmps67
  go_wp2_with fail
  refine (hmk _ hz).mono ?_
  rintro e w1 ⟨b, zs, rfl, hb, hnz, hzm, ho, hob⟩
  go_wp2_with fail
  go_loopw [10] (fun si wr => si = .int .i64 0 ∧ wr = w1) (fun _ _ => 0)
  case atStart => exact ⟨rfl, rfl⟩
  case round =>
    obtain ⟨rfl, rfl⟩ := hrel
    have hx1 : Blk wr bx xs := ho.blk hx (fun h => h)
    obtain ⟨ys, hcp, hyl, hat⟩ := copy_all b zs.length bx xs.length m zs xs wr.drew 74 3 Tryz.underlying74 hb hx1 hnz hmx
    have HL := Lib.hid hyl
    have HA := Lib.hid hat
    clear hyl hat
    go_wp2_with fail
    have q1 : (0 : Int) ≤ m := by omega
    have q2 : (m : Int) ≤ zs.length := by omega
    have q3 : (m : Int) ≤ xs.length := by omega
    go_region
    have hyl := HL.out
    have hat := HA.out
    have hy3 : Blk (wr.drew.setRow b (words ys)) b ys := Blk.row (w := wr.drew) hb _
    have hn2 := norm_own b m zs.length _ _ hy3 (by omega) (by omega) (by have := HX.out; omega)
    clear hyl hat
    go_wp2_with fail
    refine hn2.mono ?_
    rintro e w4 ⟨rfl, hB4⟩
    go_wp2_with fail
    go_ret
    have hyl := HL.out
    have hat := HA.out
    have ho4 : Only (wr.drew.setRow b (words ys)) w4 (fun _ => False) := ⟨hB4.mono (Nat.zero_le _), fun i hi _ => hB4.block i hi⟩
    refine ⟨_, some b, rfl, ?_, ?_, ?_⟩
    · rw [← num_congr m hat, ← hyl]
      refine .of_words (ho4.blk hy3 (fun h => h)) (by omega) (by omega) (fun i hi => ?_)
      show 0 ≤ List.getD _ i 0 ∧ List.getD _ i 0 < _
      rw [hat i hi]; exact hxw.1 i hi
    · refine (((ho.mono (fun _ _ h => h.elim)).drew.row ?_ _).step ho4 (fun _ _ h => h.elim))
      rcases hob with ⟨h, _⟩ | h
      · exact .inr h
      · exact .inl (by omega)
    · rcases hob with ⟨h, _⟩ | h
      · exact .inl h.symm
      · exact .inr ⟨b, rfl, by omega⟩
end Go.Proofs.YtflhdplfkpdejaaGreatFmt
namespace Go.Proofs.YtflhdplfkpdejaaGreatFmt
open Go.RowKit Go.Proofs.YtflhdplfkpdejaaGreatFmtW.PrintWords
theorem or_nat (vz : Value) (oz : Option Nat) (vx : Value) (ox : Option Nat) (x : Int) (vy : Value) (oy : Option Nat) (y : Int) (k : Nat) (w : World) (hz : Room w vz oz) (hx : IsNat w vx ox x) (hy : IsNat w vy oy y) (hf : Fits x) (hk : k < 64) (hxk : x % 2 ^ k = 0) (hyk : y < 2 ^ k) :
    Calls Tryz.prog 67 #[vz, vx, vy] w (Got w oz (x + y)) := by
  have hmm : most = 274877906944 := rfl
  have hpk : (2 : Int) ^ k < 2 ^ 64 := by
    rw [two_pow_cast, two_pow_cast]
    exact Int.ofNat_lt.2 (Nat.pow_lt_pow_right (by omega) hk)
  have h64 : (2 : Int) ^ 64 = 18446744073709551616 := by decide
  rcases hx.cases_ with ⟨rfl, A, c, rfl⟩ | ⟨hp, b, n, ys, rfl, rfl, hb, hn, hny, hym, hr, rfl⟩
  · rcases hy.cases_ with ⟨rfl, B, d, rfl⟩ | ⟨hp', b', n', ys', rfl, rfl, hb', hn', hny', hym', hr', rfl⟩
    · exact or_none vz oz A B c d w hz
    · have := hr'.short (Fits.of (k := 64) (by omega) (by omega))
      have h := or_right vz oz b' n' A c ys' w hz hb' hn' hny' (by omega) hr'
      rw [Int.zero_add]; exact h
  · have hs := hr.short hf
    rcases hy.cases_ with ⟨rfl, B, d, rfl⟩ | ⟨hp', b', n', ys', rfl, rfl, hb', hn', hny', hym', hr', rfl⟩
    · have h := or_left vz oz b n B d ys w hz hb hn hny (by omega) hr
      rw [Int.add_zero]; exact h
    · obtain rfl : n' = 1 := by
        have := pow_lt (Int.lt_trans (Int.lt_of_le_of_lt (hr'.low hn') hyk) hpk)
        omega
      have e1 : num (fun i => ys'.getD i 0) 1 = ys'.getD 0 0 := by simp [num]
      rw [e1] at hyk ⊢
      have w0 := hr.1 0 hn
      have w1 := hr'.1 0 (by omega)
      simp only at w0 w1
      have hx0 : ys.getD 0 0 % 2 ^ k = 0 := by
        rw [← num_low (fun i => ys.getD i 0) n k hn (by omega)]; exact hxk
      have hor := or_mul (ys.getD 0 0) (ys'.getD 0 0) k hk w0.1 w0.2 hx0 w1.1 hyk
      refine (or_ge vz oz b n ys.length b' 1 ys'.length ys ys' w hz hb hb' (by omega) (by omega) hny hny hny' (by omega)).mono ?_
      rintro e w' ⟨g, zs, ho, hg, hB, rfl, h1, h2, hv⟩
      have hv0 : zs.getD 0 0 = ys.getD 0 0 + ys'.getD 0 0 := by
        have := hv 0 hn
        rw [if_pos (by omega)] at this
        exact this.trans hor
      have hvj : ∀ j, 0 < j → j < n → zs.getD j 0 = ys.getD j 0 := fun j a b => by
        have := hv j b
        rw [if_neg (by omega)] at this
        exact this
      have hlt : ys.getD 0 0 + ys'.getD 0 0 < 18446744073709551616 := by
        have e : (2 : Int) ^ 64 = 2 ^ k * 2 ^ (64 - k) := by rw [← Int.pow_add, show k + (64 - k) = 64 by omega]
        have hd := Int.mul_ediv_add_emod (ys.getD 0 0) (2 ^ k)
        rw [hx0, Int.add_zero] at hd
        have hq : ys.getD 0 0 / 2 ^ k < 2 ^ (64 - k) := by
          refine Int.ediv_lt_of_lt_mul (Int.pow_pos (by omega)) ?_
          rw [Int.mul_comm, ← e]; omega
        have hm : 2 ^ k * (ys.getD 0 0 / 2 ^ k) ≤ 2 ^ k * (2 ^ (64 - k) - 1) := Int.mul_le_mul_of_nonneg_left (by omega) (Int.le_of_lt (Int.pow_pos (by omega)))
        rw [hd, Int.mul_sub, ← e, Int.mul_one] at hm
        omega
      have hsum : num (fun i => zs.getD i 0) n = num (fun i => ys.getD i 0) n + ys'.getD 0 0 := by
        obtain ⟨m, rfl⟩ : ∃ m, n = 1 + m := ⟨n - 1, by omega⟩
        rw [num_add, num_add, num_congr (f := fun i => zs.getD (1 + i) 0) (g := fun i => ys.getD (1 + i) 0) m (fun j hj => hvj (1 + j) (by omega) (by omega))]
        have e2 : num (fun i => zs.getD i 0) 1 = zs.getD 0 0 := by simp [num]
        have e3 : num (fun i => ys.getD i 0) 1 = ys.getD 0 0 := by simp [num]
        rw [e2, e3, hv0]
        omega
      refine ⟨_, some g, rfl, ?_, ho, ?_⟩
      · rw [← hsum]
        refine .of_words hB h1 h2 (fun i hi => ?_)
        show 0 ≤ zs.getD i 0 ∧ zs.getD i 0 < _
        by_cases h0 : i = 0
        · subst h0; rw [hv0]; omega
        · rw [hvj i (by omega) hi]; exact hr.1 i hi
      · rcases hg with h | h
        · exact .inl h.symm
        · exact .inr ⟨g, rfl, h⟩
theorem and_nat (vz : Value) (oz : Option Nat) (vx : Value) (ox : Option Nat) (x : Int) (vy : Value) (oy : Option Nat) (w : World) (hz : Room w vz oz) (hx : IsNat w vx ox x) (hy : IsNat w vy oy 1073741823) (hp : 0 < x) (hf : Fits x) :
    Calls Tryz.prog 68 #[vz, vx, vy] w (Got w oz (x % 1073741824)) := by
  have hmm : most = 274877906944 := rfl
  rcases hx.cases_ with ⟨rfl, A, c, rfl⟩ | ⟨_, b, n, ys, rfl, rfl, hb, hn, hny, hym, hr, rfl⟩
  · omega
  · have hs := hr.short hf
    rcases hy.cases_ with ⟨h, B, d, rfl⟩ | ⟨hp', b', n', ys', rfl, rfl, hb', hn', hny', hym', hr', hy'⟩
    · omega
    · obtain rfl : n' = 1 := by
        have h1 := hr'.low hn'
        rw [hy'] at h1
        have := pow_lt (Int.lt_of_le_of_lt h1 (by decide : (1073741823 : Int) < 2 ^ 30))
        omega
      have e1 : num (fun i => ys'.getD i 0) 1 = ys'.getD 0 0 := by simp [num]
      rw [e1] at hy'
      have w0 := hr.1 0 hn
      simp only at w0
      have hlow : num (fun i => ys.getD i 0) n % 1073741824 = ys.getD 0 0 % 1073741824 := num_low (fun i => ys.getD i 0) n 30 hn (by omega)
      have hand := and_30 (ys.getD 0 0) w0.1 w0.2
      have fin : ∀ (e : Ending) (w' : World), (∃ g zs, Only w w' (fun k => oz = some k) ∧ (oz = some g ∨ w.heap.size ≤ g) ∧ Blk w' g zs ∧ e = .returned (.slice (some ⟨g, 0, none⟩) (nlen zs 1) zs.length) ∧ 1 ≤ zs.length ∧ zs.length ≤ most ∧ ∀ i, i < 1 → zs.getD i 0 = bits .and .u64 (ys.getD i 0) (ys'.getD i 0)) → Got w oz (num (fun i => ys.getD i 0) n % 1073741824) e w' := by
        rintro e w' ⟨g, zs, ho, hg, hB, rfl, h1, h2, hv⟩
        have hv0 : zs.getD 0 0 = ys.getD 0 0 % 1073741824 := (hv 0 (by omega)).trans (by rw [hy']; exact hand)
        have e2 : num (fun i => zs.getD i 0) 1 = zs.getD 0 0 := by simp [num]
        refine ⟨_, some g, rfl, ?_, ho, ?_⟩
        · rw [hlow, ← hv0, ← e2]
          refine .of_words hB h1 h2 (fun i hi => ?_)
          obtain rfl : i = 0 := by omega
          show 0 ≤ zs.getD 0 0 ∧ zs.getD 0 0 < _
          rw [hv0]; omega
        · rcases hg with h | h
          · exact .inl h.symm
          · exact .inr ⟨g, rfl, h⟩
      by_cases h1 : n = 1
      · subst h1
        exact (and_same vz oz b ys.length b' 1 ys'.length ys ys' w hz hb hb' (by omega) hny hny' (by omega)).mono fin
      · exact (and_gt vz oz b n ys.length b' 1 ys'.length ys ys' w hz hb hb' (by omega) (by omega) hny hny' (by omega)).mono fin
set_option maxRecDepth 100000 in
set_option maxHeartbeats 1000000 in
theorem set_zero (z : Value) (o : Option Nat) (A : Option Addr) (c : Nat) (w : World) (hz : Room w z o) :
    Calls Tryz.prog 87 #[z, .slice A 0 c] w (Got w o 0) := by
  have hcp := copy_none
  have hcut : ∀ A c, Room w (.slice A 0 c) o → IsNat w (.slice A 0 c) o 0 := fun A c h => by
    obtain ⟨A', n', c', e, h'⟩ := h.cut
    cases e; exact h'
  go_enter Tryz.func87, Tryz.ntmps87
  go_wp2_with fail
  refine (make_zero z o w hz).mono ?_
  rintro e w1 ⟨v, rfl, rfl, hv, A', c', rfl⟩
  have hv0 := hcut _ _ hv
  have HV := Lib.hid hv0
  clear hcut hv hv0
  go_wp2_with fail
  go_ret
  exact ⟨_, o, rfl, HV.out, Only.refl _ _, .inl rfl⟩
theorem set_nat (vz : Value) (oz : Option Nat) (vx : Value) (ox : Option Nat) (x : Int) (w : World) (hz : Room w vz oz) (hx : IsNat w vx ox x) (hf : Fits x) :
    Calls Tryz.prog 87 #[vz, vx] w (Got w oz x) := by
  have hmm : most = 274877906944 := rfl
  rcases hx.cases_ with ⟨rfl, A, c, rfl⟩ | ⟨_, b, n, ys, rfl, rfl, hb, hn, hny, hym, hr, rfl⟩
  · exact set_zero vz oz A c w hz
  · have := hr.short hf
    exact set_got vz oz b n ys.length ys w hz hb hn hny (by omega) hr
end Go.Proofs.YtflhdplfkpdejaaGreatFmt
namespace Go.Proofs.YtflhdplfkpdejaaGreatFmt
open Go.RowKit Go.Proofs.YtflhdplfkpdejaaGreatFmtW.PrintWords
theorem len8_nat : ∀ n : Fin 256, (Lib.len8tab[n.val]'(by rw [Lib.len8tab_size]; exact n.isLt)).toNat = Lib.bitLen n.val := by decide +kernel
theorem len8_get (i : Nat) (h : i < Lib.len8tab.size) : (Lib.len8tab[i]).toNat = Lib.bitLen i := len8_nat ⟨i, by rw [Lib.len8tab_size] at h; exact h⟩
theorem len8_le (i : Nat) (h : i < 256) : Lib.bitLen i ≤ 8 := Lib.bitLen_le8 ⟨i, h⟩
theorem len_close (x i : Int) (c : Nat) (hc : c ≤ 56) (h : i.toNat < Lib.len8tab.size) (hx : Lib.bitLen x.toNat = c + Lib.bitLen i.toNat) : wrap64 ((c : Int) + wrap64 ((Lib.len8tab[i.toNat]).toNat : Int)) = (Lib.bitLen x.toNat : Int) := by
  have h8 := len8_le i.toNat (by rw [Lib.len8tab_size] at h; exact h)
  rw [len8_get _ h, hx, IntWalk.wrap64_in (Lib.bitLen i.toNat : Int) ⟨by omega, by omega⟩, IntWalk.wrap64_in _ ⟨by omega, by omega⟩]
  omega
theorem len_close0 (x : Int) (h : x.toNat < Lib.len8tab.size) : wrap64 (wrap64 ((Lib.len8tab[x.toNat]).toNat : Int)) = (Lib.bitLen x.toNat : Int) := by
  have h8 := len8_le x.toNat (by rw [Lib.len8tab_size] at h; exact h)
  rw [len8_get _ h, IntWalk.wrap64_in (Lib.bitLen x.toNat : Int) ⟨by omega, by omega⟩, IntWalk.wrap64_in _ ⟨by omega, by omega⟩]
set_option maxHeartbeats 4000000 in
set_option maxRecDepth 100000 in
theorem len64_any (x : Int) (w : World) (h0 : 0 ≤ x) (h1 : x ≤ 18446744073709551615) :
    Calls Tryz.prog 125 #[.int .u64 x] w fun e w' => e = .returned (.int .i64 (Lib.bitLen x.toNat)) ∧ w' = w := by
  have hsz : Lib.len8tab.size = 256 := Lib.len8tab_size
  go_enter Tryz.func125, Tryz.ntmps125
  go_wp2
  all_goals (go_ret; refine ⟨congrArg Ending.returned (congrArg (Value.int IntKind.i64) ?_), rfl⟩)
  · exact len_close x (x / 4294967296 / 65536 / 256) 56 (by omega) _ (by
      rw [show (x / 4294967296 / 65536 / 256).toNat = x.toNat / 72057594037927936 by omega]
      exact Lib.bitLen_shift56 x.toNat (by omega) (by omega))
  · exact len_close x (x / 4294967296 / 65536) 48 (by omega) _ (by
      rw [show (x / 4294967296 / 65536).toNat = x.toNat / 281474976710656 by omega]
      exact Lib.bitLen_shift48 x.toNat (by omega) (by omega))
  · exact len_close x (x / 4294967296 / 256) 40 (by omega) _ (by
      rw [show (x / 4294967296 / 256).toNat = x.toNat / 1099511627776 by omega]
      exact Lib.bitLen_shift40 x.toNat (by omega) (by omega))
  · exact len_close x (x / 4294967296) 32 (by omega) _ (by
      rw [show (x / 4294967296).toNat = x.toNat / 4294967296 by omega]
      exact Lib.bitLen_shift32 x.toNat (by omega) (by omega))
  · exact len_close x (x / 65536 / 256) 24 (by omega) _ (by
      rw [show (x / 65536 / 256).toNat = x.toNat / 16777216 by omega]
      exact Lib.bitLen_shift24 x.toNat (by omega) (by omega))
  · exact len_close x (x / 65536) 16 (by omega) _ (by
      rw [show (x / 65536).toNat = x.toNat / 65536 by omega]
      exact Lib.bitLen_shift16 x.toNat (by omega) (by omega))
  · exact len_close x (x / 256) 8 (by omega) _ (by
      rw [show (x / 256).toNat = x.toNat / 256 by omega]
      exact Lib.bitLen_shift8 x.toNat (by omega) (by omega))
  · exact len_close0 x _
theorem len_any (x : Int) (w : World) (h0 : 0 ≤ x) (h1 : x ≤ 18446744073709551615) :
    Calls Tryz.prog 84 #[.int .u64 x] w fun e w' => e = .returned (.int .i64 (Lib.bitLen x.toNat)) ∧ w' = w := by
  go_enter Tryz.func84, Tryz.ntmps84
  go_wp2_with (go_at_call 125; refine (len64_any x _ h0 h1).mono ?_; rintro e w' ⟨rfl, rfl⟩)
  go_ret
  exact ⟨rfl, rfl⟩
def Tab (w : World) : Prop := ∀ j, j < 64 → w.cell? ⟨5, j, none⟩ = some (.int .u8 (Lib.deBruijn64tab.getD j 0))
theorem Tab.of {w w' : World} (h : Tab w) (hw : w'.heap[5]? = w.heap[5]?) : Tab w' := fun j hj => (World.cell?_of_block (w := w) (w' := w') (a := ⟨5, j, none⟩) hw).trans (h j hj)
theorem Tab.lt {w : World} (h : Tab w) : 5 < w.heap.size := World.block_lt_of_cell? w _ (h 0 (by omega))
theorem tz_key (x a : Nat) (hx : x < 18446744073709551616) (hx0 : x ≠ 0) (hlow : x &&& (18446744073709551616 - x) = a) :
    IntKind.u64.wrap (bits BinOp.and IntKind.u64 (x : Int) (IntKind.u64.wrap (-(x : Int))) * 285870213051353865) / 288230376151711744 = ((a * 285870213051353865 % 18446744073709551616 / 288230376151711744 : Nat) : Int) := by
  have e1 : IntKind.u64.wrap (-(x : Int)) = ((18446744073709551616 - x : Nat) : Int) := by rw [IntKind.wrap_u64]; omega
  rw [e1, bits_and_u64_nat x _ hx (by omega), hlow, IntKind.wrap_u64]
  omega
set_option maxHeartbeats 1000000 in
set_option maxRecDepth 100000 in
theorem tz_core (x k idx : Nat) (w : World) (hx0 : ((x : Int) == 0) = false)
    (key : IntKind.u64.wrap (bits BinOp.and IntKind.u64 (x : Int) (IntKind.u64.wrap (-(x : Int))) * 285870213051353865) / 288230376151711744 = (idx : Int))
    (hi : idx < 64) (hk : k < 64) (hcell : w.cell? ⟨5, idx, none⟩ = some (.int .u8 k)) :
    Calls Tryz.prog 135 #[.int .u64 x] w fun e w' => e = .returned (.int .i64 k) ∧ w' = w := by
  go_enter Tryz.func135, Tryz.ntmps135
  go_wp2_with (simp only [key])
  go_ret
  exact ⟨rfl, rfl⟩
theorem tz64_any (x : Nat) (hx : x < 18446744073709551616) (hx0 : x ≠ 0) (w : World) (hT : Tab w) :
    Calls Tryz.prog 135 #[.int .u64 x] w fun e w' => e = .returned (.int .i64 (Lib.ctz 64 x)) ∧ w' = w := by
  obtain ⟨hlow, hk⟩ := Lib.lowest_bit 64 x hx0 hx
  obtain ⟨hi, htab⟩ := Lib.deBruijn64_at _ hk
  have hcell := hT _ hi
  rw [htab] at hcell
  exact tz_core x _ _ w (by simp; omega) (tz_key x _ hx hx0 hlow) hi hk hcell
set_option maxRecDepth 100000 in
theorem tz_any (x : Nat) (hx : x < 18446744073709551616) (hx0 : x ≠ 0) (w : World) (hT : Tab w) :
    Calls Tryz.prog 96 #[.int .u64 x] w fun e w' => e = .returned (.int .i64 (Lib.ctz 64 x)) ∧ w' = w := by
  have hw : IntKind.u64.wrap (x : Int) = (x : Int) := by rw [IntKind.wrap_u64]; omega
  have c64 := Lib.hid (tz64_any x hx hx0 w hT)
  go_enter Tryz.func96, Tryz.ntmps96
  go_wp2_with (go_at_call 135; refine c64.out.mono ?_; rintro e w' ⟨rfl, rfl⟩)
  go_ret
  exact ⟨rfl, rfl⟩
end Go.Proofs.YtflhdplfkpdejaaGreatFmt
