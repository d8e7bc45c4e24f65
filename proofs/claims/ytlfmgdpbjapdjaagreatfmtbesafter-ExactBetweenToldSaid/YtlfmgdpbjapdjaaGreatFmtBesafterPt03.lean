/- Part 3 of the walk: BitsB BitsD NatR NatS FltA IntA IntB IntC WLast FltB. -/
import Derived.Test.YtlfmgdpbjapdjaaGreatFmtBesafterPt01
import Derived.Lib.Strings
import Derived.Lib.Slices
import Derived.Lib.Small
import Derived.Lib.Walk
import Derived.Lib.BitFns
import Derived.Lib.TrailingZeros
import Derived.Laws.Bits64b
import Derived.Laws.BitsLemmas
import Derived.Test.YtlfmgdpbjapdjaaGreatFmtBesafterPt02
import Derived.Shelf.Bits.Mul64
import Derived.Lib.SliceRun
import Derived.Deep.RegionLaw
import Derived.Deep.RegionHeld3
import Derived.Deep.QuietTactic
import Derived.BigQuiet
import Derived.OrdersHeld
import Derived.RowKit
namespace Go.Proofs.YtlfmgdpbjapdjaaGreatFmtBesafter
open Go.RowKit Go.Proofs.YtlfmgdpbjapdjaaGreatFmtBesafterW.PrintWords
theorem len8_nat : ∀ n : Fin 256, (Lib.len8tab[n.val]'(by rw [Lib.len8tab_size]; exact n.isLt)).toNat = Lib.bitLen n.val := by decide +kernel
theorem len8_get (i : Nat) (h : i < Lib.len8tab.size) : (Lib.len8tab[i]).toNat = Lib.bitLen i := len8_nat ⟨i, by rw [Lib.len8tab_size] at h; exact h⟩
theorem len8_le (i : Nat) (h : i < 256) : Lib.bitLen i ≤ 8 := Lib.bitLen_le8 ⟨i, h⟩
theorem len_close (x i : Int) (c : Nat) (hc : c ≤ 56) (h : i.toNat < Lib.len8tab.size) (hx : Lib.bitLen x.toNat = c + Lib.bitLen i.toNat) : wrap64 ((c : Int) + wrap64 ((Lib.len8tab[i.toNat]).toNat : Int)) = (Lib.bitLen x.toNat : Int) := by
  have h8 := len8_le i.toNat (by rw [Lib.len8tab_size] at h; exact h)
  rw [len8_get _ h, hx, IntWalk.wrap64_in (Lib.bitLen i.toNat : Int) ⟨by omega, by omega⟩, IntWalk.wrap64_in _ ⟨by omega, by omega⟩]
  omega
theorem len_close0 (x : Int) (h : x.toNat < Lib.len8tab.size) : wrap64 (wrap64 ((Lib.len8tab[x.toNat]).toNat : Int)) = (Lib.bitLen x.toNat : Int) := by
  have h8 := len8_le x.toNat (by rw [Lib.len8tab_size] at h; exact h)
  rw [len8_get _ h, IntWalk.wrap64_in (Lib.bitLen x.toNat : Int) ⟨by omega, by omega⟩, IntWalk.wrap64_in _ ⟨by omega, by omega⟩]
set_option maxHeartbeats 4000000 in
set_option maxRecDepth 100000 in
theorem len64_any (x : Int) (w : World) (h0 : 0 ≤ x) (h1 : x ≤ 18446744073709551615) :
    Calls Tryz.prog 127 #[.int .u64 x] w fun e w' => e = .returned (.int .i64 (Lib.bitLen x.toNat)) ∧ w' = w := by
  have hsz : Lib.len8tab.size = 256 := Lib.len8tab_size
  go_enter Tryz.func127, Tryz.ntmps127
  go_wp2
  all_goals (go_ret; refine ⟨congrArg Ending.returned (congrArg (Value.int IntKind.i64) ?_), rfl⟩)
  · exact len_close x (x / 4294967296 / 65536 / 256) 56 (by omega) _ (by
      rw [show (x / 4294967296 / 65536 / 256).toNat = x.toNat / 72057594037927936 by omega]
      exact Lib.bitLen_shift56 x.toNat (by omega) (by omega))
  · exact len_close x (x / 4294967296 / 65536) 48 (by omega) _ (by
      rw [show (x / 4294967296 / 65536).toNat = x.toNat / 281474976710656 by omega]
      exact Lib.bitLen_shift48 x.toNat (by omega) (by omega))
  · exact len_close x (x / 4294967296 / 256) 40 (by omega) _ (by
      rw [show (x / 4294967296 / 256).toNat = x.toNat / 1099511627776 by omega]
      exact Lib.bitLen_shift40 x.toNat (by omega) (by omega))
  · exact len_close x (x / 4294967296) 32 (by omega) _ (by
      rw [show (x / 4294967296).toNat = x.toNat / 4294967296 by omega]
      exact Lib.bitLen_shift32 x.toNat (by omega) (by omega))
  · exact len_close x (x / 65536 / 256) 24 (by omega) _ (by
      rw [show (x / 65536 / 256).toNat = x.toNat / 16777216 by omega]
      exact Lib.bitLen_shift24 x.toNat (by omega) (by omega))
  · exact len_close x (x / 65536) 16 (by omega) _ (by
      rw [show (x / 65536).toNat = x.toNat / 65536 by omega]
      exact Lib.bitLen_shift16 x.toNat (by omega) (by omega))
  · exact len_close x (x / 256) 8 (by omega) _ (by
      rw [show (x / 256).toNat = x.toNat / 256 by omega]
      exact Lib.bitLen_shift8 x.toNat (by omega) (by omega))
  · exact len_close0 x _
theorem len_any (x : Int) (w : World) (h0 : 0 ≤ x) (h1 : x ≤ 18446744073709551615) :
    Calls Tryz.prog 103 #[.int .u64 x] w fun e w' => e = .returned (.int .i64 (Lib.bitLen x.toNat)) ∧ w' = w := by
  go_enter Tryz.func103, Tryz.ntmps103
  go_wp2_with (go_at_call 127; refine (len64_any x _ h0 h1).mono ?_; rintro e w' ⟨rfl, rfl⟩)
  go_ret
  exact ⟨rfl, rfl⟩
def Tab (w : World) : Prop := ∀ j, j < 64 → w.cell? ⟨5, j, none⟩ = some (.int .u8 (Lib.deBruijn64tab.getD j 0))
theorem Tab.of {w w' : World} (h : Tab w) (hw : w'.heap[5]? = w.heap[5]?) : Tab w' := fun j hj => (World.cell?_of_block (w := w) (w' := w') (a := ⟨5, j, none⟩) hw).trans (h j hj)
theorem Tab.lt {w : World} (h : Tab w) : 5 < w.heap.size := World.block_lt_of_cell? w _ (h 0 (by omega))
theorem tz_key (x a : Nat) (hx : x < 18446744073709551616) (hx0 : x ≠ 0) (hlow : x &&& (18446744073709551616 - x) = a) :
    IntKind.u64.wrap (bits BinOp.and IntKind.u64 (x : Int) (IntKind.u64.wrap (-(x : Int))) * 285870213051353865) / 288230376151711744 = ((a * 285870213051353865 % 18446744073709551616 / 288230376151711744 : Nat) : Int) := by
  have e1 : IntKind.u64.wrap (-(x : Int)) = ((18446744073709551616 - x : Nat) : Int) := by rw [IntKind.wrap_u64]; omega
  rw [e1, bits_and_u64_nat x _ hx (by omega), hlow, IntKind.wrap_u64]
  omega
set_option maxHeartbeats 1000000 in
set_option maxRecDepth 100000 in
theorem tz_core (x k idx : Nat) (w : World) (hx0 : ((x : Int) == 0) = false)
    (key : IntKind.u64.wrap (bits BinOp.and IntKind.u64 (x : Int) (IntKind.u64.wrap (-(x : Int))) * 285870213051353865) / 288230376151711744 = (idx : Int))
    (hi : idx < 64) (hk : k < 64) (hcell : w.cell? ⟨5, idx, none⟩ = some (.int .u8 k)) :
    Calls Tryz.prog 136 #[.int .u64 x] w fun e w' => e = .returned (.int .i64 k) ∧ w' = w := by
  go_enter Tryz.func136, Tryz.ntmps136
  go_wp2_with (simp only [key])
  go_ret
  exact ⟨rfl, rfl⟩
theorem tz64_any (x : Nat) (hx : x < 18446744073709551616) (hx0 : x ≠ 0) (w : World) (hT : Tab w) :
    Calls Tryz.prog 136 #[.int .u64 x] w fun e w' => e = .returned (.int .i64 (Lib.ctz 64 x)) ∧ w' = w := by
  obtain ⟨hlow, hk⟩ := Lib.lowest_bit 64 x hx0 hx
  obtain ⟨hi, htab⟩ := Lib.deBruijn64_at _ hk
  have hcell := hT _ hi
  rw [htab] at hcell
  exact tz_core x _ _ w (by simp; omega) (tz_key x _ hx hx0 hlow) hi hk hcell
set_option maxRecDepth 100000 in
theorem tz_any (x : Nat) (hx : x < 18446744073709551616) (hx0 : x ≠ 0) (w : World) (hT : Tab w) :
    Calls Tryz.prog 114 #[.int .u64 x] w fun e w' => e = .returned (.int .i64 (Lib.ctz 64 x)) ∧ w' = w := by
  have hw : IntKind.u64.wrap (x : Int) = (x : Int) := by rw [IntKind.wrap_u64]; omega
  have c64 := Lib.hid (tz64_any x hx hx0 w hT)
  go_enter Tryz.func114, Tryz.ntmps114
  go_wp2_with (go_at_call 136; refine c64.out.mono ?_; rintro e w' ⟨rfl, rfl⟩)
  go_ret
  exact ⟨rfl, rfl⟩
set_option maxRecDepth 100000 in
set_option maxHeartbeats 4000000 in
theorem mul64_any (x y : Nat) (hx : x < 18446744073709551616) (hy : y < 18446744073709551616) (w : World) :
    Calls Tryz.prog 188 #[.int .u64 x, .int .u64 y] w fun e w' => e = .returned (.tuple #[.int .u64 ((x * y / 18446744073709551616 : Nat) : Int), .int .u64 ((x * y % 18446744073709551616 : Nat) : Int)]) ∧ w' = w := by
  obtain ⟨bd, bt, bw, hhi⟩ := Lib.mul64_hi x y hx hy
  have ba := Lib.half_mul_le (a := x / 4294967296) (b := y / 4294967296) (by omega) (by omega)
  have bb := Lib.half_mul_le (a := x / 4294967296) (b := y % 4294967296) (by omega) (by omega)
  have bc := Lib.half_mul_le (a := x % 4294967296) (b := y / 4294967296) (by omega) (by omega)
  have ba' : x / 4294967296 * (y / 4294967296) < 18446744073709551616 := by omega
  have bb' : x / 4294967296 * (y % 4294967296) < 18446744073709551616 := by omega
  have bc' : x % 4294967296 * (y / 4294967296) < 18446744073709551616 := by omega
  have bh1 : x / 4294967296 * (y / 4294967296) + (x / 4294967296 * (y % 4294967296) + x % 4294967296 * (y % 4294967296) / 4294967296) / 4294967296 < 18446744073709551616 := by omega
  have bq : x * y / 18446744073709551616 < 18446744073709551616 := Nat.div_lt_of_lt_mul (Nat.mul_lt_mul'' hx hy)
  have bh := hhi ▸ bq
  go_enter Tryz.func188, Tryz.ntmps188
  go_wp2_with fail
  simp only [Mul64.maskN x hx, Mul64.maskN y hy, Mul64.divN, Mul64.mulN, Mul64.addN, Mul64.wrapN _ bd, Mul64.wrapN _ bb', Mul64.wrapN _ bt, Mul64.maskN _ bt, Mul64.wrapN _ bc', Mul64.wrapN _ bw, Mul64.wrapN _ ba', Mul64.wrapN _ bh1, Mul64.wrapN _ bh, Mul64.wrapM (x * y)]
  rw [hhi]
  go_ret2
  exact ⟨rfl, rfl⟩
theorem mul_any (x y : Nat) (hx : x < 18446744073709551616) (hy : y < 18446744073709551616) (w : World) :
    Calls Tryz.prog 162 #[.int .u64 x, .int .u64 y] w fun e w' => e = .returned (.tuple #[.int .u64 ((x * y / 18446744073709551616 : Nat) : Int), .int .u64 ((x * y % 18446744073709551616 : Nat) : Int)]) ∧ w' = w := by
  go_enter Tryz.func162, Tryz.ntmps162
  go_wp2_with (go_at_call 188; refine (mul64_any x y hx hy _).mono ?_; rintro e w' ⟨rfl, rfl⟩)
  go_ret2
  exact ⟨rfl, rfl⟩
theorem bitLen_top : ∀ (k x : Nat), k ≤ 64 → x < 2 ^ k → Lib.bitLen x ≤ k
  | 0, x, _, h => by
    obtain rfl : x = 0 := by simpa using h
    decide
  | k + 1, x, hk, h => by
    by_cases h0 : x = 0
    · subst h0
      exact Nat.le_trans (by decide : Lib.bitLen 0 ≤ 0) (Nat.zero_le _)
    · rw [Lib.bitLen_half x h0 (Nat.lt_of_lt_of_le h (Nat.pow_le_pow_right (by omega) hk))]
      have := bitLen_top k (x / 2) (by omega) (by rw [Nat.pow_succ] at h; omega)
      omega
theorem lz64_any (x : Int) (w : World) (h0 : 0 ≤ x) (h1 : x ≤ 18446744073709551615) :
    Calls Tryz.prog 186 #[.int .u64 x] w fun e w' => e = .returned (.int .i64 (64 - (Lib.bitLen x.toNat : Int))) ∧ w' = w := by
  have hb : Lib.bitLen x.toNat ≤ 64 := bitLen_top 64 _ (Nat.le_refl _) (by omega)
  go_enter Tryz.func186, Tryz.ntmps186
  go_wp2_with (go_at_call 127; refine (len64_any x _ h0 h1).mono ?_; rintro e w' ⟨rfl, rfl⟩)
  go_ret
  exact ⟨rfl, rfl⟩
theorem Blk.zeros {b : Nat} : ∀ (n o : Nat) (w : World) (zs : List Int), Blk w b zs → o + n ≤ zs.length → ∃ ys, Blk (w.setCells b o (List.replicate n (.int .u64 0))) b ys ∧ ys.length = zs.length ∧ (∀ j, o ≤ j → j < o + n → ys.getD j 0 = 0) ∧ (∀ j, j < o ∨ o + n ≤ j → ys.getD j 0 = zs.getD j 0) ∧ Only w (w.setCells b o (List.replicate n (.int .u64 0))) (fun k => k = b)
  | 0, o, w, zs, h, _ => ⟨zs, h, rfl, fun j h1 h2 => by omega, fun _ _ => rfl, Only.refl _ _⟩
  | n + 1, o, w, zs, h, hl => by
    obtain ⟨ys, h1, h2, h3, h4, h5⟩ := Blk.zeros n (o + 1) _ _ (h.set o 0) (by simp; omega)
    refine ⟨ys, h1, by simpa using h2, fun j a c => ?_, fun j a => ?_, ((Only.refl w (fun k => k = b)).set (.inr rfl) _).trans h5⟩
    · by_cases e : j = o
      · subst e
        rw [h4 j (.inl (by omega))]
        simp only [List.getD, List.getElem?_set]
        rw [if_pos trivial, if_pos (by omega)]; rfl
      · exact h3 j (by omega) (by omega)
    · rw [h4 j (by omega)]
      simp only [List.getD, List.getElem?_set]
      rw [if_neg (by omega)]
theorem clear_words (b n c : Nat) (ty : TypeId) (zs : List Int) (w : World) (hb : Blk w b zs) (hn : 0 < n) (hl : n ≤ zs.length) : (Builtin.clear_ #[85] ty #[.slice (some ⟨b, 0, none⟩) n c]).run Tryz.prog w = .ok (.tuple #[]) (w.setCells b 0 (List.replicate n (.int .u64 0))) := by
  refine Lib.run_clear_slice w 85 110 ty (.int .u64 0) Tryz.underlying85 (fun w => ?_) rfl rfl b 0 n c hn (fun j hj => ?_) (fun j hj => ?_)
  · have h : (Tryz.prog.info? 110).map (·.zero) = some (some (.int .u64 0)) := by kernel_rfl
    obtain ⟨i, hi, hz⟩ := Option.map_eq_some_iff.1 h
    simp [zeroValue, typeInfo, hi, hz]
  · rw [Nat.zero_add, hb.cell j (by omega)]; rfl
  · rw [Nat.zero_add]; exact blk_frozen hb j
set_option maxRecDepth 100000 in
set_option maxHeartbeats 4000000 in
theorem lsh_big (bx m c q r : Nat) (xs : List Int) (w : World) (hx : Blk w bx xs) (hm : 0 < m) (hmx : m ≤ xs.length) (hm2 : m + q + 5 ≤ most) (hw : Wd (fun i => xs.getD i 0) m) (hq : 0 < q) (hr : 0 < r) (hr2 : r < 64) :
    Calls Tryz.prog 83 #[.slice none 0 0, .slice (some ⟨bx, 0, none⟩) m c, .int .u64 ((64 * q + r : Nat) : Int)] w (Got w none (num (fun i => xs.getD i 0) m * 2 ^ (64 * q + r))) := by
  have h1 : (((64 * q + r : Nat) : Int) == 0) = false := by rw [beq_eq_false_iff_ne]; omega
  have h2 : ((m : Int) == 0) = false := by rw [beq_eq_false_iff_ne]; omega
  have h3 : ((64 * q + r : Nat) : Int) / 64 = q := by omega
  have h4 : ((64 * q + r : Nat) : Int) % 64 = r := by omega
  have h5 : ((r : Int) == 0) = false := by rw [beq_eq_false_iff_ne]; omega
  have hmm : most = 274877906944 := rfl
  have hm3 : m + q + 5 ≤ 274877906944 := hm2
  have h6 : (m : Int) + q - m = q := by omega
  have h7 : (m : Int) + q + 1 = ((m + q + 1 : Nat) : Int) := by omega
  have hmk : ∀ w, Calls Tryz.prog 111 #[.slice none 0 0, .int .i64 ((m : Int) + q + 1)] w fun e w' => ∃ b zs, e = .returned (.slice (some ⟨b, 0, none⟩) (m + q + 1) zs.length) ∧ Blk w' b zs ∧ m + q + 1 ≤ zs.length ∧ zs.length ≤ most ∧ Only w w' (fun _ => False) ∧ b = w.heap.size := fun w => by
    rw [h7]
    refine (make_any (.slice none 0 0) none (m + q + 1) w .nil (by omega) (by omega)).mono ?_
    rintro e w' ⟨b, zs, h1, h2, h3, h4, h5, h6⟩
    refine ⟨b, zs, h1, h2, h3, h4, h5, ?_⟩
    rcases h6 with ⟨h, _⟩ | h
    · cases h
    · exact h
  have hen := Tryz.lshVU_enters
  have HX := Lib.hid hmm
  clear h7 hmm
  generalize hS : ((64 * q + r : Nat) : Int) = S at h1 h3 h4
  go_enter Tryz.func83, Tryz.ntmps83
  go_wp2_with fail
  refine (hmk w).mono ?_
  rintro e w1 ⟨b, zs, rfl, hb, hnz, hzm, ho, rfl⟩
  have hx1 : ∀ i, i < m → w1.cell? ⟨bx, 0 + i, none⟩ = some (.int .u64 (xs.getD i 0)) := fun i hi => ((ho.blk hx (fun h => h)).cell (0 + i) (by omega)).trans (by rw [Nat.zero_add])
  have hne : bx ≠ w.heap.size := by have := blk_lt hx; omega
  have h8 : (zs.length : Int) - q = ((zs.length - q : Nat) : Int) := by omega
  go_wp2_with fail
  have hmm := HX.out
  refine (lshVU_any w.heap.size q (zs.length - q) bx 0 c m r zs (fun i => xs.getD i 0) w1 hm hr hr2 hb (by omega) (by omega) hx1 (.inl hne)).mono ?_
  rintro e w2 ⟨he, ho2, ys, hy, hyl, hout, hy0, hyj⟩
  obtain ⟨cy, hcy⟩ : ∃ cy, cy = xs.getD (m - 1) 0 / 2 ^ (64 - r) := ⟨_, rfl⟩
  have he : e = .returned (.int .u64 cy) := by rw [hcy]; exact he
  subst he
  have HCY := Lib.hid hcy
  clear hcy
  have cz := hy.cell (m + q) (by omega)
  have fz := blk_frozen hy (m + q)
  have hy2 := hy.set (m + q) cy
  have hl2 : (ys.set (m + q) cy).length = zs.length := by simpa using hyl
  have hcl : ∀ ty, (Builtin.clear_ #[85] ty #[.slice (some ⟨w.heap.size, 0, none⟩) q zs.length]).run Tryz.prog (w2.setCell ⟨w.heap.size, m + q, none⟩ (.int .u64 cy)) = .ok (.tuple #[]) ((w2.setCell ⟨w.heap.size, m + q, none⟩ (.int .u64 cy)).setCells w.heap.size 0 (List.replicate q (.int .u64 0))) := fun ty => clear_words w.heap.size q zs.length ty _ _ hy2 hq (by omega)
  obtain ⟨vs, hv1, hv2, hv3, hv4, hv5⟩ := Blk.zeros q 0 _ _ hy2 (by omega)
  clear hmm
  go_wp2_with fail
  have hmm := HX.out
  have hcy := HCY.out
  have hcar := (hw (m - 1) (by omega))
  have hq : (2 : Int) ^ (64 - r) * 2 ^ r = 18446744073709551616 := by rw [two_pow_cast, two_pow_cast, ← Int.natCast_mul, pow_64 r hr2]; rfl
  have at_s : ∀ j, q ≤ j → vs.getD j 0 = if j = m + q then cy else ys.getD j 0 := by
    intro j hj
    rw [hv4 j (.inr (by omega))]
    simp only [List.getD, List.getElem?_set]
    by_cases h : j = m + q
    · subst h; rw [if_pos rfl, if_pos (by omega), if_pos rfl]; rfl
    · rw [if_neg (by omega), if_neg h]
  have wy : ∀ j, j < m → 0 ≤ ys.getD (q + j) 0 ∧ ys.getD (q + j) 0 < 18446744073709551616 := by
    intro j hj
    have r : ∀ x : Int, 0 ≤ IntKind.u64.wrap x ∧ IntKind.u64.wrap x < 18446744073709551616 := fun x => by rw [IntKind.wrap_u64]; omega
    by_cases h0 : j = 0
    · subst h0; rw [Nat.add_zero, hy0]; exact r _
    · rw [hyj j (by omega) hj]; exact r _
  have cm : 0 ≤ xs.getD (m - 1) 0 / 2 ^ (64 - r) ∧ xs.getD (m - 1) 0 / 2 ^ (64 - r) < 18446744073709551616 := ⟨Int.ediv_nonneg hcar.1 (Int.le_of_lt (Int.pow_pos (by omega))), Int.lt_of_le_of_lt (Int.ediv_le_self _ hcar.1) hcar.2⟩
  rw [← hcy] at cm
  have hn := norm_got w.heap.size (m + q + 1) _ _ hv1 (by rw [hv2, hl2]; exact hnz) (by rw [hv2, hl2]; exact hzm) (fun j hj => by
    show 0 ≤ vs.getD j 0 ∧ vs.getD j 0 < 18446744073709551616
    by_cases h0 : j < q
    · rw [hv3 j (Nat.zero_le _) (by omega)]; omega
    · rw [at_s j (by omega)]
      split
      · exact cm
      · have := wy (j - q) (by omega)
        rw [show q + (j - q) = j by omega] at this
        exact this)
  rw [hv2, hl2] at hn
  clear hcy
  refine hn.mono ?_
  rintro e w3 ⟨v, rfl, hv, ho3⟩
  go_wp2_with fail
  go_ret
  refine ⟨v, some w.heap.size, rfl, ?_, ?_, .inr ⟨_, rfl, Nat.le_refl _⟩⟩
  · have e : num (fun i => vs.getD i 0) (m + q + 1) = num (fun i => xs.getD i 0) m * 2 ^ (64 * q + r) := by
      rw [show m + q + 1 = q + (m + 1) by omega, num_add, num_zero q (fun i hi => hv3 i (Nat.zero_le _) (by omega)), Int.zero_add]
      obtain ⟨k, rfl⟩ : ∃ k, m = k + 1 := ⟨m - 1, by omega⟩
      have a := num_shl (fun i => xs.getD i 0) (fun i => ys.getD (q + i) 0) r k hr2 hw hy0 (fun j a b => hyj j a b)
      rw [show ∀ g : Nat → Int, num g (k + 1 + 1) = num g (k + 1) + g (k + 1) * 2 ^ (64 * (k + 1)) from fun _ => rfl, num_congr (f := fun i => vs.getD (q + i) 0) (g := fun i => ys.getD (q + i) 0) (k + 1) (fun j hj => by show vs.getD (q + j) 0 = _; rw [at_s (q + j) (by omega), if_neg (by omega)])]
      show (_ + vs.getD (q + (k + 1)) 0 * _) * _ = _
      rw [at_s (q + (k + 1)) (by omega), if_pos (by omega), HCY.out]
      rw [Int.pow_add, Int.mul_comm (2 ^ (64 * q)) (2 ^ r), ← Int.mul_assoc, ← a]
      rfl
    rw [← e]; exact hv
  · refine ((((ho.mono (fun _ _ h => h.elim)).step ho2 ?_).set (.inl (Nat.le_refl _)) _).step hv5 ?_).step ho3 (fun _ _ h => h.elim)
    · rintro i hi rfl; omega
    · rintro i hi rfl; omega
set_option maxRecDepth 100000 in
set_option maxHeartbeats 4000000 in
theorem lz_any (x : Int) (w : World) (h0 : 0 ≤ x) (h1 : x ≤ 18446744073709551615) :
    Calls Tryz.prog 141 #[.int .u64 x] w fun e w' => e = .returned (.int .i64 (64 - (Lib.bitLen x.toNat : Int))) ∧ w' = w := by
  have hb : Lib.bitLen x.toNat ≤ 64 := bitLen_top 64 _ (Nat.le_refl _) (by omega)
  go_enter Tryz.func141, Tryz.ntmps141
  go_wp2_with (go_at_call 103; refine (len_any x _ h0 h1).mono ?_; rintro e w' ⟨rfl, rfl⟩)
  go_ret
  exact ⟨rfl, rfl⟩
set_option maxRecDepth 100000 in
set_option maxHeartbeats 4000000 in
theorem nlz_lit (x k : Int) (w : World) (h0 : 0 ≤ x) (h1 : x ≤ 18446744073709551615) (hk : 64 - (Lib.bitLen x.toNat : Int) = k) (hk0 : 0 ≤ k) :
    Calls Tryz.prog 122 #[.int .u64 x] w fun e w' => e = .returned (.int .u64 k) ∧ w' = w := by
  have e1 : IntKind.u64.wrap k = k := by rw [IntKind.wrap_u64]; omega
  have hW := Lib.hid hk
  go_enter Tryz.func122, Tryz.ntmps122
  go_wp2_with (go_at_call 141; refine (lz_any x _ h0 h1).mono ?_; rintro e w' ⟨rfl, rfl⟩; rw [hW.out])
  go_ret
  exact ⟨rfl, rfl⟩
theorem mul_lit (x y : Nat) (h l : Int) (hx : x < 18446744073709551616) (hy : y < 18446744073709551616) (h1 : ((x * y / 18446744073709551616 : Nat) : Int) = h) (h2 : ((x * y % 18446744073709551616 : Nat) : Int) = l) (w : World) :
    Calls Tryz.prog 162 #[.int .u64 x, .int .u64 y] w fun e w' => e = .returned (.tuple #[.int .u64 h, .int .u64 l]) ∧ w' = w := by
  subst h1 h2
  exact mul_any x y hx hy w
theorem add_lit (x y c s d : Int) (w : World) (hx : 0 ≤ x ∧ 0 ≤ y ∧ 0 ≤ c ∧ c ≤ 1) (h1 : (x + y + c) % 18446744073709551616 = s) (h2 : (x + y + c) / 18446744073709551616 = d) :
    Calls Tryz.prog 121 #[.int .u64 x, .int .u64 y, .int .u64 c] w fun e w' => e = .returned (.tuple #[.int .u64 s, .int .u64 d]) ∧ w' = w := by
  subst h1 h2
  exact add_any x y c w hx.1 hx.2.1 hx.2.2.1 hx.2.2.2
theorem sub_lit (x y c s d : Int) (w : World) (hx : 0 ≤ x ∧ x < 18446744073709551616 ∧ 0 ≤ y ∧ y < 18446744073709551616 ∧ 0 ≤ c ∧ c ≤ 1) (h1 : (x - y - c) % 18446744073709551616 = s) (h2 : (if x < y + c then 1 else 0) = d) :
    Calls Tryz.prog 117 #[.int .u64 x, .int .u64 y, .int .u64 c] w fun e w' => e = .returned (.tuple #[.int .u64 s, .int .u64 d]) ∧ w' = w := by
  subst h1 h2
  exact sub_any x y c w hx.1 hx.2.1 hx.2.2.1 hx.2.2.2.1 hx.2.2.2.2.1 hx.2.2.2.2.2
set_option maxRecDepth 100000 in
set_option maxHeartbeats 4000000 in
theorem div64_lit (w : World) : Calls Tryz.prog 161 #[.int .u64 4611686018427387903, .int .u64 18446744073709551615, .int .u64 13835058055282163712] w fun e w' => e = .returned (.tuple #[.int .u64 6148914691236517205, .int .u64 4611686018427387903]) ∧ w' = w := by
  have hb : Lib.bitLen (13835058055282163712 : Int).toNat = 64 := by decide +kernel
  have b1 : bits .and .u64 13835058055282163712 4294967295 = 0 := by decide +kernel
  have b2 : bits .or .u64 4611686018427387903 0 = 4611686018427387903 := by decide +kernel
  have b3 : bits .and .u64 18446744073709551615 4294967295 = 4294967295 := by decide +kernel
  have hW : ∀ n, IntKind.u64.wrap n = n % 18446744073709551616 := IntKind.wrap_u64
  go_enter Tryz.func161, Tryz.ntmps161
  go_wp2_with (go_at_call 186; refine (lz64_any _ _ (by decide +kernel) (by decide +kernel)).mono ?_; rintro e w' ⟨rfl, rfl⟩; rw [hb])
  refine wp_loop_rounds 1 ?_
  rw [rounds_succ]
  go_wp2_with fail
  refine wp_loop_rounds 1 ?_
  rw [rounds_succ]
  go_wp2_with fail
  go_ret2
  exact ⟨rfl, rfl⟩
set_option maxRecDepth 100000 in
set_option maxHeartbeats 4000000 in
theorem div_lit (w : World) : Calls Tryz.prog 145 #[.int .u64 4611686018427387903, .int .u64 18446744073709551615, .int .u64 13835058055282163712] w fun e w' => e = .returned (.tuple #[.int .u64 6148914691236517205, .int .u64 4611686018427387903]) ∧ w' = w := by
  go_enter Tryz.func145, Tryz.ntmps145
  go_wp2_with (go_at_call 161; refine (div64_lit _).mono ?_; rintro e w' ⟨rfl, rfl⟩)
  go_ret2
  exact ⟨rfl, rfl⟩
set_option maxRecDepth 100000 in
set_option maxHeartbeats 4000000 in
theorem recip_3 (w : World) : Calls Tryz.prog 146 #[.int .u64 3] w fun e w' => e = .returned (.int .u64 6148914691236517205) ∧ w' = w := by
  have hW : ∀ n, IntKind.u64.wrap n = n % 18446744073709551616 := IntKind.wrap_u64
  have HN := Lib.hid (fun w => nlz_lit 3 62 w (by decide +kernel) (by decide +kernel) (by decide +kernel) (by decide +kernel))
  go_enter Tryz.func146, Tryz.ntmps146
  go_wp2_with first | (go_at_call 122; refine (HN.out _).mono ?_; rintro e w' ⟨rfl, rfl⟩) | (go_at_call 145; refine (div_lit _).mono ?_; rintro e w' ⟨rfl, rfl⟩)
  go_ret
  exact ⟨rfl, rfl⟩
set_option maxRecDepth 100000 in
set_option maxHeartbeats 4000000 in
theorem divWW_a (w : World) : Calls Tryz.prog 147 #[.int .u64 0, .int .u64 2, .int .u64 3, .int .u64 6148914691236517205] w fun e w' => e = .returned (.tuple #[.int .u64 0, .int .u64 2]) ∧ w' = w := by
  have hW : ∀ n, IntKind.u64.wrap n = n % 18446744073709551616 := IntKind.wrap_u64
  have b1 : bits .or .u64 0 0 = 0 := by decide +kernel
  have HN := Lib.hid (fun w => nlz_lit 3 62 w (by decide +kernel) (by decide +kernel) (by decide +kernel) (by decide +kernel))
  have M1 := Lib.hid (fun w => mul_lit 6148914691236517205 0 0 0 (by decide +kernel) (by decide +kernel) (by decide +kernel) (by decide +kernel) w)
  have M2 := Lib.hid (fun w => mul_lit 13835058055282163712 0 0 0 (by decide +kernel) (by decide +kernel) (by decide +kernel) (by decide +kernel) w)
  have A1 := Lib.hid (fun w => add_lit 0 9223372036854775808 0 9223372036854775808 0 w (by decide +kernel) (by decide +kernel) (by decide +kernel))
  have A2 := Lib.hid (fun w => add_lit 0 0 0 0 0 w (by decide +kernel) (by decide +kernel) (by decide +kernel))
  have S1 := Lib.hid (fun w => sub_lit 9223372036854775808 0 0 9223372036854775808 0 w (by decide +kernel) (by decide +kernel) (by decide +kernel))
  have S2 := Lib.hid (fun w => sub_lit 0 0 0 0 0 w (by decide +kernel) (by decide +kernel) (by decide +kernel))
  go_enter Tryz.func147, Tryz.ntmps147
  go_wp2_with fail
  refine (HN.out _).mono ?_
  rintro e w' ⟨rfl, rfl⟩
  go_wp2_with fail
  refine (M1.out _).mono ?_
  rintro e w' ⟨rfl, rfl⟩
  go_wp2_with fail
  refine (A1.out _).mono ?_
  rintro e w' ⟨rfl, rfl⟩
  go_wp2_with fail
  refine (A2.out _).mono ?_
  rintro e w' ⟨rfl, rfl⟩
  go_wp2_with fail
  refine (M2.out _).mono ?_
  rintro e w' ⟨rfl, rfl⟩
  go_wp2_with fail
  refine (S1.out _).mono ?_
  rintro e w' ⟨rfl, rfl⟩
  go_wp2_with fail
  refine (S2.out _).mono ?_
  rintro e w' ⟨rfl, rfl⟩
  go_wp2_with fail
  go_ret2
  exact ⟨rfl, rfl⟩
set_option maxRecDepth 100000 in
set_option maxHeartbeats 4000000 in
theorem divWW_b (w : World) : Calls Tryz.prog 147 #[.int .u64 2, .int .u64 0, .int .u64 3, .int .u64 6148914691236517205] w fun e w' => e = .returned (.tuple #[.int .u64 12297829382473034410, .int .u64 2]) ∧ w' = w := by
  have hW : ∀ n, IntKind.u64.wrap n = n % 18446744073709551616 := IntKind.wrap_u64
  have b1 : bits .or .u64 9223372036854775808 0 = 9223372036854775808 := by decide +kernel
  have HN := Lib.hid (fun w => nlz_lit 3 62 w (by decide +kernel) (by decide +kernel) (by decide +kernel) (by decide +kernel))
  have M1 := Lib.hid (fun w => mul_lit 6148914691236517205 9223372036854775808 3074457345618258602 9223372036854775808 (by decide +kernel) (by decide +kernel) (by decide +kernel) (by decide +kernel) w)
  have M2 := Lib.hid (fun w => mul_lit 13835058055282163712 12297829382473034410 9223372036854775807 9223372036854775808 (by decide +kernel) (by decide +kernel) (by decide +kernel) (by decide +kernel) w)
  have A1 := Lib.hid (fun w => add_lit 9223372036854775808 0 0 9223372036854775808 0 w (by decide +kernel) (by decide +kernel) (by decide +kernel))
  have A2 := Lib.hid (fun w => add_lit 3074457345618258602 9223372036854775808 0 12297829382473034410 0 w (by decide +kernel) (by decide +kernel) (by decide +kernel))
  have S1 := Lib.hid (fun w => sub_lit 0 9223372036854775808 0 9223372036854775808 1 w (by decide +kernel) (by decide +kernel) (by decide +kernel))
  have S2 := Lib.hid (fun w => sub_lit 9223372036854775808 9223372036854775807 1 0 0 w (by decide +kernel) (by decide +kernel) (by decide +kernel))
  go_enter Tryz.func147, Tryz.ntmps147
  go_wp2_with fail
  refine (HN.out _).mono ?_
  rintro e w' ⟨rfl, rfl⟩
  go_wp2_with fail
  refine (M1.out _).mono ?_
  rintro e w' ⟨rfl, rfl⟩
  go_wp2_with fail
  refine (A1.out _).mono ?_
  rintro e w' ⟨rfl, rfl⟩
  go_wp2_with fail
  refine (A2.out _).mono ?_
  rintro e w' ⟨rfl, rfl⟩
  go_wp2_with fail
  refine (M2.out _).mono ?_
  rintro e w' ⟨rfl, rfl⟩
  go_wp2_with fail
  refine (S1.out _).mono ?_
  rintro e w' ⟨rfl, rfl⟩
  go_wp2_with fail
  refine (S2.out _).mono ?_
  rintro e w' ⟨rfl, rfl⟩
  go_wp2_with fail
  go_ret2
  exact ⟨rfl, rfl⟩
set_option maxRecDepth 100000 in
set_option maxHeartbeats 4000000 in
theorem acc_calls (b : Bool) (w : World) : Calls Tryz.prog 123 #[.bool b] w fun e w' => e = .returned (.int .i8 (if b then 1 else -1)) ∧ w' = w := by
  cases b <;>
  · go_enter Tryz.func123, Tryz.ntmps123
    go_wp2_with fail
    go_ret
    exact ⟨rfl, rfl⟩
set_option maxRecDepth 100000 in
set_option maxHeartbeats 4000000 in
theorem bit_lit (b n c : Nat) (ys : List Int) (i j s x r : Int) (w : World) (hb : Blk w b ys) (hn : n ≤ ys.length) (hn2 : n ≤ 1000) (hi : i / 64 = j) (hs : i % 64 = s) (hi0 : 0 ≤ i) (hj : j < n) (hx : ys.getD j.toNat 0 = x) (hs0 : x / 2 ^ s.toNat = r) (hi1 : i < 1000) :
    Calls Tryz.prog 142 #[.slice (some ⟨b, 0, none⟩) n c, .int .u64 i] w fun e w' => e = .returned (.int .u64 (bits .and .u64 r 1)) ∧ w' = w := by
  have hc : w.cell? ⟨b, j.toNat, none⟩ = some (.int .u64 x) := by rw [hb.cell _ (by omega), hx]
  have hW : IntKind.u64.wrap (n : Int) = n := by rw [IntKind.wrap_u64]; omega
  have hj0 : 0 ≤ j := by omega
  have hs1 : 0 ≤ s := by omega
  go_enter Tryz.func142, Tryz.ntmps142
  go_wp2_with fail
  go_ret
  exact ⟨rfl, rfl⟩
set_option maxRecDepth 100000 in
set_option maxHeartbeats 4000000 in
theorem sticky_a (b c : Nat) (ys : List Int) (w : World) (hb : Blk w b ys) (hn : 2 ≤ ys.length) (h0 : ys.getD 0 0 = 9223372036854775808) :
    Calls Tryz.prog 98 #[.slice (some ⟨b, 0, none⟩) 2 c, .int .u64 62] w fun e w' => e = .returned (.int .u64 0) ∧ w' = w := by
  have hc : w.cell? ⟨b, 0, none⟩ = some (.int .u64 9223372036854775808) := by rw [hb.cell _ (by omega), h0]
  have hW : ∀ n, IntKind.u64.wrap n = n % 18446744073709551616 := IntKind.wrap_u64
  go_enter Tryz.func98, Tryz.ntmps98
  go_wp2_with fail
  refine wp_loop_rounds 1 ?_
  rw [rounds_succ]
  go_wp2_with fail
  go_ret
  exact ⟨rfl, rfl⟩
set_option maxRecDepth 100000 in
set_option maxHeartbeats 4000000 in
theorem sticky_b (b c : Nat) (ys : List Int) (w : World) (hb : Blk w b ys) (hn : 2 ≤ ys.length) (h0 : ys.getD 0 0 = 9223372036854775808) (hc2 : 2 ≤ c) :
    Calls Tryz.prog 98 #[.slice (some ⟨b, 0, none⟩) 2 c, .int .u64 74] w fun e w' => e = .returned (.int .u64 1) ∧ w' = w := by
  have hc : w.cell? ⟨b, 0, none⟩ = some (.int .u64 9223372036854775808) := by rw [hb.cell _ (by omega), h0]
  have hW : ∀ n, IntKind.u64.wrap n = n % 18446744073709551616 := IntKind.wrap_u64
  go_enter Tryz.func98, Tryz.ntmps98
  go_wp2_with fail
  refine wp_loop_rounds 2 ?_
  rw [rounds_succ]
  go_wp2_with fail
  go_ret
  exact ⟨rfl, rfl⟩
set_option maxRecDepth 100000 in
set_option maxHeartbeats 4000000 in
theorem msb_lit (b c : Nat) (ys : List Int) (x : Int) (w : World) (hb : Blk w b ys) (hn : 1 ≤ ys.length) (h0 : ys.getD 0 0 = x) :
    Calls Tryz.prog 101 #[.slice (some ⟨b, 0, none⟩) 1 c] w fun e w' => e = .returned (.int .u64 x) ∧ w' = w := by
  have hc : w.cell? ⟨b, 0, none⟩ = some (.int .u64 x) := by rw [hb.cell _ (by omega), h0]
  go_enter Tryz.func101, Tryz.ntmps101
  go_wp2_with fail
  go_ret
  exact ⟨rfl, rfl⟩
set_option maxRecDepth 100000 in
set_option maxHeartbeats 4000000 in
theorem fnorm_lit (b c : Nat) (ys : List Int) (w : World) (hb : Blk w b ys) (hn : 2 ≤ ys.length) (hl : ys.length < 1099511627776) (h0 : ys.getD 0 0 = 6148914691236517205) (h1 : ys.getD 1 0 = 1) :
    Calls Tryz.prog 94 #[.slice (some ⟨b, 0, none⟩) 2 c] w fun e w' => ∃ zs, e = .returned (.int .i64 63) ∧ Blk w' b zs ∧ zs.length = ys.length ∧ zs.getD 0 0 = 9223372036854775808 ∧ zs.getD 1 0 = 12297829382473034410 ∧ Only w w' (fun k => k = b) := by
  have x1 : w.cell? ⟨b, 1, none⟩ = some (.int .u64 1) := by rw [hb.cell _ (by omega), h1]
  have hx : ∀ i, i < 2 → w.cell? ⟨b, 0 + i, none⟩ = some (.int .u64 (ys.getD i 0)) := fun i hi => by rw [Nat.zero_add]; exact hb.cell i (by omega)
  have HN := Lib.hid (fun w => nlz_lit 1 63 w (by decide +kernel) (by decide +kernel) (by decide +kernel) (by decide +kernel))
  have HS := Lib.hid (lshVU_any b 0 c b 0 c 2 63 ys (fun i => ys.getD i 0) w (by omega) (by omega) (by omega) hb (by omega) hl hx (.inr ⟨rfl, by omega⟩))
  have HB := Lib.hid (And.intro h0 h1)
  have hen := Tryz.lshVU_enters
  clear hb hx h0 h1
  go_enter Tryz.func94, Tryz.ntmps94
  go_wp2_with fail
  refine (HN.out _).mono ?_
  rintro e w' ⟨rfl, rfl⟩
  go_wp2_with fail
  refine HS.out.mono ?_
  rintro e w2 ⟨he, ho2, zs, hz, hzl, hout, hz0, hzj⟩
  have h0 := HB.out.1
  have h1 := HB.out.2
  have he : e = .returned (.int .u64 0) := by
    rw [he]
    show Ending.returned (.int .u64 (ys.getD 1 0 / 2 ^ 1)) = _
    rw [h1]; rfl
  subst he
  have e0 : zs.getD 0 0 = 9223372036854775808 := by
    rw [hz0]
    show IntKind.u64.wrap (ys.getD 0 0 * 2 ^ 63) = _
    rw [h0]; decide +kernel
  have e1 : zs.getD 1 0 = 12297829382473034410 := by
    have := hzj 1 (by omega) (by omega)
    rw [Nat.zero_add] at this
    rw [this]
    show bits .or .u64 (IntKind.u64.wrap (ys.getD 1 0 * 2 ^ 63)) (ys.getD 0 0 / 2 ^ 1) = _
    rw [h0, h1]; decide +kernel
  clear hz0 hzj h0 h1
  go_wp2_with fail
  go_ret
  exact ⟨zs, rfl, hz, hzl, e0, e1, ho2⟩
set_option maxRecDepth 100000 in
set_option maxHeartbeats 2000000 in
theorem newInt_pos (x : Int) (w : World) (h : 0 < x) (h2 : x < 9223372036854775808) :
    Calls Tryz.prog 33 #[.int .i64 x] w fun e w' => ∃ g, e = .returned (.pointer (some ⟨g, 0, none⟩)) ∧ ∃ b, Blk w' b [x] ∧ w'.heap[g]? = some (.cells #[.bool false, .slice (some ⟨b, 0, none⟩) 1 1] 87 (0, 0)) ∧ Only w w' (fun _ => False) ∧ w.heap.size ≤ b ∧ w.heap.size ≤ g := by
  have h1 : ¬ x < 0 := by omega
  have h3 : (x == 0) = false := by rw [beq_eq_false_iff_ne]; omega
  go_enter Tryz.func33, Tryz.ntmps33
  go_wp2
  go_ret
  have hb : Blk (w.alloc (.cells (words [x]) 110)) w.heap.size [x] := Blk.new w [x]
  have hg : ((w.alloc (.cells (words [x]) 110)).alloc (.cells #[.bool false, .slice (some ⟨w.heap.size, 0, none⟩) 1 1] 87)).heap[w.heap.size + 1]? = some (.cells #[.bool false, .slice (some ⟨w.heap.size, 0, none⟩) 1 1] 87 (0, 0)) := by
    have e : (w.alloc (.cells (words [x]) 110)).heap.size = w.heap.size + 1 := by simp
    rw [← e]
    exact heap_alloc_new _ _
  exact ⟨_, rfl, _, blk_alloc hb _, hg, ((Only.refl _ _).alloc _).alloc _, Nat.le_refl _, Nat.le_succ _⟩
set_option maxRecDepth 100000 in
set_option maxHeartbeats 2000000 in
theorem newInt_zero (w : World) :
    Calls Tryz.prog 33 #[.int .i64 0] w fun e w' => e = .returned (.pointer (some ⟨w.heap.size, 0, none⟩)) ∧ w' = w.alloc (.cells #[.bool false, .slice none 0 0] 87) := by
  go_enter Tryz.func33, Tryz.ntmps33
  go_wp2
  go_ret
  exact ⟨rfl, rfl⟩
def IsInt (w : World) (g : Nat) (o : Option Nat) (z : Int) : Prop := ∃ v, w.heap[g]? = some (.cells #[.bool (decide (z < 0)), v] 87 (0, 0)) ∧ IsNat w v o (Int.natAbs z)
theorem IsInt.only {w w' : World} {S : Nat → Prop} {g : Nat} {o : Option Nat} {z : Int} (h : IsInt w g o z) (hw : Only w w' S) (hg : ¬ S g) (hs : ∀ b, o = some b → ¬ S b) : IsInt w' g o z := by
  obtain ⟨v, h1, h2⟩ := h
  exact ⟨v, (hw.kept g (blk_lt h1) hg).trans h1, h2.only hw hs⟩
theorem IsNat.lt {w : World} {v : Value} {o : Option Nat} {x : Int} (h : IsNat w v o x) (b : Nat) (hb : o = some b) : b < w.heap.size := by
  cases h with
  | nil => cases hb
  | own b n ys x hB hn hm hw hx => cases hb; exact blk_lt hB
theorem IsInt.lt {w : World} {g : Nat} {o : Option Nat} {z : Int} (h : IsInt w g o z) : g < w.heap.size := by
  obtain ⟨v, h1, h2⟩ := h
  exact blk_lt h1
theorem IsInt.lt' {w : World} {g : Nat} {o : Option Nat} {z : Int} (h : IsInt w g o z) (b : Nat) (hb : o = some b) : b < w.heap.size := by
  obtain ⟨v, h1, h2⟩ := h
  exact h2.lt b hb
theorem IsNat.apart {w : World} {v : Value} {o : Option Nat} {x : Int} (h : IsNat w v o x) {g : Nat} {cs : Array Value} (hg : w.heap[g]? = some (.cells cs 87 (0, 0))) : o ≠ some g := by
  cases h with
  | nil => exact fun h => by cases h
  | own b n ys x hb hn hm hw hx =>
    intro h
    cases h
    exact blk_ne hg hb (by decide) rfl
theorem Room.apart {w : World} {v : Value} {o : Option Nat} (h : Room w v o) {g : Nat} {cs : Array Value} (hg : w.heap[g]? = some (.cells cs 87 (0, 0))) : o ≠ some g := by
  cases h with
  | nil => exact fun h => by cases h
  | own b n ys hb hn hm =>
    intro h
    cases h
    exact blk_ne hg hb (by decide) rfl
def Put (w w' : World) (g : Nat) (o : Option Nat) (r : Int) : Prop := ∃ o', IsInt w' g o' r ∧ Only w w' (fun k => k = g ∨ o = some k) ∧ (o' = o ∨ ∃ b, o' = some b ∧ w.heap.size ≤ b)
theorem IsNat.store {w : World} {v : Value} {o : Option Nat} {x : Int} (h : IsNat w v o x) {p : Addr} (hp : o ≠ some p.block) (u : Value) : IsNat (w.setCell p u) v o x := by
  refine h.only (S := fun k => k = p.block) ((Only.refl w (fun k => k = p.block)).set (.inr rfl) u) ?_
  rintro b rfl rfl
  exact hp rfl
theorem put_both {w w1 : World} {g : Nat} {o o' : Option Nat} {z r : Int} {v : Value} (h : IsInt w g o z) (hv : IsNat w1 v o' (Int.natAbs r)) (ho : Only w w1 (fun k => o = some k)) (hoo : o' = o ∨ ∃ b, o' = some b ∧ w.heap.size ≤ b) :
    Put w ((w1.setCell ⟨g, 1, none⟩ v).setCell ⟨g, 0, none⟩ (.bool (decide (r < 0)))) g o r := by
  obtain ⟨v0, hg, hn⟩ := h
  have ha := hn.apart hg
  have hg1 := (ho.kept g (blk_lt hg) ha).trans hg
  have ha1 := hv.apart hg1
  refine ⟨o', ⟨v, ?_, ?_⟩, ?_, hoo⟩
  · have := blk_set (blk_set hg1 1 v) 0 (.bool (decide (r < 0)))
    simpa using this
  · exact (hv.store ha1 _).store ha1 _
  · exact ((ho.mono (fun _ _ h => .inr h)).set (.inr (.inl rfl)) _).set (.inr (.inl rfl)) _
theorem put_sign {w : World} {g : Nat} {o : Option Nat} {z r : Int} (h : IsInt w g o z) (hr : Int.natAbs r = Int.natAbs z) : Put w (w.setCell ⟨g, 0, none⟩ (.bool (decide (r < 0)))) g o r := by
  obtain ⟨v0, hg, hn⟩ := h
  have ha := hn.apart hg
  refine ⟨o, ⟨v0, ?_, ?_⟩, (Only.refl _ _).set (.inr (.inl rfl)) _, .inl rfl⟩
  · have := blk_set hg 0 (.bool (decide (r < 0)))
    simpa using this
  · rw [hr]; exact hn.store ha _
theorem IsInt.cells {w : World} {g : Nat} {o : Option Nat} {z : Int} (h : IsInt w g o z) : ∃ v, w.cell? ⟨g, 0, none⟩ = some (.bool (decide (z < 0))) ∧ w.cell? ⟨g, 1, none⟩ = some v ∧ w.frozen? ⟨g, 0, none⟩ = false ∧ w.frozen? ⟨g, 1, none⟩ = false ∧ IsNat w v o (Int.natAbs z) := by
  obtain ⟨v, hg, hn⟩ := h
  exact ⟨v, blk_cell hg 0, blk_cell hg 1, blk_frozen hg 0, blk_frozen hg 1, hn⟩
theorem natAbs_zero {z : Int} (h : ((Int.natAbs z : Nat) : Int) = 0) : z = 0 := by omega
theorem natAbs_pos {z : Int} (h : 0 < ((Int.natAbs z : Nat) : Int)) : z ≠ 0 := by omega
set_option maxRecDepth 100000 in
set_option maxHeartbeats 1000000 in
theorem sign_int (g : Nat) (o : Option Nat) (z : Int) (w : World) (h : IsInt w g o z) :
    Calls Tryz.prog 38 #[.pointer (some ⟨g, 0, none⟩)] w fun e w' => e = .returned (.int .i64 z.sign) ∧ w' = w := by
  obtain ⟨v, c0, c1, _, _, hn⟩ := h.cells
  rcases hn.cases_ with ⟨hz, A, c, rfl⟩ | ⟨hp, b, n, ys, rfl, rfl, hb, hn0, hny, hym, hr, hx⟩
  · obtain rfl := natAbs_zero hz
    clear hn h hz
    go_enter Tryz.func38, Tryz.ntmps38
    go_wp2
    go_ret
    exact ⟨rfl, rfl⟩
  · have hz := natAbs_pos hp
    have h1 : ((n : Int) == 0) = false := by rw [beq_eq_false_iff_ne]; omega
    by_cases hs : z < 0
    · have e : z.sign = -1 := Int.sign_eq_neg_one_of_neg hs
      rw [e]
      have hd : decide (z < 0) = true := decide_eq_true hs
      rw [hd] at c0
      clear hn h hx hp e hd hs hz
      go_enter Tryz.func38, Tryz.ntmps38
      go_wp2
      go_ret
      exact ⟨rfl, rfl⟩
    · have e : z.sign = 1 := Int.sign_eq_one_of_pos (by omega)
      rw [e]
      have hd : decide (z < 0) = false := decide_eq_false hs
      rw [hd] at c0
      clear hn h hx hp e hd hs hz
      go_enter Tryz.func38, Tryz.ntmps38
      go_wp2
      go_ret
      exact ⟨rfl, rfl⟩
theorem IsNat.drew {w : World} {v : Value} {o : Option Nat} {x : Int} (h : IsNat w v o x) : IsNat w.drew v o x := h.only (Only.refl w (fun _ => False)).drew (fun _ _ h => h)
theorem sign_pow (x : Int) (s : Nat) : decide (x * 2 ^ s < 0) = decide (x < 0) := by
  have h : (0 : Int) < 2 ^ s := Int.pow_pos (by omega)
  rcases Int.lt_or_le x 0 with h1 | h1
  · have := Int.mul_neg_of_neg_of_pos h1 h
    rw [decide_eq_true h1, decide_eq_true this]
  · have := Int.mul_nonneg h1 (Int.le_of_lt h)
    rw [decide_eq_false (by omega), decide_eq_false (by omega)]
theorem natAbs_pow (x : Int) (s : Nat) : ((Int.natAbs (x * 2 ^ s) : Nat) : Int) = Int.natAbs x * 2 ^ s := by
  rw [Int.natAbs_mul, Int.natAbs_pow, Int.natCast_mul, Int.natCast_pow]; rfl
theorem IsNat.slice_ {w : World} {v : Value} {o : Option Nat} {x : Int} (h : IsNat w v o x) : ∃ A n c, v = .slice A n c := by
  cases h with
  | nil => exact ⟨_, _, _, rfl⟩
  | own b n ys x hb hn hm hw hx => exact ⟨_, _, _, rfl⟩
theorem blk_held {w w1 : World} {oz : Option Nat} {vz : Value} {n : Int} (hn : IsNat w vz oz n) {g : Nat} {cs : Array Value} (hg : w.heap[g]? = some (.cells cs 87 (0, 0))) (ho : Only w.drew w1 (fun k => oz = some k)) : w1.heap[g]? = some (.cells cs 87 (0, 0)) :=
  (ho.kept g (blk_lt hg) (hn.apart hg)).trans hg
theorem Put.from_drew {w w1 : World} {g : Nat} {o o' : Option Nat} {z r : Int} {v : Value} (h : IsInt w g o z) (hv : IsNat w1 v o' (Int.natAbs r)) (ho : Only w.drew w1 (fun k => o = some k)) (hoo : o' = o ∨ ∃ b, o' = some b ∧ w.drew.heap.size ≤ b) :
    Put w ((w1.setCell ⟨g, 1, none⟩ v).setCell ⟨g, 0, none⟩ (.bool (decide (r < 0)))) g o r := put_both h hv ((Only.refl w _).drew.trans ho) hoo
set_option maxRecDepth 100000 in
set_option maxHeartbeats 2000000 in
theorem lsh_int (gz gx : Nat) (oz ox : Option Nat) (z x : Int) (s : Nat) (w : World) (hz : IsInt w gz oz z) (hx : IsInt w gx ox x) (hf : Fits (Int.natAbs x)) (hs : 0 < s) (hs2 : s < 64) :
    Calls Tryz.prog 46 #[.pointer (some ⟨gz, 0, none⟩), .pointer (some ⟨gx, 0, none⟩), .int .u64 (s : Int)] w fun e w' => e = .returned (.pointer (some ⟨gz, 0, none⟩)) ∧ Put w w' gz oz (x * 2 ^ s) := by
  obtain ⟨vz, hgz, hnz⟩ := id hz
  obtain ⟨vx, hgx, hnx⟩ := id hx
  have hz1 : Room w.drew vz oz := hnz.drew.room
  have hx1 := hnx.drew
  have c1 : w.cell? ⟨gz, 1, none⟩ = some vz := blk_cell hgz 1
  have d1 : w.cell? ⟨gx, 1, none⟩ = some vx := blk_cell hgx 1
  have K : ∀ w1, Only w.drew w1 (fun k => oz = some k) → w1.cell? ⟨gz, 1, none⟩ = some vz ∧ w1.frozen? ⟨gz, 1, none⟩ = false ∧ w1.frozen? ⟨gz, 0, none⟩ = false ∧ w1.cell? ⟨gz, 0, none⟩ = some (.bool (decide (z < 0))) ∧ w1.cell? ⟨gx, 0, none⟩ = some (.bool (decide (x * 2 ^ s < 0))) := fun w1 ho => by
    have e1 := blk_held hnz hgz ho
    have e2 := blk_held hnz hgx ho
    exact ⟨blk_cell e1 1, blk_frozen e1 1, blk_frozen e1 0, blk_cell e1 0, by rw [sign_pow]; exact blk_cell e2 0⟩
  have HK := Lib.hid K
  clear K
  go_enter Tryz.func46, Tryz.ntmps46
  go_wp2_with fail
  go_region_law (go_simp; go_at_call 83; refine (lsh_nat vz oz vx ox _ s _ hz1 hx1 hf hs hs2).mono ?_; rintro e w1 ⟨v, o', rfl, hv, ho, hoo⟩; obtain ⟨A, n, c, rfl⟩ := hv.slice_; obtain ⟨k1, k2, k3, k4, k5⟩ := HK.out _ ho)
  all_goals
    go_wp2_with fail
    go_ret
    refine ⟨rfl, Put.from_drew hz (o' := o') ?_ ho hoo⟩
    rw [natAbs_pow]; exact hv
end Go.Proofs.YtlfmgdpbjapdjaaGreatFmtBesafter
namespace Go.Proofs.YtlfmgdpbjapdjaaGreatFmtBesafterW.PrintLast
section
variable {P : Program} {ops : Array Oper} {Q : Exit → Act → World → Prop} {md : Region.Mode} {S : World → Prop} {ds : List Nat}
def Region.reachB (md : Region.Mode) (ops : Array Oper) (i : Nat) : Nat → Nat → Bool
  | 0, _ => false
  | fuel + 1, d => match ops[d]? with
    | some o => o.after.any fun e => Region.binds md e && (e.on == i || Region.reachB md ops i fuel e.on)
    | none => false
def Region.closedB (md : Region.Mode) (ops : Array Oper) (listed : Array Bool) : Bool :=
  (List.range ops.size).all fun j => !listed.getD j false || match ops[j]? with
    | some o => o.after.all fun e => !Region.binds md e || listed.getD e.on false
    | none => true
def Region.lastB (md : Region.Mode) (ops : Array Oper) (listed : Array Bool) (ds : List Nat) (i : Nat) : Bool :=
  ds.all fun d => listed.getD d true || Region.reachB md ops i ops.size d
def ListedClosed (md : Region.Mode) (ops : Array Oper) (listed : Array Bool) : Prop :=
  ∀ j oj, ops[j]? = some oj → listed.getD j false = true → ∀ e ∈ oj.after, Region.binds md e = true → listed.getD e.on false = true
theorem Region.closedB_spec {listed : Array Bool} (h : Region.closedB md ops listed = true) : ListedClosed md ops listed := by
  intro j oj hj hl e he hb
  have hlt : j < ops.size := (Array.getElem?_eq_some_iff.1 hj).1
  have h1 := List.all_eq_true.1 h j (List.mem_range.2 hlt)
  simp only [hl, hj, Bool.not_true, Bool.false_or] at h1
  have h2 := Array.all_eq_true_iff_forall_mem.1 h1 e he
  simpa [hb] using h2
theorem ListedClosed.set {listed : Array Bool} {i : Nat} (h : ListedClosed md ops listed) (hi : i ∈ Region.ready md ops listed) : ListedClosed md ops (listed.setIfInBounds i true) := by
  obtain ⟨_, oi, hoi, hall⟩ := mem_ready.1 hi
  intro j oj hj hl e he hb
  by_cases hij : i = j
  · subst hij
    have : oj = oi := Option.some.inj (hj.symm.trans hoi)
    subst this
    exact getD_set_true (hall e he hb)
  · rw [getD_set_ne false hij] at hl
    exact getD_set_true (h j oj hj hl e he hb)
theorem Region.reach_listed {listed : Array Bool} {i : Nat} (hc : ListedClosed md ops listed) : ∀ (fuel d : Nat), Region.reachB md ops i fuel d = true → listed.getD d false = true → listed.getD i false = true
  | 0, _, h, _ => by simp [Region.reachB] at h
  | fuel + 1, d, h, hl => by
    unfold Region.reachB at h
    cases ho : ops[d]? with
    | none => rw [ho] at h; simp at h
    | some o =>
      rw [ho] at h
      obtain ⟨e, he, h1⟩ := Array.any_eq_true'.1 h
      simp only [Bool.and_eq_true, Bool.or_eq_true, beq_iff_eq] at h1
      have hle := hc d o ho hl e he h1.1
      rcases h1.2 with h2 | h2
      · rw [← h2]; exact hle
      · exact Region.reach_listed hc fuel e.on h2 hle
theorem Region.reach_not_ready {listed : Array Bool} {i d fuel : Nat} (hc : ListedClosed md ops listed) (hr : Region.reachB md ops i fuel d = true) (hun : listed.getD i true = false) : d ∉ Region.ready md ops listed := by
  intro hd
  obtain ⟨_, o, ho, hall⟩ := mem_ready.1 hd
  have hi : listed.getD i false = true := by
    cases fuel with
    | zero => simp [Region.reachB] at hr
    | succ n =>
      unfold Region.reachB at hr
      rw [ho] at hr
      obtain ⟨e, he, h1⟩ := Array.any_eq_true'.1 hr
      simp only [Bool.and_eq_true, Bool.or_eq_true, beq_iff_eq] at h1
      have hle := hall e he h1.1
      rcases h1.2 with h2 | h2
      · rw [← h2]; exact hle
      · exact Region.reach_listed hc n e.on h2 hle
  rcases Nat.lt_or_ge i listed.size with h' | h'
  · simp [h'] at hun hi
    rw [hun] at hi
    cases hi
  · simp [Array.getElem?_eq_none h'] at hun
def wpAnyLast (P : Program) (md : Region.Mode) (ops : Array Oper) (Q : Exit → Act → World → Prop) (S : World → Prop) (ds : List Nat) : Nat → Array Bool → Act → World → Prop
  | 0, listed, a, w => Region.ready md ops listed = [] ∧ Q .normal a w
  | fuel + 1, listed, a, w =>
    (Region.ready md ops listed = [] → Q .normal a w) ∧
    ∀ i ∈ Region.ready md ops listed, wpOp P ops Q i (fun a' w' => (i ∉ ds → S w → S w') ∧ wpAnyLast P md ops Q S ds fuel (listed.setIfInBounds i true) a' w') a w
theorem wpAny_of_last : ∀ (fuel : Nat) (listed : Array Bool) (a : Act) (w : World), wpAnyLast P md ops Q S ds fuel listed a w → wpAny P md ops Q fuel listed a w
  | 0, _, _, _, h => h
  | fuel + 1, _, _, _, h => ⟨h.1, fun i hi => wpOp_mono (fun a' w' h' => wpAny_of_last fuel _ a' w' h'.2) (h.2 i hi)⟩
theorem wpAnyLast_first {i : Nat} {oi : Oper} {v : Value} (hi : ops[i]? = some oi) (hsel : ∀ (j : Nat) (o : Oper) cs b, ops[j]? = some o → o.op ≠ .select cs b)
    (hQ : ∀ c a w, Q (.panic c) (a.put oi.dst v) w → Q (.panic c) a w) (n : Nat) :
    ∀ (fuel : Nat) (listed : Array Bool) (a : Act) (w : World),
      (∀ j oj, ops[j]? = some oj → j ≠ i → listed.getD j true = false → (∀ e ∈ oj.after, Region.binds md e = true → e.on ≠ i) → oi.apart ops oj = true) →
      ListedClosed md ops listed → (∀ d ∈ ds, listed.getD d true = false → Region.reachB md ops i n d = true) →
      i ∈ Region.ready md ops listed → YieldsIf P ops S oi v a → S w →
      wpAnyLast P md ops Q S ds fuel (listed.setIfInBounds i true) (a.put oi.dst v) w → wpAnyLast P md ops Q S ds (fuel + 1) listed a w := by
  intro fuel
  induction fuel with
  | zero =>
    intro listed a w _ _ _ hr hy hS H
    refine ⟨fun h => (by rw [h] at hr; cases hr), fun j hj => ?_⟩
    by_cases hji : j = i
    · subst hji; exact hy.wpOp hi hS ⟨fun _ h => h, H⟩
    · have := ready_mono hj hji
      rw [H.1] at this
      cases this
  | succ fuel ih =>
    intro listed a w hfree hc hd hr hy hS H
    refine ⟨fun h => (by rw [h] at hr; cases hr), fun j hj => ?_⟩
    by_cases hji : j = i
    · subst hji; exact hy.wpOp hi hS ⟨fun _ h => h, H⟩
    · have h1 := H.2 j (ready_mono hj hji)
      obtain ⟨hjun, oj, hoj, hall⟩ := mem_ready.1 hj
      have hiun := (mem_ready.1 hr).1
      have hnot : ∀ e ∈ oj.after, Region.binds md e = true → e.on ≠ i := fun e he hb heq => by
        have h1 := hall e he hb
        rw [heq] at h1
        rcases Nat.lt_or_ge i listed.size with h' | h'
        · simp [h'] at hiun h1; rw [hiun] at h1; cases h1
        · simp [Array.getElem?_eq_none h'] at h1
      have hjd : j ∉ ds := fun hm => Region.reach_not_ready hc (hd j hm hjun) hiun hj
      have h2 := wpOp_putIf hoj (hfree j oj hoj hji hjun hnot) (fun cs b => hsel i oi cs b hi) (fun cs b => hsel j oj cs b hoj) hQ hy h1
      have hfree' : ∀ k ok, ops[k]? = some ok → k ≠ i → (listed.setIfInBounds j true).getD k true = false →
          (∀ e ∈ ok.after, Region.binds md e = true → e.on ≠ i) → oi.apart ops ok = true := fun k ok hk hki hun hno => by
        refine hfree k ok hk hki ?_ hno
        by_cases hjk : j = k
        · subst hjk; exact hjun
        · rw [getD_set_ne true hjk] at hun; exact hun
      have hd' : ∀ d ∈ ds, (listed.setIfInBounds j true).getD d true = false → Region.reachB md ops i n d = true := fun d hm hun => by
        refine hd d hm ?_
        by_cases hjk : j = d
        · subst hjk; exact hjun
        · rw [getD_set_ne true hjk] at hun; exact hun
      refine wpOp_mono (fun a' w' h3 => ⟨h3.2.1, ih (listed.setIfInBounds j true) a' w' hfree' (hc.set hj) hd' (ready_mono hr (Ne.symm hji)) h3.1 (h3.2.1 hjd hS) ?_⟩) h2
      rw [Array.setIfInBounds_comm _ _ hji]
      exact h3.2.2
theorem wpAnyLast_any {i : Nat} {oi : Oper} {v : Value} (hi : ops[i]? = some oi) (hsel : ∀ (j : Nat) (o : Oper) cs b, ops[j]? = some o → o.op ≠ .select cs b)
    (hQ : ∀ c a w, Q (.panic c) (a.put oi.dst v) w → Q (.panic c) a w) :
    ∀ (fuel : Nat) (listed : Array Bool) (a : Act) (w : World),
      (∀ j oj, ops[j]? = some oj → j ≠ i → listed.getD j true = false → (∀ e ∈ oj.after, Region.binds md e = true → e.on ≠ i) → oi.apart ops oj = true) →
      i ∈ Region.ready md ops listed → Yields P ops oi v a →
      wpAnyLast P md ops Q S ds fuel (listed.setIfInBounds i true) (a.put oi.dst v) w → wpAnyLast P md ops Q S ds (fuel + 1) listed a w := by
  intro fuel
  induction fuel with
  | zero =>
    intro listed a w _ hr hy H
    refine ⟨fun h => (by rw [h] at hr; cases hr), fun j hj => ?_⟩
    by_cases hji : j = i
    · subst hji; exact (hy.yieldsIf (S := fun _ => True)).wpOp hi trivial ⟨fun _ h => h, H⟩
    · have := ready_mono hj hji
      rw [H.1] at this
      cases this
  | succ fuel ih =>
    intro listed a w hfree hr hy H
    refine ⟨fun h => (by rw [h] at hr; cases hr), fun j hj => ?_⟩
    by_cases hji : j = i
    · subst hji; exact (hy.yieldsIf (S := fun _ => True)).wpOp hi trivial ⟨fun _ h => h, H⟩
    · have h1 := H.2 j (ready_mono hj hji)
      obtain ⟨hjun, oj, hoj, hall⟩ := mem_ready.1 hj
      have hiun := (mem_ready.1 hr).1
      have hnot : ∀ e ∈ oj.after, Region.binds md e = true → e.on ≠ i := fun e he hb heq => by
        have h1 := hall e he hb
        rw [heq] at h1
        rcases Nat.lt_or_ge i listed.size with h' | h'
        · simp [h'] at hiun h1; rw [hiun] at h1; cases h1
        · simp [Array.getElem?_eq_none h'] at h1
      have h2 := wpOp_put hoj (hfree j oj hoj hji hjun hnot) (fun cs b => hsel i oi cs b hi) (fun cs b => hsel j oj cs b hoj) hQ hy h1
      have hfree' : ∀ k ok, ops[k]? = some ok → k ≠ i → (listed.setIfInBounds j true).getD k true = false →
          (∀ e ∈ ok.after, Region.binds md e = true → e.on ≠ i) → oi.apart ops ok = true := fun k ok hk hki hun hno => by
        refine hfree k ok hk hki ?_ hno
        by_cases hjk : j = k
        · subst hjk; exact hjun
        · rw [getD_set_ne true hjk] at hun; exact hun
      refine wpOp_mono (fun a' w' h3 => ⟨h3.2.1, ih (listed.setIfInBounds j true) a' w' hfree' (ready_mono hr (Ne.symm hji)) h3.1 ?_⟩) h2
      rw [Array.setIfInBounds_comm _ _ hji]
      exact h3.2.2
theorem wpAnyLast_take {i : Nat} {oi : Oper} {v : Value} {fuel : Nat} {listed : Array Bool} {a : Act} {w : World} (hi : ops[i]? = some oi)
    (hs : Region.noSelect ops = true) (hf : Region.free md ops listed i = true) (hr : (Region.ready md ops listed).contains i = true)
    (hc : Region.closedB md ops listed = true) (hl : Region.lastB md ops listed ds i = true)
    (hQ : ∀ c a w, Q (.panic c) (a.put oi.dst v) w → Q (.panic c) a w) (hy : YieldsIf P ops S oi v a) (hS : S w)
    (h : wpAnyLast P md ops Q S ds fuel (listed.setIfInBounds i true) (a.put oi.dst v) w) : wpAnyLast P md ops Q S ds (fuel + 1) listed a w :=
  wpAnyLast_first hi (Region.noSelect_spec hs) hQ ops.size fuel listed a w (Region.free_spec hi hf) (Region.closedB_spec hc)
    (fun d hm hun => by have := List.all_eq_true.1 hl d hm; rw [hun] at this; simpa using this) (by simpa using hr) hy hS h
theorem wpAnyLast_all {rs : List Nat} {fuel : Nat} {listed : Array Bool} {a : Act} {w : World} (hr : Region.ready md ops listed = rs) (hne : rs ≠ [])
    (h : ∀ i ∈ rs, wpOp P ops Q i (fun a' w' => (i ∉ ds → S w → S w') ∧ wpAnyLast P md ops Q S ds fuel (listed.setIfInBounds i true) a' w') a w) : wpAnyLast P md ops Q S ds (fuel + 1) listed a w :=
  ⟨fun h0 => absurd (hr ▸ h0) hne, hr ▸ h⟩
theorem wpAnyLast_done {listed : Array Bool} {a : Act} {w : World} (hr : Region.ready md ops listed = []) (h : Q .normal a w) :
    ∀ fuel, wpAnyLast P md ops Q S ds fuel listed a w
  | 0 => ⟨hr, h⟩
  | _ + 1 => ⟨fun _ => h, by rw [hr]; simp⟩
theorem wp_region_last {id : Nat} {a : Act} {w : World} (hm : P.follows .mixedOrders = true)
    (h : wpAnyLast P .any ops Q S ds ops.size (Array.replicate ops.size false) a { w with drawn := w.drawn + 1 }) : (Code.region id ops true).wp P Q a w :=
  wp_region_any hm (wpAny_of_last _ _ _ _ h)
end
section
variable {P : Program} {ops : Array Oper} {Q : Exit → Act → World → Prop} {md : Region.Mode} {S : World → Prop} {ds : List Nat}
def AllReadyL (P : Program) (md : Region.Mode) (ops : Array Oper) (Q : Exit → Act → World → Prop) (S : World → Prop) (ds : List Nat) (fuel : Nat) (listed : Array Bool) (a : Act) (w : World) (rs : List Nat) : Prop :=
  ∀ i ∈ rs, wpOp P ops Q i (fun a' w' => (i ∉ ds → S w → S w') ∧ wpAnyLast P md ops Q S ds fuel (listed.setIfInBounds i true) a' w') a w
theorem AllReadyL.nil {fuel : Nat} {listed : Array Bool} {a : Act} {w : World} : AllReadyL P md ops Q S ds fuel listed a w [] := fun _ h => by cases h
theorem AllReadyL.cons {fuel : Nat} {listed : Array Bool} {a : Act} {w : World} {i : Nat} {o : Oper} {rs : List Nat} (ho : ops[i]? = some o) (hd : i ∉ ds)
    (h : ∀ K' : Act → World → Prop, Shut (∀ a w, S w → (S w → wpAnyLast P md ops Q S ds fuel (listed.setIfInBounds i true) a w) → K' a w) → if Region.wanted o (yielded ops a.tmps) = true then Oper.wp P o a w K' Q else K' (a.put o.dst undef) w)
    (hs : AllReadyL P md ops Q S ds fuel listed a w rs) : AllReadyL P md ops Q S ds fuel listed a w (i :: rs) := fun j hj => by
  rcases List.mem_cons.1 hj with rfl | hj
  · exact wpOp_step ho (fun K' hK => h K' (fun a w hS hW => hK a w ⟨fun _ _ => hS, hW hS⟩))
  · exact hs j hj
theorem AllReadyL.cons_last {fuel : Nat} {listed : Array Bool} {a : Act} {w : World} {i : Nat} {o : Oper} {rs : List Nat} (ho : ops[i]? = some o) (hd : i ∈ ds)
    (h : ∀ K' : Act → World → Prop, Shut (∀ a w, wpAnyLast P md ops Q S ds fuel (listed.setIfInBounds i true) a w → K' a w) → if Region.wanted o (yielded ops a.tmps) = true then Oper.wp P o a w K' Q else K' (a.put o.dst undef) w)
    (hs : AllReadyL P md ops Q S ds fuel listed a w rs) : AllReadyL P md ops Q S ds fuel listed a w (i :: rs) := fun j hj => by
  rcases List.mem_cons.1 hj with rfl | hj
  · exact wpOp_step ho (fun K' hK => h K' (fun a w hW => hK a w ⟨fun hn => absurd hd hn, hW⟩))
  · exact hs j hj
theorem wpAnyLast_ready {rs : List Nat} {fuel : Nat} {listed : Array Bool} {a : Act} {w : World} (hr : Region.ready md ops listed = rs) (hne : rs ≠ [])
    (h : AllReadyL P md ops Q S ds fuel listed a w rs) : wpAnyLast P md ops Q S ds (fuel + 1) listed a w := wpAnyLast_all hr hne h
theorem start_ {id n : Nat} {a : Act} {w : World} (l : Array Bool) (hm : P.follows .mixedOrders = true) (hn : ops.size = n) (hl : Array.replicate n false = l) (hS : S w.drew)
    (h : S w.drew → wpAnyLast P .any ops Q S ds n l a w.drew) : (Code.region id ops true).wp P Q a w := by
  subst hn
  subst hl
  exact wp_region_last hm (h hS)
def takeB (md : Region.Mode) (ops : Array Oper) (ds : List Nat) (l l' : Array Bool) (i : Nat) : Bool :=
  Region.noSelect ops && Region.free md ops l i && (Region.ready md ops l).contains i && Region.closedB md ops l && Region.lastB md ops l ds i && (l.setIfInBounds i true == l')
theorem take_ {i : Nat} {N : Option Tmp} {oi : Oper} {v : Value} {fuel : Nat} {l : Array Bool} {a : Act} {w : World} (l' : Array Bool) (hi : ops[i]? = some oi) (hN : oi.dst = N) (hc : takeB md ops ds l l' i = true)
    (hQ : ∀ c a w, Q (.panic c) (a.put oi.dst v) w → Q (.panic c) a w) (hy : YieldsIf P ops S oi v a) (hS : S w) {a' : Act} (ha : a.put N v = a')
    (h : wpAnyLast P md ops Q S ds fuel l' a' w) : wpAnyLast P md ops Q S ds (fuel + 1) l a w := by
  subst ha
  subst hN
  simp only [takeB, Bool.and_eq_true, beq_iff_eq] at hc
  obtain ⟨⟨⟨⟨⟨h1, h2⟩, h3⟩, h4⟩, h5⟩, h6⟩ := hc
  subst h6
  exact wpAnyLast_take hi h1 h2 h3 h4 h5 hQ hy hS h
def anyB (md : Region.Mode) (ops : Array Oper) (l l' : Array Bool) (i : Nat) : Bool :=
  Region.noSelect ops && Region.free md ops l i && (Region.ready md ops l).contains i && (l.setIfInBounds i true == l')
theorem pure_ {i : Nat} {N : Option Tmp} {oi : Oper} {v : Value} {fuel : Nat} {l : Array Bool} {a : Act} {w : World} (l' : Array Bool) (hi : ops[i]? = some oi) (hN : oi.dst = N) (hc : anyB md ops l l' i = true)
    (hQ : ∀ c a w, Q (.panic c) (a.put oi.dst v) w → Q (.panic c) a w) (hy : Yields P ops oi v a) {a' : Act} (ha : a.put N v = a')
    (h : wpAnyLast P md ops Q S ds fuel l' a' w) : wpAnyLast P md ops Q S ds (fuel + 1) l a w := by
  subst ha
  subst hN
  simp only [anyB, Bool.and_eq_true, beq_iff_eq] at hc
  obtain ⟨⟨⟨h1, h2⟩, h3⟩, h6⟩ := hc
  subst h6
  exact wpAnyLast_any hi (Region.noSelect_spec h1) hQ fuel l a w (Region.free_spec hi h2) (by simpa using h3) hy h
theorem done_ {l : Array Bool} {a : Act} {w : World} {n : Nat} (hr : (Region.ready md ops l == []) = true) (h : Q .normal a w) : wpAnyLast P md ops Q S ds n l a w := wpAnyLast_done (by simpa using hr) h n
theorem enters_ {f : FuncId} {fn : Func} (hf : P.funcs[f]? = some fn) (hname : (fn.name == "runtime.NumGoroutine") = false) (hb : fn.body.isSome = true) (args : Array Value) (w : World) : (callFunc f args).run P w = .ok (.enter f args) w := by
  have h1 : fn.name ≠ "runtime.NumGoroutine" := by simpa using hname
  obtain ⟨c, hc⟩ := Option.isSome_iff_exists.1 hb
  simp [callFunc, hf, h1, hc]
theorem goesL_ {rest : List Oper} {oi : Oper} {a : Act} {w : World} (N : Option Tmp) (hd : oi.dst = N) (hg : oi.guard = none) {f : FuncId} {fn : Func} {ags : Array Operand} {ts : Array TypeId} (hf : P.funcs[f]? = some fn) (hname : (fn.name == "runtime.NumGoroutine") = false) (hb : fn.body.isSome = true) (args : Array Value)
    (hop : oi.op = .call { callee := .value (.func f), args := ags, argTypes := ts }) (hargs : ags.map a.eval = args)
    (h : Calls P f args w fun e w' => ∃ v, e = .returned v ∧ wpList P ops Q rest (a.put N v) w') : wpList P ops Q (oi :: rest) a w := by
  refine wpList_plain hg fun K hK => ?_
  have he := enters_ hf hname hb args w
  have hrun : (execOp a.eval oi).run P w = .ok (.enter f args) w := by
    unfold execOp
    simp [hop, resolve, Deferred.ofValue, invoke, Act.eval, hargs, he]
  unfold Oper.wp
  rw [hrun, Oper.upon_enter]
  refine h.mono fun e w'' hh => ?_
  obtain ⟨v, rfl, hk⟩ := hh
  subst hd
  exact hK _ _ hk
theorem i64_w (n : Int) : IntKind.i64.wrap n = Go.RowKit.wrap64 n := by unfold Go.RowKit.wrap64; exact IntKind.wrap_i64 n
theorem i32_w (n : Int) : IntKind.i32.wrap n = Go.RowKit.wrap32 n := by unfold Go.RowKit.wrap32; exact IntKind.wrap_i32 n
end
end Go.Proofs.YtlfmgdpbjapdjaaGreatFmtBesafterW.PrintLast
namespace Go.Proofs.YtlfmgdpbjapdjaaGreatFmtBesafter
open Go.RowKit Go.Proofs.YtlfmgdpbjapdjaaGreatFmtBesafterW.PrintWords Go.Proofs.YtlfmgdpbjapdjaaGreatFmtBesafterW.PrintLast
def fl (p a fm : Int) (n : Bool) (v : Value) (e : Int) : Array Value := #[.int .u32 p, .int .u8 0, .int .i8 a, .int .u8 fm, .bool n, v, .int .i32 e]
set_option maxRecDepth 100000 in
set_option maxHeartbeats 4000000 in
theorem round_a (f b c : Nat) (ys : List Int) (a e : Int) (w : World) (hf : w.heap[f]? = some (.cells (fl 65 a 1 false (.slice (some ⟨b, 0, none⟩) 2 c) e) 119 (0, 0))) (hb : Blk w b ys) (hn : 2 ≤ ys.length) (h0 : ys.getD 0 0 = 9223372036854775808) :
    Calls Tryz.prog 124 #[.pointer (some ⟨f, 0, none⟩), .int .u64 0] w fun en w' => en = .returned (.tuple #[]) ∧ w'.heap[f]? = some (.cells (fl 65 0 1 false (.slice (some ⟨b, 0, none⟩) 2 c) e) 119 (0, 0)) ∧ Blk w' b (ys.set 0 9223372036854775808) ∧ Only w w' (fun k => k = f ∨ k = b) := by
  have hW : ∀ n, IntKind.u64.wrap n = n % 18446744073709551616 := IntKind.wrap_u64
  have hW3 : ∀ n, IntKind.u32.wrap n = n % 4294967296 := IntKind.wrap_u32
  have c0 : w.cell? ⟨f, 0, none⟩ = some (.int .u32 65) := blk_cell hf 0
  have c1 : w.cell? ⟨f, 1, none⟩ = some (.int .u8 0) := blk_cell hf 1
  have c2 : w.cell? ⟨f, 2, none⟩ = some (.int .i8 a) := blk_cell hf 2
  have c3 : w.cell? ⟨f, 3, none⟩ = some (.int .u8 1) := blk_cell hf 3
  have c5 : w.cell? ⟨f, 5, none⟩ = some (.slice (some ⟨b, 0, none⟩) 2 c) := blk_cell hf 5
  have f2 := blk_frozen hf 2
  have x0 : w.cell? ⟨b, 0, none⟩ = some (.int .u64 9223372036854775808) := by rw [hb.cell _ (by omega), h0]
  have g0 := blk_frozen hb 0
  have hne : f ≠ b := blk_ne hf hb (by decide)
  obtain ⟨w1, hw1⟩ : ∃ w1, w1 = w.setCell ⟨f, 2, none⟩ (.int .i8 0) := ⟨_, rfl⟩
  have HBIT := Lib.hid (fun W hb' => bit_lit b 2 c ys 62 0 62 9223372036854775808 2 W hb' hn (by decide) (by decide) (by decide) (by decide) (by decide) h0 (by decide +kernel) (by decide))
  have HST := Lib.hid (fun W hb' => sticky_a b c ys W hb' hn h0)
  have hb1 : Blk (w.setCell ⟨f, 2, none⟩ (.int .i8 0)) b ys := blk_far hb (p := ⟨f, 2, none⟩) (Ne.symm hne) _
  have b1 : bits .and .u64 2 1 = 0 := by decide +kernel
  have b2 : bits .and .u64 0 1 = 0 := by decide +kernel
  have b3 : bits .or .u64 0 0 = 0 := by decide +kernel
  have b4 : bits .andNot .u64 9223372036854775808 9223372036854775807 = 9223372036854775808 := by decide +kernel
  clear hw1 w1
  go_enter Tryz.func124, Tryz.ntmps124
  go_wp2_with fail
  refine (HBIT.out _ hb1).mono ?_
  rintro en w' ⟨rfl, rfl⟩
  go_wp2_with fail
  refine (HST.out _ hb1).mono ?_
  rintro en w' ⟨rfl, rfl⟩
  go_wp2_with fail
  go_end0
  have h1 := blk_far (blk_set hf 2 (.int .i8 0)) (p := ⟨b, 0, none⟩) hne (.int .u64 9223372036854775808)
  refine ⟨rfl, by simpa [fl] using h1, hb1.set 0 9223372036854775808, ?_⟩
  exact ((Only.refl w (fun k => k = f ∨ k = b)).set (p := ⟨f, 2, none⟩) (.inr (.inl rfl)) _).set (p := ⟨b, 0, none⟩) (.inr (.inr rfl)) _
theorem after_copy {w1 W : World} {f b : Nat} {ys : List Int} {cs : Array Value} (hf : W.heap[f]? = some (.cells cs 119 (0, 0))) (hb : Blk W b ys) (hne : f ≠ b) (_ : 2 ≤ ys.length) (hH : Only w1 W (fun k => k = b)) :
    ∃ w2, w2 = W.setRow b (words (splice ys 0 [12297829382473034410])) ∧ w2.heap[f]? = some (.cells cs 119 (0, 0)) ∧ Blk w2 b (splice ys 0 [12297829382473034410]) ∧ Only w1 w2 (fun k => k = b) :=
  ⟨_, rfl, (setRow_other W b f _ hne).trans hf, hb.row _, hH.row (.inr rfl) _⟩
set_option linter.unusedVariables false in
set_option linter.unusedSimpArgs false in
set_option maxRecDepth 100000 in
set_option maxHeartbeats 4000000 in
theorem round_b (f b c : Nat) (ys : List Int) (a e : Int) (w : World) (hf : w.heap[f]? = some (.cells (fl 53 a 1 false (.slice (some ⟨b, 0, none⟩) 2 (c + 2)) e) 119 (0, 0))) (hb : Blk w b ys) (hn : 2 ≤ ys.length) (h0 : ys.getD 0 0 = 9223372036854775808) (h1 : ys.getD 1 0 = 12297829382473034410) :
    Calls Tryz.prog 124 #[.pointer (some ⟨f, 0, none⟩), .int .u64 0] w fun en w' => en = .returned (.tuple #[]) ∧ w'.heap[f]? = some (.cells (fl 53 (-1) 1 false (.slice (some ⟨b, 0, none⟩) 1 (c + 2)) e) 119 (0, 0)) ∧ (∃ zs, Blk w' b zs ∧ zs.length = ys.length ∧ zs.getD 0 0 = 12297829382473033728) ∧ Only w w' (fun k => k = f ∨ k = b) := by
  have hW : ∀ n, IntKind.u64.wrap n = n % 18446744073709551616 := IntKind.wrap_u64
  have hW3 : ∀ n, IntKind.u32.wrap n = n % 4294967296 := IntKind.wrap_u32
  have c0 : w.cell? ⟨f, 0, none⟩ = some (.int .u32 53) := blk_cell hf 0
  have c1 : w.cell? ⟨f, 1, none⟩ = some (.int .u8 0) := blk_cell hf 1
  have c2 : w.cell? ⟨f, 2, none⟩ = some (.int .i8 a) := blk_cell hf 2
  have c3 : w.cell? ⟨f, 3, none⟩ = some (.int .u8 1) := blk_cell hf 3
  have c4 : w.cell? ⟨f, 4, none⟩ = some (.bool false) := blk_cell hf 4
  have c5 : w.cell? ⟨f, 5, none⟩ = some (.slice (some ⟨b, 0, none⟩) 2 (c + 2)) := blk_cell hf 5
  have f2 := blk_frozen hf 2
  have f5 := blk_frozen hf 5
  have hne : f ≠ b := blk_ne hf hb (by decide)
  have HBIT := Lib.hid (fun W hb' => bit_lit b 2 (c + 2) ys 74 1 10 12297829382473034410 12009599006321322 W hb' hn (by decide) (by decide) (by decide) (by decide) (by decide) h1 (by decide +kernel) (by decide))
  have HST := Lib.hid (fun W hb' => sticky_b b (c + 2) ys W hb' hn h0 (by omega))
  have hb1 : Blk (w.setCell ⟨f, 2, none⟩ (.int .i8 0)) b ys := blk_far hb (p := ⟨f, 2, none⟩) (Ne.symm hne) _
  have b1 : bits .and .u64 12009599006321322 1 = 0 := by decide +kernel
  have b2 : bits .and .u64 1 1 = 1 := by decide +kernel
  have b3 : bits .or .u64 0 1 = 1 := by decide +kernel
  have b4 : bits .andNot .u64 12297829382473034410 2047 = 12297829382473033728 := by decide +kernel
  go_enter Tryz.func124, Tryz.ntmps124
  go_wp2_with fail
  refine (HBIT.out _ hb1).mono ?_
  rintro en w' ⟨rfl, rfl⟩
  go_wp2_with fail
  refine (HST.out _ hb1).mono ?_
  rintro en w' ⟨rfl, rfl⟩
  go_wp2_with fail
  have hf1 : (w.setCell ⟨f, 2, none⟩ (.int .i8 0)).heap[f]? = some (.cells (fl 53 0 1 false (.slice (some ⟨b, 0, none⟩) 2 (c + 2)) e) 119 (0, 0)) := by simpa [fl] using blk_set hf 2 (.int .i8 0)
  have ho1 : Only w (w.setCell ⟨f, 2, none⟩ (.int .i8 0)) (fun k => k = f ∨ k = b) := (Only.refl w (fun k => k = f ∨ k = b)).set (p := ⟨f, 2, none⟩) (.inr (.inl rfl)) _
  clear c0 c1 c2 c3 c4 c5 f2 f5 HBIT HST
  generalize w.setCell ⟨f, 2, none⟩ (.int .i8 0) = w1 at *
  clear hf hb
  have HK : Hid (∀ W, Only w1 W (fun k => k = b) → W.cell? ⟨f, 5, none⟩ = some (.slice (some ⟨b, 0, none⟩) 2 (c + 2))) := Lib.hid (fun W hW => by
    have h := (hW.kept _ (blk_lt hf1) hne).trans hf1
    exact blk_cell h 5)
  have hfd := blk_drew hf1
  have hbd : Blk w1.drew b ys := hb1
  have hy1 : w1.drew.cell? ⟨b, 1 + 0, none⟩ = some (.int .u64 12297829382473034410) := by
    have := hb1.cell 1 (by omega)
    rw [h1] at this
    exact this
  have HO1 := Lib.hid ho1
  clear hf1 hb1 ho1
  refine start_ (S := (fun W => Only w1 W (fun k => k = b))) (ds := ([] : List Nat)) #[false, false, false, false, false, false, false, false, false, false, false, false, false] (by kernel_rfl) rfl rfl ?_ (fun hHeld => ?_)
  · exact (Only.refl w1 _).drew
  generalize w1.drew = W1 at *
  refine pure_ (i := 0) (oi := ?o0) (v := ?v0) #[true, false, false, false, false, false, false, false, false, false, false, false, false] ?h0 rfl (by kernel_rfl) ?q0 (Or.inl ⟨?w0, ?y0⟩) rfl ?r0
  case h0 => (simp only [ga, gb, gc]; rfl)
  case q0 => exact fun _ _ _ h => h
  case w0 => rfl
  case y0 => (intro W; go_simp; first | done | with_reducible rfl)
  simp only [Act.put, zd, ze, zf]
  refine pure_ (i := 1) (oi := ?o1) (v := ?v1) #[true, true, false, false, false, false, false, false, false, false, false, false, false] ?h1 rfl (by kernel_rfl) ?q1 (Or.inl ⟨?w1, ?y1⟩) rfl ?r1
  case h1 => (simp only [ga, gb, gc]; rfl)
  case q1 => exact fun _ _ _ h => h
  case w1 => rfl
  case y1 => (intro W; go_simp; first | done | with_reducible rfl)
  simp only [Act.put, zd, ze, zf]
  refine pure_ (i := 2) (oi := ?o2) (v := ?v2) #[true, true, true, false, false, false, false, false, false, false, false, false, false] ?h2 rfl (by kernel_rfl) ?q2 (Or.inl ⟨?w2, ?y2⟩) rfl ?r2
  case h2 => (simp only [ga, gb, gc]; rfl)
  case q2 => exact fun _ _ _ h => h
  case w2 => rfl
  case y2 => (intro W; go_simp; first | done | with_reducible rfl)
  simp only [Act.put, zd, ze, zf]
  refine pure_ (i := 4) (oi := ?o3) (v := ?v3) #[true, true, true, false, true, false, false, false, false, false, false, false, false] ?h3 rfl (by kernel_rfl) ?q3 (Or.inl ⟨?w3, ?y3⟩) rfl ?r3
  case h3 => (simp only [ga, gb, gc]; rfl)
  case q3 => exact fun _ _ _ h => h
  case w3 => rfl
  case y3 => (intro W; go_simp; first | done | with_reducible rfl)
  simp only [Act.put, zd, ze, zf]
  refine pure_ (i := 5) (oi := ?o4) (v := ?v4) #[true, true, true, false, true, true, false, false, false, false, false, false, false] ?h4 rfl (by kernel_rfl) ?q4 (Or.inl ⟨?w4, ?y4⟩) rfl ?r4
  case h4 => (simp only [ga, gb, gc]; rfl)
  case q4 => exact fun _ _ _ h => h
  case w4 => rfl
  case y4 => (intro W; go_simp; first | done | with_reducible rfl)
  simp only [Act.put, zd, ze, zf]
  refine pure_ (i := 6) (oi := ?o5) (v := ?v5) #[true, true, true, false, true, true, true, false, false, false, false, false, false] ?h5 rfl (by kernel_rfl) ?q5 (Or.inl ⟨?w5, ?y5⟩) rfl ?r5
  case h5 => (simp only [ga, gb, gc]; rfl)
  case q5 => exact fun _ _ _ h => h
  case w5 => rfl
  case y5 => (intro W; go_simp; first | done | with_reducible rfl)
  simp only [Act.put, zd, ze, zf]
  refine pure_ (i := 8) (oi := ?o6) (v := ?v6) #[true, true, true, false, true, true, true, false, true, false, false, false, false] ?h6 rfl (by kernel_rfl) ?q6 (Or.inl ⟨?w6, ?y6⟩) rfl ?r6
  case h6 => (simp only [ga, gb, gc]; rfl)
  case q6 => exact fun _ _ _ h => h
  case w6 => rfl
  case y6 => (intro W; go_simp; first | done | with_reducible rfl)
  simp only [Act.put, zd, ze, zf]
  refine pure_ (i := 9) (oi := ?o7) (v := ?v7) #[true, true, true, false, true, true, true, false, true, true, false, false, false] ?h7 rfl (by kernel_rfl) ?q7 (Or.inl ⟨?w7, ?y7⟩) rfl ?r7
  case h7 => (simp only [ga, gb, gc]; rfl)
  case q7 => exact fun _ _ _ h => h
  case w7 => rfl
  case y7 => (intro W; go_simp; first | done | with_reducible rfl)
  simp only [Act.put, zd, ze, zf]
  refine pure_ (i := 10) (oi := ?o8) (v := ?v8) #[true, true, true, false, true, true, true, false, true, true, true, false, false] ?h8 rfl (by kernel_rfl) ?q8 (Or.inl ⟨?w8, ?y8⟩) rfl ?r8
  case h8 => (simp only [ga, gb, gc]; rfl)
  case q8 => exact fun _ _ _ h => h
  case w8 => rfl
  case y8 => (intro W; go_simp; first | done | with_reducible rfl)
  simp only [Act.put, zd, ze, zf]
  refine wpAnyLast_take (i := 3) (oi := ?o9) (v := ?v9) ?h9 (by kernel_rfl) (by kernel_rfl) (by kernel_rfl) (by kernel_rfl) (by kernel_rfl) ?q9 (Or.inl ⟨?w9, ?y9⟩) hHeld ?r9
  case h9 => (simp only [ga, gb, gc]; rfl)
  case q9 => exact fun _ _ _ h => h
  case w9 => rfl
  case y9 => (intro W hSw; have q5 := HK.out _ hSw; go_simp; first | done | with_reducible rfl)
  simp only [Act.put, zd, ze, zf]
  refine wpAnyLast_take (i := 7) (oi := ?o10) (v := ?v10) ?h10 (by kernel_rfl) (by kernel_rfl) (by kernel_rfl) (by kernel_rfl) (by kernel_rfl) ?q10 (Or.inl ⟨?w10, ?y10⟩) hHeld ?r10
  case h10 => (simp only [ga, gb, gc]; rfl)
  case q10 => exact fun _ _ _ h => h
  case w10 => rfl
  case y10 => (intro W hSw; have q5 := HK.out _ hSw; go_simp; first | done | with_reducible rfl)
  simp only [Act.put, zd, ze, zf]
  refine pure_ (i := 11) (oi := ?o11) (v := ?v11) #[true, true, true, true, true, true, true, true, true, true, true, true, false] ?h11 rfl (by kernel_rfl) ?q11 (Or.inl ⟨?w11, ?y11⟩) rfl ?r11
  case h11 => (simp only [ga, gb, gc]; rfl)
  case q11 => exact fun _ _ _ h => h
  case w11 => rfl
  case y11 => (intro W; go_simp; first | done | with_reducible rfl)
  simp only [Act.put, zd, ze, zf]
  refine wpAnyLast_ready (rs := [12]) (by kernel_rfl) (by simp) ?_
  refine AllReadyL.cons (o := ?o12) ?h12 (by simp) (fun K hK => ?s12) ?m12
  case h12 => (simp only [ga, gb, gc]; rfl)
  case m12 => exact AllReadyL.nil
  have hcp := fun T => copy_run b 0 2 (c + 2) b 1 1 (c + 1) 1 ys (fun _ => 12297829382473034410) W1 85 T Tryz.underlying85 hbd (by decide) (fun j hj => by rw [show j = 0 by omega]; exact hy1) (by omega)
  go_simp
  refine hK.out _ _ (hHeld.row (.inr rfl) _) (fun hHeldN => ?_)
  clear hK K hHeldN hcp
  simp only [Act.put, zd, ze, zf]
  refine done_ (by kernel_rfl) ?_
  obtain ⟨w2, hw2, hf2, hb2, ho2⟩ := after_copy hfd hbd hne (by omega) hHeld
  rw [← hw2]
  clear hw2 hHeld hbd hfd hy1
  have c0 : w2.cell? ⟨f, 0, none⟩ = some (.int .u32 53) := blk_cell hf2 0
  have c1 : w2.cell? ⟨f, 1, none⟩ = some (.int .u8 0) := blk_cell hf2 1
  have c2 : w2.cell? ⟨f, 2, none⟩ = some (.int .i8 0) := blk_cell hf2 2
  have c4 : w2.cell? ⟨f, 4, none⟩ = some (.bool false) := blk_cell hf2 4
  have c5 : w2.cell? ⟨f, 5, none⟩ = some (.slice (some ⟨b, 0, none⟩) 2 (c + 2)) := blk_cell hf2 5
  have f2 := blk_frozen hf2 2
  have f5 := blk_frozen hf2 5
  have x0 : w2.cell? ⟨b, 0, none⟩ = some (.int .u64 12297829382473034410) := by rw [hb2.cell _ (by rw [length_splice _ _ _ (by simp; omega)]; omega), splice_at _ _ _ _ (by simp; omega)]; rfl
  have g0 := blk_frozen hb2 0
  have HA := Lib.hid (fun b w => acc_calls b w)
  go_wp2_with fail
  refine (HA.out _ _).mono ?_
  rintro en w' ⟨rfl, rfl⟩
  go_wp2_with fail
  go_end0
  have h9 := blk_far (blk_set (blk_set hf2 5 (.slice (some ⟨b, 0, none⟩) 1 (c + 2))) 2 (.int .i8 (-1))) (p := ⟨b, 0, none⟩) hne (.int .u64 12297829382473033728)
  have hb9 := (show Blk ((w2.setCell ⟨f, 5, none⟩ (.slice (some ⟨b, 0, none⟩) 1 (c + 2))).setCell ⟨f, 2, none⟩ (.int .i8 (-1))) b _ from blk_far (blk_far hb2 (p := ⟨f, 5, none⟩) (Ne.symm hne) _) (p := ⟨f, 2, none⟩) (Ne.symm hne) _).set 0 12297829382473033728
  refine ⟨rfl, by simpa [fl] using h9, ⟨_, hb9, ?_, ?_⟩, ?_⟩
  · rw [List.length_set, length_splice _ _ _ (by simp; omega)]
  · simp [List.getD, length_splice ys 0 [12297829382473034410] (by simp; omega), show 0 < ys.length by omega]
  · have hs := (((Only.refl w2 (fun k => k = f ∨ k = b)).set (p := ⟨f, 5, none⟩) (.inr (.inl rfl)) (.slice (some ⟨b, 0, none⟩) 1 (c + 2))).set (p := ⟨f, 2, none⟩) (.inr (.inl rfl)) (.int .i8 (-1))).set (p := ⟨b, 0, none⟩) (.inr (.inr rfl)) (.int .u64 12297829382473033728)
    exact (HO1.out.trans (ho2.mono (fun _ _ h => .inr h))).trans hs
end Go.Proofs.YtlfmgdpbjapdjaaGreatFmtBesafter
