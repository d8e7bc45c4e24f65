/- Part 3 of the walk of ExactOnes: NatA NatB NatC NatV NatD NatE NatF. -/
import Derived.Test.YtflhdplfkpdejaaGreatFmtRows
import Derived.WalkKit
import Derived.Below
import Derived.Lib.Hide
import Derived.Test.YtflhdplfkpdejaaGreatFmtPart02
import Derived.Laws.CopyOwn
import Derived.Laws.BitsLemmas
import Derived.Laws.BitsAllLaws
import Derived.Laws.Twins
namespace Go.Proofs.YtflhdplfkpdejaaGreatFmt
open Go.RowKit Go.Proofs.YtflhdplfkpdejaaGreatFmtW.PrintWords
def words (xs : List Int) : Array Value := (xs.map (Value.int .u64)).toArray
def Blk (w : World) (b : Nat) (xs : List Int) : Prop := w.heap[b]? = some (.cells (words xs) 89 (0, 0))
def nlen (xs : List Int) : Nat → Nat
  | 0 => 0
  | n + 1 => if xs.getD n 0 = 0 then nlen xs n else n + 1
theorem nlen_down {xs : List Int} {k : Nat} (h : 0 < k) (hz : xs.getD (k - 1) 0 = 0) : nlen xs k = nlen xs (k - 1) := by
  obtain ⟨m, rfl⟩ : ∃ m, k = m + 1 := ⟨k - 1, by omega⟩
  rw [Nat.add_sub_cancel] at hz ⊢
  rw [nlen, if_pos hz]
theorem nlen_top {xs : List Int} {k : Nat} (h : 0 < k) (hz : ¬ xs.getD (k - 1) 0 = 0) : nlen xs k = k := by
  obtain ⟨m, rfl⟩ : ∃ m, k = m + 1 := ⟨k - 1, by omega⟩
  rw [Nat.add_sub_cancel] at hz
  rw [nlen, if_neg hz]
theorem Blk.cell {w : World} {b : Nat} {xs : List Int} (h : Blk w b xs) (k : Nat) (hk : k < xs.length) : w.cell? ⟨b, k, none⟩ = some (.int .u64 (xs.getD k 0)) := by
  refine (blk_cell h k).trans ?_
  simp [words, List.getD, hk]
set_option maxRecDepth 100000 in
set_option maxHeartbeats 1000000 in
theorem norm_own (b n c : Nat) (xs : List Int) (w : World) (hb : Blk w b xs) (hn : n ≤ xs.length) (hc : n ≤ c) (hm : c ≤ 274877906944) :
    Calls Tryz.prog 95 #[.slice (some ⟨b, 0, none⟩) n c] w fun e w' => e = .returned (.slice (some ⟨b, 0, none⟩) (nlen xs n) c) ∧ Below w.heap.size w w' := by
  have HB : Below w.heap.size w w := Below.refl _ _
  go_enter Tryz.func95, Tryz.ntmps95
  go_wp2
  go_loop [3] (fun i => ∃ k : Nat, k ≤ n ∧ i = .int .i64 k ∧ nlen xs n = nlen xs k) (fun i => (intOf i).toNat)
  case atStart => exact ⟨n, Nat.le_refl _, rfl, rfl⟩
  case round =>
    obtain ⟨k, hk, rfl, he⟩ := hrel
    have hcell : 0 < k → w.cell? ⟨b, k - 1, none⟩ = some (.int .u64 (xs.getD (k - 1) 0)) := fun _ => hb.cell _ (by omega)
    go_wp2
    · have hz : (xs[k - 1]?.getD 0 == 0) = true := by assumption
      have h0 : 0 < k := by assumption
      go_round
      case rel =>
        refine ⟨k - 1, by omega, by rw [Int.ofNat_sub (by omega)]; rfl, ?_⟩
        rw [he]
        exact nlen_down h0 (by simpa [List.getD] using hz)
      case measure => simp [intOf]; omega
    · have hz : (xs[k - 1]?.getD 0 == 0) = false := by assumption
      have h0 : 0 < k := by assumption
      go_ret
      rw [nlen_top h0 (by simpa [List.getD] using hz)]
      exact ⟨rfl, HB⟩
    · have h0 : ¬ 0 < k := by assumption
      obtain rfl : k = 0 := by omega
      go_ret
      exact ⟨rfl, HB⟩
def zeros (n : Nat) : List Int := List.replicate n 0
theorem word_info : (Tryz.prog.info? 89).map (fun i => (i.zero, i.size, i.bytes)) = some (some (.int .u64 0), 1, 8) := by kernel_rfl
theorem made_words (c : Nat) : madeCells (Value.int .u64 0).cells (c * 1) = words (zeros c) := by
  unfold madeCells words zeros
  apply Array.ext
  · simp
  · intro i h1 h2
    simp [Value.cells, Nat.mod_one]
set_option maxRecDepth 100000 in
theorem make_run (l c : Nat) (w : World) (h : l ≤ c) (hm : c < 1099511627776) :
    (Instr.makeSlice 74 (.int .i64 (l : Int)) (.int .i64 (c : Int))).run Tryz.prog w = .ok (.slice (some ⟨w.heap.size, 0, none⟩) l c) (w.alloc (.cells (words (zeros c)) 89)) := by
  obtain ⟨i, hi, h2⟩ := Option.map_eq_some_iff.1 word_info
  simp only [Prod.mk.injEq] at h2
  obtain ⟨hz, hs, hb⟩ := h2
  have := run_make (P := Tryz.prog) w 74 89 i (.int .u64 0) Tryz.underlying74 hi hz .i64 .i64 (l : Int) (c : Int) (by omega) (by omega) (by rw [hb]; omega) (by omega)
  rw [this, Int.toNat_natCast, Int.toNat_natCast, hs, made_words]
theorem Blk.new (w : World) (xs : List Int) : Blk (w.alloc (.cells (words xs) 89)) w.heap.size xs := by
  unfold Blk
  simpa using heap_alloc_new w _
set_option maxRecDepth 100000 in
set_option maxHeartbeats 1000000 in
theorem make_fit (A : Option Addr) (len c n : Nat) (w : World) (h : n ≤ c) :
    Calls Tryz.prog 93 #[.slice A len c, .int .i64 n] w fun e w' => e = .returned (.slice A n c) ∧ w' = w := by
  have h1 : (n : Int) ≤ (c : Int) := by omega
  go_enter Tryz.func93, Tryz.ntmps93
  go_wp2
  go_ret
  exact ⟨rfl, rfl⟩
set_option maxRecDepth 100000 in
set_option maxHeartbeats 1000000 in
theorem make_one (A : Option Addr) (len : Nat) (w : World) :
    Calls Tryz.prog 93 #[.slice A len 0, .int .i64 1] w fun e w' => e = .returned (.slice (some ⟨w.heap.size, 0, none⟩) 1 1) ∧ w' = w.alloc (.cells (words (zeros 1)) 89) := by
  have hmk : ∀ (w : World), (Instr.makeSlice 74 (.int .i64 1) (.int .i64 1)).run Tryz.prog w = .ok (.slice (some ⟨w.heap.size, 0, none⟩) 1 1) (w.alloc (.cells (words (zeros 1)) 89)) := fun w => make_run 1 1 w (by omega) (by omega)
  go_enter Tryz.func93, Tryz.ntmps93
  go_wp2
  go_ret
  exact ⟨rfl, rfl⟩
set_option maxRecDepth 100000 in
set_option maxHeartbeats 1000000 in
theorem make_new (A : Option Addr) (len c n : Nat) (w : World) (h : c < n) (h1 : 1 < n) (hm : n < 549755813888) :
    Calls Tryz.prog 93 #[.slice A len c, .int .i64 n] w fun e w' => e = .returned (.slice (some ⟨w.heap.size, 0, none⟩) n (n + 4)) ∧ w' = w.alloc (.cells (words (zeros (n + 4))) 89) := by
  have hmk : ∀ (w : World), (Instr.makeSlice 74 (.int .i64 (n : Int)) (.int .i64 ((n : Int) + 4))).run Tryz.prog w = .ok (.slice (some ⟨w.heap.size, 0, none⟩) n (n + 4)) (w.alloc (.cells (words (zeros (n + 4))) 89)) := fun w => make_run n (n + 4) w (by omega) (by omega)
  have c1 : ¬ (n : Int) ≤ (c : Int) := by omega
  have c2 : ((n : Int) == 1) = false := by rw [beq_eq_false_iff_ne]; omega
  go_enter Tryz.func93, Tryz.ntmps93
  go_wp2
  go_ret
  exact ⟨rfl, rfl⟩
end Go.Proofs.YtflhdplfkpdejaaGreatFmt
namespace Go.Proofs.YtflhdplfkpdejaaGreatFmt
open Go.RowKit Go.Proofs.YtflhdplfkpdejaaGreatFmtW.PrintWords
structure Only (w w' : World) (S : Nat → Prop) : Prop where
  base : Below 0 w w'
  kept : ∀ k, k < w.heap.size → ¬ S k → w'.heap[k]? = w.heap[k]?
theorem Only.refl (w : World) (S : Nat → Prop) : Only w w S := ⟨Below.refl _ _, fun _ _ _ => rfl⟩
theorem Only.trans {a b c : World} {S : Nat → Prop} (h : Only a b S) (k : Only b c S) : Only a c S :=
  ⟨h.base.trans k.base, fun i hi hs => (k.kept i (Nat.lt_of_lt_of_le hi h.base.size) hs).trans (h.kept i hi hs)⟩
theorem Only.mono {a b : World} {S T : Nat → Prop} (h : Only a b S) (hST : ∀ k, k < a.heap.size → S k → T k) : Only a b T :=
  ⟨h.base, fun i hi hs => h.kept i hi fun x => hs (hST i hi x)⟩
theorem Only.step {a b c : World} {S T : Nat → Prop} (h : Only a b S) (k : Only b c T) (hT : ∀ i, i < a.heap.size → T i → S i) : Only a c S :=
  ⟨h.base.trans k.base, fun i hi hs => (k.kept i (Nat.lt_of_lt_of_le hi h.base.size) fun x => hs (hT i hi x)).trans (h.kept i hi hs)⟩
theorem Only.drew {a b : World} {S : Nat → Prop} (h : Only a b S) : Only a b.drew S := ⟨h.base.drew, h.kept⟩
theorem Only.alloc {a b : World} {S : Nat → Prop} (h : Only a b S) (o : Obj) : Only a (b.alloc o) S :=
  ⟨h.base.alloc (Nat.zero_le _) o, fun i hi hs => (Below.heap_alloc b o i (Nat.lt_of_lt_of_le hi h.base.size)).trans (h.kept i hi hs)⟩
theorem Only.set {a b : World} {S : Nat → Prop} (h : Only a b S) {p : Addr} (hp : a.heap.size ≤ p.block ∨ S p.block) (u : Value) : Only a (b.setCell p u) S :=
  ⟨h.base.setCell (Nat.zero_le _) u, fun i hi hs => (Below.heap_setCell b p u i (by rintro rfl; rcases hp with hp | hp; omega; exact hs hp)).trans (h.kept i hi hs)⟩
theorem Only.blk {a b : World} {S : Nat → Prop} (h : Only a b S) {g : Nat} {xs : List Int} (hb : Blk a g xs) (hs : ¬ S g) : Blk b g xs := by
  unfold Blk at *
  rw [h.kept g (blk_lt hb) hs]; exact hb
theorem Only.below {a b : World} {S : Nat → Prop} {B : Nat} (h : Only a b S) (hB : B ≤ a.heap.size) (hS : ∀ k, S k → B ≤ k) : Below B a b :=
  ⟨h.base.os, h.base.tape, h.base.output, h.base.size, fun k hk => h.kept k (by omega) fun x => by have := hS k x; omega⟩
theorem Blk.set {w : World} {b : Nat} {xs : List Int} (h : Blk w b xs) (i : Nat) (x : Int) : Blk (w.setCell ⟨b, i, none⟩ (.int .u64 x)) b (xs.set i x) := by
  have := blk_set h i (.int .u64 x)
  unfold Blk
  rw [this]
  unfold words
  simp
theorem and63 : ∀ s : Nat, s < 64 → bits .and .u64 (s : Int) 63 = (s : Int) := by decide +kernel
theorem and63_sub : ∀ s : Nat, s < 64 → 0 < s → bits .and .u64 (64 - (s : Int)) 63 = 64 - (s : Int) := by decide +kernel
def shlw (f : Nat → Int) (s i : Nat) : Int := bits .or .u64 (IntKind.u64.wrap (f i * 2 ^ s)) (f (i - 1) / 2 ^ (64 - s))
set_option maxRecDepth 100000 in
set_option maxHeartbeats 2000000 in
theorem lshVU_any (bz oz cz bx ox cx m s : Nat) (zs : List Int) (f : Nat → Int) (w : World) (hm : 0 < m) (hs : 0 < s) (hs2 : s < 64) (hb : Blk w bz zs) (hz : oz + m ≤ zs.length) (hl : zs.length < 1099511627776)
    (hx : ∀ i, i < m → w.cell? ⟨bx, ox + i, none⟩ = some (.int .u64 (f i))) (hap : bx ≠ bz ∨ (bx = bz ∧ ox = oz)) :
    Calls Tryz.prog 52 #[.slice (some ⟨bz, oz, none⟩) m cz, .slice (some ⟨bx, ox, none⟩) m cx, .int .u64 (s : Int)] w fun e w' => e = .returned (.int .u64 (f (m - 1) / 2 ^ (64 - s))) ∧ Only w w' (· = bz) ∧
      ∃ ys, Blk w' bz ys ∧ ys.length = zs.length ∧ (∀ p, p < oz ∨ oz + m ≤ p → ys.getD p 0 = zs.getD p 0) ∧ ys.getD oz 0 = IntKind.u64.wrap (f 0 * 2 ^ s) ∧ ∀ j, 0 < j → j < m → ys.getD (oz + j) 0 = shlw f s j := by
  have h1 : ((s : Int) == 0) = false := by rw [beq_eq_false_iff_ne]; omega
  have h2 : ((m : Int) == 0) = false := by rw [beq_eq_false_iff_ne]; omega
  have h3 : bits .and .u64 (s : Int) 63 = (s : Int) := and63 s hs2
  have h4 : bits .and .u64 (64 - (s : Int)) 63 = 64 - (s : Int) := and63_sub s hs2 hs
  have hx0 := hx (m - 1) (by omega)
  go_enter Tryz.func52, Tryz.ntmps52
  go_wp2
  go_loopw [8] (fun si wr => ∃ k : Nat, k < m ∧ si = .int .i64 k ∧ Only w wr (· = bz) ∧ ∃ ys, Blk wr bz ys ∧ ys.length = zs.length ∧ (∀ p, p ≤ oz + k ∨ oz + m ≤ p → ys.getD p 0 = zs.getD p 0) ∧ ∀ j, k < j → j < m → ys.getD (oz + j) 0 = shlw f s j)
    (fun si _ => (intOf si).toNat)
  case atStart => exact ⟨m - 1, by omega, by rw [Int.ofNat_sub (by omega)]; rfl, Only.refl _ _, zs, hb, rfl, fun _ _ => rfl, fun j h1 h2 => by omega⟩
  case round =>
    obtain ⟨k, hk, rfl, ho, ys, hy, hyl, hlo, hhi⟩ := hrel
    have xr : ∀ i, i ≤ k → wr.cell? ⟨bx, ox + i, none⟩ = some (.int .u64 (f i)) := by
      intro i hi
      have hc := hx i (by omega)
      rcases hap with hne | ⟨rfl, rfl⟩
      · have hlt : bx < w.heap.size := World.block_lt_of_cell? w _ hc
        exact (World.cell?_of_block (w := w) (w' := wr) (a := ⟨bx, ox + i, none⟩) (ho.kept bx hlt hne)).trans hc
      · have h1 := hb.cell (ox + i) (by omega)
        rw [hy.cell (ox + i) (by omega), hlo (ox + i) (.inl (by omega)), ← h1, hc]
    have c0 := xr k (Nat.le_refl _)
    have c1 : 0 < k → wr.cell? ⟨bx, ox + (k - 1), none⟩ = some (.int .u64 (f (k - 1))) := fun h => xr (k - 1) (by omega)
    have cz0 : 0 < k → wr.cell? ⟨bz, oz + k, none⟩ = some (.int .u64 (ys.getD (oz + k) 0)) := fun h => hy.cell _ (by omega)
    have c00 : wr.cell? ⟨bx, ox, none⟩ = some (.int .u64 (f 0)) := xr 0 (by omega)
    have cz00 := hy.cell oz (by omega)
    have fz0 := blk_frozen hy (oz + k)
    have fz00 := blk_frozen hy oz
    go_wp2
    · have h0 : 0 < k := by assumption
      have d1 := c1 h0
      have dz := cz0 h0
      clear c1 cz0 c00 cz00
      go_region
      go_wp2
      go_roundw
      case rel =>
        refine ⟨k - 1, by omega, by rw [Int.ofNat_sub (by omega)]; rfl, ?_, ys.set (oz + k) (shlw f s k), ?_, by simpa using hyl, ?_, ?_⟩
        · exact (ho.set (.inr rfl) _).drew
        · exact hy.set _ _
        · intro p hp
          rw [← hlo p (by omega)]
          simp only [List.getD, List.getElem?_set]
          rw [if_neg (by omega)]
        · intro j j0 j1
          simp only [List.getD, List.getElem?_set]
          by_cases e : j = k
          · subst e
            rw [if_pos rfl, if_pos (by omega)]; rfl
          · rw [if_neg (by omega)]
            exact hhi j (by omega) j1
      case measure => simp [intOf]; omega
    · have h0 : ¬ 0 < k := by assumption
      obtain rfl : k = 0 := by omega
      go_ret
      refine ⟨rfl, ?_, ys.set oz (IntKind.u64.wrap (f 0 * 2 ^ s)), ?_, by simpa using hyl, ?_, ?_, ?_⟩
      · exact ho.set (.inr rfl) _
      · exact hy.set _ _
      · intro p hp
        simp only [List.getD, List.getElem?_set]
        rw [if_neg (by omega)]
        exact hlo p (by omega)
      · simp only [List.getD, List.getElem?_set]
        rw [if_pos trivial, if_pos (by omega)]; rfl
      · intro j j0 j1
        simp only [List.getD, List.getElem?_set]
        rw [if_neg (by omega)]
        exact hhi j j0 j1
def shrw (f : Nat → Int) (s i : Nat) : Int := bits .or .u64 (f i / 2 ^ s) (IntKind.u64.wrap (f (i + 1) * 2 ^ (64 - s)))
set_option maxRecDepth 100000 in
set_option maxHeartbeats 2000000 in
theorem rshVU_any (bz oz cz bx ox cx m s : Nat) (zs : List Int) (f : Nat → Int) (w : World) (hm : 0 < m) (hs : 0 < s) (hs2 : s < 64) (hb : Blk w bz zs) (hz : oz + m ≤ zs.length) (hl : zs.length < 1099511627776)
    (hx : ∀ i, i < m → w.cell? ⟨bx, ox + i, none⟩ = some (.int .u64 (f i))) (hap : bx ≠ bz ∨ (bx = bz ∧ oz ≤ ox ∧ ox + m ≤ zs.length)) :
    Calls Tryz.prog 53 #[.slice (some ⟨bz, oz, none⟩) m cz, .slice (some ⟨bx, ox, none⟩) m cx, .int .u64 (s : Int)] w fun e w' => e = .returned (.int .u64 (IntKind.u64.wrap (f 0 * 2 ^ (64 - s)))) ∧ Only w w' (· = bz) ∧
      ∃ ys, Blk w' bz ys ∧ ys.length = zs.length ∧ (∀ p, p < oz ∨ oz + m ≤ p → ys.getD p 0 = zs.getD p 0) ∧ ys.getD (oz + (m - 1)) 0 = f (m - 1) / 2 ^ s ∧ ∀ j, j + 1 < m → ys.getD (oz + j) 0 = shrw f s j := by
  have h1 : ((s : Int) == 0) = false := by rw [beq_eq_false_iff_ne]; omega
  have h2 : ((m : Int) == 0) = false := by rw [beq_eq_false_iff_ne]; omega
  have h3 : bits .and .u64 (s : Int) 63 = (s : Int) := and63 s hs2
  have h4 : bits .and .u64 (64 - (s : Int)) 63 = 64 - (s : Int) := and63_sub s hs2 hs
  have hx0 : w.cell? ⟨bx, ox, none⟩ = some (.int .u64 (f 0)) := hx 0 hm
  go_enter Tryz.func53, Tryz.ntmps53
  go_wp2
  clear hx0
  go_loopw [8] (fun si wr => ∃ k : Nat, 1 ≤ k ∧ k ≤ m ∧ si = .int .i64 k ∧ Only w wr (· = bz) ∧ ∃ ys, Blk wr bz ys ∧ ys.length = zs.length ∧ (∀ p, p < oz ∨ oz + (k - 1) ≤ p → ys.getD p 0 = zs.getD p 0) ∧ ∀ j, j + 1 < k → ys.getD (oz + j) 0 = shrw f s j)
    (fun si _ => m - (intOf si).toNat)
  case atStart => exact ⟨1, Nat.le_refl _, hm, rfl, Only.refl _ _, zs, hb, rfl, fun _ _ => rfl, fun j h1 => by omega⟩
  case round =>
    obtain ⟨k, k1, hk, rfl, ho, ys, hy, hyl, hlo, hhi⟩ := hrel
    have xr : ∀ i, k - 1 ≤ i → i < m → wr.cell? ⟨bx, ox + i, none⟩ = some (.int .u64 (f i)) := by
      intro i hi hi2
      have hc := hx i hi2
      rcases hap with hne | ⟨rfl, h5, h6⟩
      · have hlt : bx < w.heap.size := World.block_lt_of_cell? w _ hc
        exact (World.cell?_of_block (w := w) (w' := wr) (a := ⟨bx, ox + i, none⟩) (ho.kept bx hlt hne)).trans hc
      · have h1 := hb.cell (ox + i) (by omega)
        rw [hy.cell (ox + i) (by omega), hlo (ox + i) (.inr (by omega)), ← h1, hc]
    have c0 := xr (k - 1) (Nat.le_refl _) (by omega)
    have c1 : k < m → wr.cell? ⟨bx, ox + k, none⟩ = some (.int .u64 (f k)) := fun h => xr k (by omega) h
    have cz0 := hy.cell (oz + (k - 1)) (by omega)
    have c00 := xr (m - 1) (by omega) (by omega)
    have cz00 := hy.cell (oz + (m - 1)) (by omega)
    have fz0 := blk_frozen hy (oz + (k - 1))
    have fz00 := blk_frozen hy (oz + (m - 1))
    go_wp2
    · have h0 : k < m := by omega
      have d1 := c1 h0
      clear c1 c00 cz00
      go_region
      go_wp2
      go_roundw
      case rel =>
        refine ⟨k + 1, by omega, by omega, by go_num, ?_, ys.set (oz + (k - 1)) (shrw f s (k - 1)), ?_, by simpa using hyl, ?_, ?_⟩
        · exact (ho.set (.inr rfl) _).drew
        · have e : shrw f s (k - 1) = bits .or .u64 (f (k - 1) / 2 ^ s) (IntKind.u64.wrap (f k * 2 ^ (64 - s))) := by
            unfold shrw
            rw [show k - 1 + 1 = k by omega]
          rw [e]
          exact hy.set _ _
        · intro p hp
          rw [← hlo p (by omega)]
          simp only [List.getD, List.getElem?_set]
          rw [if_neg (by omega)]
        · intro j j0
          simp only [List.getD, List.getElem?_set]
          by_cases e : j = k - 1
          · subst e
            rw [if_pos rfl, if_pos (by omega)]; rfl
          · rw [if_neg (by omega)]
            exact hhi j (by omega)
      case measure => simp [intOf]; omega
    · have h0 : ¬ k < m := by omega
      obtain rfl : k = m := by omega
      go_ret
      refine ⟨rfl, ?_, ys.set (oz + (k - 1)) (f (k - 1) / 2 ^ s), ?_, by simpa using hyl, ?_, ?_, ?_⟩
      · exact ho.set (.inr rfl) _
      · exact hy.set _ _
      · intro p hp
        simp only [List.getD, List.getElem?_set]
        rw [if_neg (by omega)]
        exact hlo p (by omega)
      · simp only [List.getD, List.getElem?_set]
        rw [if_pos trivial, if_pos (by omega)]; rfl
      · intro j j0
        simp only [List.getD, List.getElem?_set]
        rw [if_neg (by omega)]
        exact hhi j j0
end Go.Proofs.YtflhdplfkpdejaaGreatFmt
namespace Go.Proofs.YtflhdplfkpdejaaGreatFmt
open Go.RowKit Go.Proofs.YtflhdplfkpdejaaGreatFmtW.PrintWords
def most : Nat := 274877906944
inductive Room (w : World) : Value → Option Nat → Prop
  | nil : Room w (.slice none 0 0) none
  | own (b n : Nat) (zs : List Int) (h : Blk w b zs) (hn : n ≤ zs.length) (hm : zs.length ≤ most) : Room w (.slice (some ⟨b, 0, none⟩) n zs.length) (some b)
theorem Room.only {w w' : World} {S : Nat → Prop} {v : Value} {o : Option Nat} (h : Room w v o) (hw : Only w w' S) (hs : ∀ b, o = some b → ¬ S b) : Room w' v o := by
  cases h with
  | nil => exact .nil
  | own b n zs hb hn hm => exact .own b n zs (hw.blk hb (hs b rfl)) hn hm
theorem make_any (z : Value) (o : Option Nat) (n : Nat) (w : World) (hz : Room w z o) (hn : 0 < n) (hm : n + 4 ≤ most) :
    Calls Tryz.prog 93 #[z, .int .i64 n] w fun e w' => ∃ b zs, e = .returned (.slice (some ⟨b, 0, none⟩) n zs.length) ∧ Blk w' b zs ∧ n ≤ zs.length ∧ zs.length ≤ most ∧ Only w w' (fun _ => False) ∧ ((o = some b ∧ w' = w) ∨ b = w.heap.size) := by
  have hmm : most = 274877906944 := rfl
  have new : ∀ (A : Option Addr) (len c : Nat), c < n → Calls Tryz.prog 93 #[.slice A len c, .int .i64 n] w fun e w' => ∃ b zs, e = .returned (.slice (some ⟨b, 0, none⟩) n zs.length) ∧ Blk w' b zs ∧ n ≤ zs.length ∧ zs.length ≤ most ∧ Only w w' (fun _ => False) ∧ ((o = some b ∧ w' = w) ∨ b = w.heap.size) := by
    intro A len c hc
    by_cases h1 : n = 1
    · subst h1
      obtain rfl : c = 0 := by omega
      refine (make_one A len w).mono ?_
      rintro e w' ⟨rfl, rfl⟩
      exact ⟨_, zeros 1, by simp [zeros], Blk.new w _, by simp [zeros], by simp [zeros]; omega, (Only.refl _ _).alloc _, .inr rfl⟩
    · refine (make_new A len c n w hc (by omega) (by omega)).mono ?_
      rintro e w' ⟨rfl, rfl⟩
      exact ⟨_, zeros (n + 4), by simp [zeros], Blk.new w _, by simp [zeros], by simp [zeros]; omega, (Only.refl _ _).alloc _, .inr rfl⟩
  cases hz with
  | nil => exact new none 0 0 hn
  | own b k zs hb hk hzm =>
    by_cases hc : n ≤ zs.length
    · refine (make_fit (some ⟨b, 0, none⟩) k zs.length n w hc).mono ?_
      rintro e w' ⟨rfl, rfl⟩
      exact ⟨b, zs, rfl, hb, hc, hzm, Only.refl _ _, .inl ⟨rfl, rfl⟩⟩
    · exact new _ k zs.length (by omega)
theorem make_zero (z : Value) (o : Option Nat) (w : World) (hz : Room w z o) :
    Calls Tryz.prog 93 #[z, .int .i64 0] w fun e w' => ∃ v, e = .returned v ∧ w' = w ∧ Room w v o ∧ ∃ A c, v = .slice A 0 c := by
  cases hz with
  | nil =>
    refine (make_fit none 0 0 0 w (Nat.le_refl _)).mono ?_
    rintro e w' ⟨rfl, rfl⟩
    exact ⟨_, rfl, rfl, .nil, _, _, rfl⟩
  | own b k zs hb hk hzm =>
    refine (make_fit (some ⟨b, 0, none⟩) k zs.length 0 w (Nat.zero_le _)).mono ?_
    rintro e w' ⟨rfl, rfl⟩
    exact ⟨_, rfl, rfl, .own b 0 zs hb (Nat.zero_le _) hzm, _, _, rfl⟩
theorem words_splice (zs xs : List Int) (off : Nat) : words (splice zs off xs) = (splice (zs.map (Value.int .u64)) off (xs.map (Value.int .u64))).toArray := by
  unfold words splice
  simp [List.map_take, List.map_drop]
theorem splice_at (zs xs : List Int) (off p : Nat) (h : off + xs.length ≤ zs.length) : (splice zs off xs).getD p 0 = if off ≤ p ∧ p < off + xs.length then xs.getD (p - off) 0 else zs.getD p 0 := by
  unfold splice
  simp only [List.getD, List.getElem?_append, List.length_take]
  rw [Nat.min_eq_left (by omega)]
  split
  · rw [if_neg (by omega), List.getElem?_take, if_pos (by omega)]
  · split
    · rw [if_pos (by omega)]
    · rw [if_neg (by omega), List.getElem?_drop]
      congr 2; omega
theorem copy_run (b off dl dc bx ox sl sc k : Nat) (zs : List Int) (g : Nat → Int) (w : World) (T ty : TypeId) (hT : Tryz.prog.underlying T = some (.slice 89)) (hb : Blk w b zs) (hk : k = Nat.min sl dl) (hsrc : ∀ j, j < k → w.cell? ⟨bx, ox + j, none⟩ = some (.int .u64 (g j))) (hfit : off + k ≤ zs.length) :
    (Builtin.copy_ #[T, T] ty #[.slice (some ⟨b, off, none⟩) dl dc, .slice (some ⟨bx, ox, none⟩) sl sc]).run Tryz.prog w = .ok (goInt k) (w.setRow b (words (splice zs off ((List.range k).map g)))) := by
  have hs : (Tryz.prog.info? 89).map (·.size) = some 1 := by kernel_rfl
  have := run_copy_row (P := Tryz.prog) w T T ty 89 b off dl dc ⟨bx, ox, none⟩ sl sc (words zs) 89 (((List.range k).map g).map (Value.int .u64)) hT hs hb (by simpa using hk) (fun j v hj => by
    simp only [List.getElem?_map] at hj
    by_cases h : j < k
    · rw [List.getElem?_range h] at hj
      simp only [Option.map_some, Option.some.injEq] at hj
      rw [← hj]; exact (by unfold Addr.add; split <;> simp_all : (⟨bx, ox, none⟩ : Addr).add j = ⟨bx, ox + j, none⟩) ▸ hsrc j h
    · rw [List.getElem?_eq_none (by simpa using Nat.le_of_not_lt h)] at hj
      simp at hj) (by simpa [words] using hfit) (fun v hv => by
    simp only [List.mem_map] at hv
    obtain ⟨x, _, rfl⟩ := hv; rfl)
  rw [this, words_splice]
  simp [words, splice]
theorem Blk.row {w : World} {b : Nat} {zs : List Int} (h : Blk w b zs) (ys : List Int) : Blk (w.setRow b (words ys)) b ys := setRow_heap w b _ _ _ _ h
theorem Only.row {a b : World} {S : Nat → Prop} (h : Only a b S) {g : Nat} (hp : a.heap.size ≤ g ∨ S g) (cs : Array Value) : Only a (b.setRow g cs) S :=
  ⟨below_setRow h.base (Nat.zero_le _) _, fun i hi hs => by
    have : i ≠ g := by rintro rfl; rcases hp with hp | hp; omega; exact hs hp
    exact (setRow_other b g i cs this).trans (h.kept i hi hs)⟩
set_option maxRecDepth 100000 in
set_option maxHeartbeats 1000000 in
theorem set_any (z : Value) (o : Option Nat) (bx n c : Nat) (f : List Int) (w : World) (hz : Room w z o) (hx : Blk w bx f) (hn : 0 < n) (hnf : n ≤ f.length) (hm : n + 4 ≤ most) :
    Calls Tryz.prog 87 #[z, .slice (some ⟨bx, 0, none⟩) n c] w fun e w' => ∃ b zs, e = .returned (.slice (some ⟨b, 0, none⟩) n zs.length) ∧ Blk w' b zs ∧ n ≤ zs.length ∧ zs.length ≤ most ∧ Only w w' (fun k => o = some k) ∧ (o = some b ∨ w.heap.size ≤ b) ∧ ∀ i, i < n → zs.getD i 0 = f.getD i 0 := by
  go_enter Tryz.func87, Tryz.ntmps87
  go_wp2_with fail
  refine (make_any z o n w hz hn hm).mono ?_
  rintro e w1 ⟨b, zs, rfl, hb, hnz, hzm, ho, hob⟩
  have hx1 : Blk w1 bx f := ho.blk hx (fun h => h)
  have hcp := copy_run b 0 n zs.length bx 0 n c n zs (fun i => f.getD i 0) w1 74 3 Tryz.underlying74 hb (by simp) (fun j hj => hx1.cell (0 + j) (by omega) |>.trans (by rw [Nat.zero_add])) (by omega)
  go_wp2_with fail
  go_ret
  refine ⟨b, splice zs 0 ((List.range n).map fun i => f.getD i 0), ?_, hb.row _, ?_, ?_, ?_, ?_, ?_⟩
  · rw [length_splice _ _ _ (by simp; omega)]; rfl
  · rw [length_splice _ _ _ (by simp; omega)]; exact hnz
  · rw [length_splice _ _ _ (by simp; omega)]; exact hzm
  · refine (ho.mono (fun _ _ h => h.elim)).row ?_ _
    rcases hob with ⟨h, _⟩ | rfl
    · exact .inr h
    · exact .inl (Nat.le_refl _)
  · rcases hob with ⟨h, _⟩ | rfl
    · exact .inl h
    · exact .inr (Nat.le_refl _)
  · intro i hi
    rw [splice_at _ _ _ _ (by simp; omega), if_pos (by simp; omega)]
    simp [List.getD, hi]
end Go.Proofs.YtflhdplfkpdejaaGreatFmt
namespace Go.Proofs.YtflhdplfkpdejaaGreatFmt
open Go.RowKit
def num (f : Nat → Int) : Nat → Int
  | 0 => 0
  | n + 1 => num f n + f n * 2 ^ (64 * n)
def Wd (f : Nat → Int) (n : Nat) : Prop := ∀ i, i < n → 0 ≤ f i ∧ f i < 18446744073709551616
theorem num_congr {f g : Nat → Int} : ∀ n, (∀ i, i < n → f i = g i) → num f n = num g n
  | 0, _ => rfl
  | n + 1, h => by rw [num, num, num_congr n fun i hi => h i (by omega), h n (by omega)]
theorem num_add (f : Nat → Int) (a : Nat) : ∀ b, num f (a + b) = num f a + num (fun i => f (a + i)) b * 2 ^ (64 * a)
  | 0 => by simp [num]
  | b + 1 => by
    rw [← Nat.add_assoc, num, num_add f a b, num]
    rw [show 64 * (a + b) = 64 * b + 64 * a by omega, Int.pow_add, Int.add_mul, Int.mul_assoc, Int.add_assoc]
theorem num_zero {f : Nat → Int} : ∀ n, (∀ i, i < n → f i = 0) → num f n = 0
  | 0, _ => rfl
  | n + 1, h => by rw [num, num_zero n fun i hi => h i (by omega), h n (by omega)]; simp
theorem num_range {f : Nat → Int} : ∀ n, Wd f n → 0 ≤ num f n ∧ num f n < 2 ^ (64 * n)
  | 0, _ => by simp [num]
  | n + 1, h => by
    obtain ⟨h0, h1⟩ := num_range n fun i hi => h i (by omega)
    obtain ⟨h2, h3⟩ := h n (by omega)
    rw [num, show 64 * (n + 1) = 64 + 64 * n by omega, Int.pow_add]
    have hp : (0 : Int) < 2 ^ (64 * n) := Int.pow_pos (by omega)
    generalize (2 : Int) ^ (64 * n) = p at *
    have e : (2 : Int) ^ 64 = 18446744073709551616 := by decide
    rw [e]
    refine ⟨Int.add_nonneg h0 (Int.mul_nonneg h2 (Int.le_of_lt hp)), ?_⟩
    have : f n * p ≤ 18446744073709551615 * p := Int.mul_le_mul_of_nonneg_right (by omega) (Int.le_of_lt hp)
    omega
theorem num_nlen (xs : List Int) : ∀ n, num (fun i => xs.getD i 0) (nlen xs n) = num (fun i => xs.getD i 0) n
  | 0 => rfl
  | n + 1 => by
    rw [nlen]
    split
    · rw [num_nlen xs n, num]
      rename_i h
      rw [h]; simp
    · rfl
theorem nlen_le (xs : List Int) : ∀ n, nlen xs n ≤ n
  | 0 => Nat.le_refl _
  | n + 1 => by
    rw [nlen]; split
    · have := nlen_le xs n; omega
    · exact Nat.le_refl _
theorem two_pow_cast (s : Nat) : ((2 : Int) ^ s) = ((2 ^ s : Nat) : Int) := by rw [Int.natCast_pow]; rfl
theorem pow_64 (s : Nat) (hs2 : s < 64) : (2 : Nat) ^ (64 - s) * 2 ^ s = 18446744073709551616 := by
  rw [← Nat.pow_add, show 64 - s + s = 64 by omega]
theorem wrap_shl (a : Int) (s : Nat) (hs2 : s < 64) (ha : 0 ≤ a) : IntKind.u64.wrap (a * 2 ^ s) = a % 2 ^ (64 - s) * 2 ^ s := by
  obtain ⟨x, rfl⟩ : ∃ x : Nat, a = x := ⟨a.toNat, by omega⟩
  have hp := pow_64 s hs2
  have q0 : 0 < (2 : Nat) ^ s := Nat.two_pow_pos _
  have r0 : 0 < (2 : Nat) ^ (64 - s) := Nat.two_pow_pos _
  rw [two_pow_cast, two_pow_cast, ← Int.natCast_emod, ← Int.natCast_mul, ← Int.natCast_mul, IntKind.wrap_u64]
  have hx : x % 2 ^ (64 - s) * 2 ^ s + 2 ^ s ≤ 18446744073709551616 := by
    have := Nat.mod_lt x r0
    calc x % 2 ^ (64 - s) * 2 ^ s + 2 ^ s = (x % 2 ^ (64 - s) + 1) * 2 ^ s := by rw [Nat.add_mul, Nat.one_mul]
      _ ≤ 2 ^ (64 - s) * 2 ^ s := Nat.mul_le_mul_right _ this
      _ = _ := hp
  have e : x * 2 ^ s = x % 2 ^ (64 - s) * 2 ^ s + 18446744073709551616 * (x / 2 ^ (64 - s)) := by
    conv => lhs; rw [← Nat.mod_add_div x (2 ^ (64 - s))]
    rw [Nat.add_mul, Nat.mul_right_comm, hp]
  rw [e]
  generalize x % 2 ^ (64 - s) * 2 ^ s = u at *
  generalize x / 2 ^ (64 - s) = v at *
  omega
theorem or_words (a b : Int) (s : Nat) (hs2 : s < 64) (ha : 0 ≤ a) (hb : 0 ≤ b) (hb2 : b < 18446744073709551616) :
    bits .or .u64 (IntKind.u64.wrap (a * 2 ^ s)) (b / 2 ^ (64 - s)) = a % 2 ^ (64 - s) * 2 ^ s + b / 2 ^ (64 - s) := by
  rw [wrap_shl a s hs2 ha]
  obtain ⟨x, rfl⟩ : ∃ x : Nat, a = x := ⟨a.toNat, by omega⟩
  obtain ⟨y, rfl⟩ : ∃ y : Nat, b = y := ⟨b.toNat, by omega⟩
  have hp := pow_64 s hs2
  have q0 : 0 < (2 : Nat) ^ s := Nat.two_pow_pos _
  have r0 : 0 < (2 : Nat) ^ (64 - s) := Nat.two_pow_pos _
  have hy : y / 2 ^ (64 - s) < 2 ^ s := by
    rw [Nat.div_lt_iff_lt_mul r0, Nat.mul_comm, hp]; omega
  have hx : x % 2 ^ (64 - s) * 2 ^ s + 2 ^ s ≤ 18446744073709551616 := by
    have := Nat.mod_lt x r0
    calc x % 2 ^ (64 - s) * 2 ^ s + 2 ^ s = (x % 2 ^ (64 - s) + 1) * 2 ^ s := by rw [Nat.add_mul, Nat.one_mul]
      _ ≤ 2 ^ (64 - s) * 2 ^ s := Nat.mul_le_mul_right _ this
      _ = _ := hp
  have hj := nat_join s (x % 2 ^ (64 - s) * 2 ^ s) (y / 2 ^ (64 - s)) (Nat.mul_mod_left _ _) hy
  rw [two_pow_cast, two_pow_cast, ← Int.natCast_emod, ← Int.natCast_mul, ← Int.natCast_ediv]
  generalize x % 2 ^ (64 - s) * 2 ^ s = u at *
  generalize y / 2 ^ (64 - s) = v at *
  rw [u64_or_nat _ _ (by omega) (by omega), hj, Int.natCast_add]
theorem num_shl (f y : Nat → Int) (s k : Nat) (hs2 : s < 64) (hf : Wd f (k + 1)) (h0 : y 0 = IntKind.u64.wrap (f 0 * 2 ^ s)) (hy : ∀ j, 0 < j → j < k + 1 → y j = bits .or .u64 (IntKind.u64.wrap (f j * 2 ^ s)) (f (j - 1) / 2 ^ (64 - s))) :
    num y (k + 1) + f k / 2 ^ (64 - s) * 2 ^ (64 * (k + 1)) = num f (k + 1) * 2 ^ s := by
  have hp : (2 : Int) ^ (64 - s) * 2 ^ s = 18446744073709551616 := by
    rw [two_pow_cast, two_pow_cast, ← Int.natCast_mul, pow_64 s hs2]; rfl
  have split : ∀ a : Int, a * 2 ^ s = a % 2 ^ (64 - s) * 2 ^ s + a / 2 ^ (64 - s) * 18446744073709551616 := by
    intro a
    conv => lhs; rw [← Int.emod_add_mul_ediv a (2 ^ (64 - s))]
    rw [Int.add_mul, Int.mul_right_comm, hp, Int.mul_comm 18446744073709551616]
  have e2 : (2 : Int) ^ 64 = 18446744073709551616 := by decide
  induction k with
  | zero =>
    show 0 + y 0 * 2 ^ (64 * 0) + f 0 / 2 ^ (64 - s) * 2 ^ 64 = (0 + f 0 * 2 ^ (64 * 0)) * 2 ^ s
    rw [Int.zero_add, Int.zero_add, Nat.mul_zero, Int.pow_zero, Int.mul_one, Int.mul_one, e2, h0, wrap_shl _ s hs2 (hf 0 (by omega)).1, split (f 0)]
  | succ k ih =>
    have ih := ih (fun i hi => hf i (by omega)) (fun j a b => hy j a (by omega))
    have hw := hy (k + 1) (by omega) (by omega)
    rw [Nat.add_sub_cancel, or_words _ _ s hs2 (hf (k + 1) (by omega)).1 (hf k (by omega)).1 (hf k (by omega)).2] at hw
    rw [show num y (k + 1 + 1) = num y (k + 1) + y (k + 1) * 2 ^ (64 * (k + 1)) from rfl, show num f (k + 1 + 1) = num f (k + 1) + f (k + 1) * 2 ^ (64 * (k + 1)) from rfl, hw, show 64 * (k + 1 + 1) = 64 + 64 * (k + 1) by omega, Int.pow_add, e2, Int.add_mul, Int.add_mul, ← ih]
    have key := split (f (k + 1))
    have e : f (k + 1) * 2 ^ (64 * (k + 1)) * 2 ^ s = (f (k + 1) % 2 ^ (64 - s) * 2 ^ s + f (k + 1) / 2 ^ (64 - s) * 18446744073709551616) * 2 ^ (64 * (k + 1)) := by rw [← key, Int.mul_right_comm]
    rw [e, Int.add_mul, ← Int.mul_assoc]
    omega
theorem or_words_down (a b : Int) (s : Nat) (hs : 0 < s) (hs2 : s < 64) (ha : 0 ≤ a) (ha2 : a < 18446744073709551616) (hb : 0 ≤ b) :
    bits .or .u64 (a / 2 ^ s) (IntKind.u64.wrap (b * 2 ^ (64 - s))) = a / 2 ^ s + b % 2 ^ s * 2 ^ (64 - s) := by
  have e : 64 - (64 - s) = s := by omega
  have h := or_words b a (64 - s) (by omega) hb ha ha2
  rw [e] at h
  have hc : ∀ x y : Int, bits .or .u64 x y = bits .or .u64 y x := fun x y => by
    show IntKind.u64.wrap ((BitVec.ofInt 64 x ||| BitVec.ofInt 64 y).toNat : Int) = IntKind.u64.wrap ((BitVec.ofInt 64 y ||| BitVec.ofInt 64 x).toNat : Int)
    rw [BitVec.or_comm]
  rw [hc, h, Int.add_comm]
theorem num_shr (f y : Nat → Int) (s k : Nat) (hs : 0 < s) (hs2 : s < 64) (hf : Wd f (k + 1)) (hl : y k = f k / 2 ^ s) (hy : ∀ j, j < k → y j = bits .or .u64 (f j / 2 ^ s) (IntKind.u64.wrap (f (j + 1) * 2 ^ (64 - s)))) :
    num y (k + 1) = num f (k + 1) / 2 ^ s := by
  have hp : (2 : Int) ^ s * 2 ^ (64 - s) = 18446744073709551616 := by
    rw [Int.mul_comm, two_pow_cast, two_pow_cast, ← Int.natCast_mul, pow_64 s hs2]; rfl
  have e2 : (2 : Int) ^ 64 = 18446744073709551616 := by decide
  have r0 : (0 : Int) < 2 ^ s := Int.pow_pos (by omega)
  have key : ∀ j, j ≤ k → num f (j + 1) = f 0 % 2 ^ s + num y j * 2 ^ s + f j / 2 ^ s * 2 ^ s * 2 ^ (64 * j) := by
    intro j hj
    induction j with
    | zero =>
      show 0 + f 0 * 2 ^ (64 * 0) = f 0 % 2 ^ s + 0 * 2 ^ s + f 0 / 2 ^ s * 2 ^ s * 2 ^ (64 * 0)
      have := Int.emod_add_mul_ediv (f 0) (2 ^ s)
      rw [Nat.mul_zero, Int.pow_zero, Int.mul_one, Int.mul_one, Int.mul_comm (f 0 / 2 ^ s)]
      omega
    | succ j ih =>
      have ih := ih (by omega)
      have hw := hy j (by omega)
      rw [or_words_down _ _ s hs hs2 (hf j (by omega)).1 (hf j (by omega)).2 (hf (j + 1) (by omega)).1] at hw
      rw [show num f (j + 1 + 1) = num f (j + 1) + f (j + 1) * 2 ^ (64 * (j + 1)) from rfl, ih, show num y (j + 1) = num y j + y j * 2 ^ (64 * j) from rfl, hw]
      have hq := Int.emod_add_mul_ediv (f (j + 1)) (2 ^ s)
      have e : (2 : Int) ^ (64 * (j + 1)) = 2 ^ s * 2 ^ (64 - s) * 2 ^ (64 * j) := by rw [hp, ← e2, ← Int.pow_add, show 64 + 64 * j = 64 * (j + 1) by omega]
      rw [e]
      generalize (2 : Int) ^ (64 * j) = P
      generalize (2 : Int) ^ (64 - s) = Q
      generalize hr : f (j + 1) % 2 ^ s = r at *
      generalize hd : f (j + 1) / 2 ^ s = d at *
      generalize f j / 2 ^ s = g
      generalize (2 : Int) ^ s = R at *
      rw [← hq]
      simp only [Int.mul_add, Int.mul_comm, Int.mul_left_comm, Int.add_assoc, Int.add_comm, Int.add_left_comm]
  have h := key k (Nat.le_refl _)
  rw [h, show num y (k + 1) = num y k + y k * 2 ^ (64 * k) from rfl, hl, Int.mul_right_comm (f k / 2 ^ s), Int.add_assoc, ← Int.add_mul, Int.add_mul_ediv_right _ _ (by omega), Int.ediv_eq_zero_of_lt (Int.emod_nonneg _ (by omega)) (Int.emod_lt_of_pos _ r0), Int.zero_add]
end Go.Proofs.YtflhdplfkpdejaaGreatFmt
namespace Go.Proofs.YtflhdplfkpdejaaGreatFmt
open Go.RowKit Go.Proofs.YtflhdplfkpdejaaGreatFmtW.PrintWords
def Nrm (ys : List Int) (n : Nat) : Prop := Wd (fun i => ys.getD i 0) n ∧ (0 < n → ys.getD (n - 1) 0 ≠ 0)
inductive IsNat (w : World) : Value → Option Nat → Int → Prop
  | nil : IsNat w (.slice none 0 0) none 0
  | own (b n : Nat) (ys : List Int) (x : Int) (hb : Blk w b ys) (hn : n ≤ ys.length) (hm : ys.length ≤ most) (hw : Nrm ys n) (hx : num (fun i => ys.getD i 0) n = x) : IsNat w (.slice (some ⟨b, 0, none⟩) n ys.length) (some b) x
theorem IsNat.room {w : World} {v : Value} {o : Option Nat} {x : Int} (h : IsNat w v o x) : Room w v o := by
  cases h with
  | nil => exact .nil
  | own b n ys x hb hn hm hw hx => exact .own b n ys hb hn hm
theorem IsNat.only {w w' : World} {S : Nat → Prop} {v : Value} {o : Option Nat} {x : Int} (h : IsNat w v o x) (hw : Only w w' S) (hs : ∀ b, o = some b → ¬ S b) : IsNat w' v o x := by
  cases h with
  | nil => exact .nil
  | own b n ys x hb hn hm hr hx => exact .own b n ys x (hw.blk hb (hs b rfl)) hn hm hr hx
def Got (w : World) (o : Option Nat) (x : Int) (e : Ending) (w' : World) : Prop := ∃ v o', e = .returned v ∧ IsNat w' v o' x ∧ Only w w' (fun k => o = some k) ∧ (o' = o ∨ ∃ b, o' = some b ∧ w.heap.size ≤ b)
theorem nlen_word (xs : List Int) : ∀ n, 0 < nlen xs n → xs.getD (nlen xs n - 1) 0 ≠ 0
  | 0, h => by simp [nlen] at h
  | n + 1, h => by
    by_cases hz : xs.getD n 0 = 0
    · have e : nlen xs (n + 1) = nlen xs n := by rw [nlen, if_pos hz]
      rw [e] at h ⊢
      exact nlen_word xs n h
    · have e : nlen xs (n + 1) = n + 1 := by rw [nlen, if_neg hz]
      rw [e, Nat.add_sub_cancel]
      exact hz
theorem norm_got (b n : Nat) (ys : List Int) (w : World) (hb : Blk w b ys) (hn : n ≤ ys.length) (hm : ys.length ≤ most) (hw : Wd (fun i => ys.getD i 0) n) :
    Calls Tryz.prog 95 #[.slice (some ⟨b, 0, none⟩) n ys.length] w fun e w' => ∃ v, e = .returned v ∧ IsNat w' v (some b) (num (fun i => ys.getD i 0) n) ∧ Only w w' (fun _ => False) := by
  have hmm : most = 274877906944 := rfl
  refine (norm_own b n ys.length ys w hb hn hn (by omega)).mono ?_
  rintro e w' ⟨rfl, hB⟩
  have ho : Only w w' (fun _ => False) := ⟨hB.mono (Nat.zero_le _), fun k hk _ => hB.block k hk⟩
  have hle := nlen_le ys n
  exact ⟨_, rfl, .own b _ ys _ (ho.blk hb (fun h => h)) (by omega) hm ⟨fun i hi => hw i (by omega), nlen_word ys n⟩ (num_nlen ys n), ho⟩
theorem Tryz.lshVU_enters (args : Array Value) (w : World) : (callFunc 94 args).run Tryz.prog w = .ok (.enter 52 args) w :=
  run_callFunc_twin (twin := "math/big.lshVU_g") Tryz.func94 (by kernel_rfl) (by kernel_rfl) (by kernel_rfl) (by kernel_rfl) Tryz.func52 (by kernel_rfl) (by kernel_rfl) (by kernel_rfl) args w
theorem Tryz.rshVU_enters (args : Array Value) (w : World) : (callFunc 100 args).run Tryz.prog w = .ok (.enter 53 args) w :=
  run_callFunc_twin (twin := "math/big.rshVU_g") Tryz.func100 (by kernel_rfl) (by kernel_rfl) (by kernel_rfl) (by kernel_rfl) Tryz.func53 (by kernel_rfl) (by kernel_rfl) (by kernel_rfl) args w
theorem clear_none (A : Option Addr) (c : Nat) (ty : TypeId) (w : World) : (Builtin.clear_ #[74] ty #[.slice A 0 c]).run Tryz.prog w = .ok (.tuple #[]) w := by
  simp [Builtin.clear_, run_underlying Tryz.underlying74]
  cases A <;> rfl
set_option maxRecDepth 100000 in
set_option maxHeartbeats 2000000 in
theorem lsh_small (z : Value) (o : Option Nat) (bx m c s : Nat) (xs : List Int) (w : World) (hz : Room w z o) (hx : Blk w bx xs) (hm : 0 < m) (hmx : m ≤ xs.length) (hm2 : m + 5 ≤ most) (hw : Wd (fun i => xs.getD i 0) m) (hs : 0 < s) (hs2 : s < 64) :
    Calls Tryz.prog 60 #[z, .slice (some ⟨bx, 0, none⟩) m c, .int .u64 (s : Int)] w (Got w o (num (fun i => xs.getD i 0) m * 2 ^ s)) := by
  have h1 : ((s : Int) == 0) = false := by rw [beq_eq_false_iff_ne]; omega
  have h2 : ((m : Int) == 0) = false := by rw [beq_eq_false_iff_ne]; omega
  have h3 : (s : Int) / 64 = 0 := by omega
  have h4 : (s : Int) % 64 = s := by omega
  have hmm : most = 274877906944 := rfl
  have hm3 : m + 5 ≤ 274877906944 := hm2
  have hmk : ∀ w, Room w z o → Calls Tryz.prog 93 #[z, .int .i64 ((m : Int) + 1)] w fun e w' => ∃ b zs, e = .returned (.slice (some ⟨b, 0, none⟩) (m + 1) zs.length) ∧ Blk w' b zs ∧ m + 1 ≤ zs.length ∧ zs.length ≤ most ∧ Only w w' (fun _ => False) ∧ ((o = some b ∧ w' = w) ∨ b = w.heap.size) := fun w h => make_any z o (m + 1) w h (by omega) (by omega)
  have hen := Tryz.lshVU_enters
  have hcl := clear_none
  go_enter Tryz.func60, Tryz.ntmps60
  go_wp2_with fail
  refine (hmk w hz).mono ?_
  rintro e w1 ⟨b, zs, rfl, hb, hnz, hzm, ho, hob⟩
  have hx1 : ∀ i, i < m → w1.cell? ⟨bx, 0 + i, none⟩ = some (.int .u64 (xs.getD i 0)) := fun i hi => ((ho.blk hx (fun h => h)).cell (0 + i) (by omega)).trans (by rw [Nat.zero_add])
  go_wp2_with fail
  refine (lshVU_any b 0 zs.length bx 0 c m s zs (fun i => xs.getD i 0) w1 hm hs hs2 hb (by omega) (by omega) hx1 (by by_cases h : bx = b; exact .inr ⟨h, rfl⟩; exact .inl h)).mono ?_
  rintro e w2 ⟨rfl, ho2, ys, hy, hyl, hout, hy0, hyj⟩
  have cz := hy.cell m (by omega)
  have fz := blk_frozen hy m
  go_wp2_with fail
  have hy2 := hy.set m (xs.getD (m - 1) 0 / 2 ^ (64 - s))
  have hl2 : (ys.set m (xs.getD (m - 1) 0 / 2 ^ (64 - s))).length = zs.length := by simpa using hyl
  have hcar := (hw (m - 1) (by omega))
  have hq : (2 : Int) ^ (64 - s) * 2 ^ s = 18446744073709551616 := by rw [two_pow_cast, two_pow_cast, ← Int.natCast_mul, pow_64 s hs2]; rfl
  have at_m : (ys.set m (xs.getD (m - 1) 0 / 2 ^ (64 - s))).getD m 0 = xs.getD (m - 1) 0 / 2 ^ (64 - s) := by
    simp only [List.getD, List.getElem?_set]
    rw [if_pos trivial, if_pos (by omega)]; rfl
  have at_j : ∀ j, j < m → (ys.set m (xs.getD (m - 1) 0 / 2 ^ (64 - s))).getD j 0 = ys.getD j 0 := by
    intro j hj
    simp only [List.getD, List.getElem?_set]
    rw [if_neg (by omega)]
  have wy : ∀ j, j < m → 0 ≤ ys.getD j 0 ∧ ys.getD j 0 < 18446744073709551616 := by
    intro j hj
    have r : ∀ x : Int, 0 ≤ IntKind.u64.wrap x ∧ IntKind.u64.wrap x < 18446744073709551616 := fun x => by rw [IntKind.wrap_u64]; omega
    by_cases h0 : j = 0
    · subst h0; rw [hy0]; exact r _
    · have := hyj j (by omega) hj
      rw [Nat.zero_add] at this
      rw [this]; exact r _
  have cm : 0 ≤ xs.getD (m - 1) 0 / 2 ^ (64 - s) ∧ xs.getD (m - 1) 0 / 2 ^ (64 - s) < 18446744073709551616 := ⟨Int.ediv_nonneg hcar.1 (Int.le_of_lt (Int.pow_pos (by omega))), Int.lt_of_le_of_lt (Int.ediv_le_self _ hcar.1) hcar.2⟩
  rw [← at_m] at cm
  have hn := norm_got b (m + 1) _ _ hy2 (by rw [hl2]; exact hnz) (by rw [hl2]; exact hzm) (fun j hj => by
    by_cases h0 : j = m
    · subst h0; exact cm
    · have e := at_j j (by omega)
      have := wy j (by omega)
      rw [← e] at this
      exact this)
  rw [hl2] at hn
  refine hn.mono ?_
  rintro e w3 ⟨v, rfl, hv, ho3⟩
  go_wp2_with fail
  go_ret
  refine ⟨v, some b, rfl, ?_, ?_, ?_⟩
  · have e : num (fun i => (ys.set m (xs.getD (m - 1) 0 / 2 ^ (64 - s))).getD i 0) (m + 1) = num (fun i => xs.getD i 0) m * 2 ^ s := by
      obtain ⟨k, rfl⟩ : ∃ k, m = k + 1 := ⟨m - 1, by omega⟩
      rw [← num_shl (fun i => xs.getD i 0) (fun i => ys.getD i 0) s k hs2 hw hy0 (fun j a b => by have := hyj j a b; rw [Nat.zero_add] at this; exact this)]
      rw [show ∀ g : Nat → Int, num g (k + 1 + 1) = num g (k + 1) + g (k + 1) * 2 ^ (64 * (k + 1)) from fun _ => rfl, at_m, num_congr (k + 1) at_j]
      rfl
    rw [← e]; exact hv
  · refine ((ho.mono (fun _ _ h => h.elim)).step ho2 ?_).set ?_ _ |>.step ho3 (fun _ _ h => h.elim)
    · rintro i hi rfl
      rcases hob with ⟨h, _⟩ | rfl
      · exact h
      · omega
    · rcases hob with ⟨h, _⟩ | rfl
      · exact .inr h
      · exact .inl (Nat.le_refl _)
  · rcases hob with ⟨h, _⟩ | rfl
    · exact .inl h.symm
    · exact .inr ⟨_, rfl, Nat.le_refl _⟩
end Go.Proofs.YtflhdplfkpdejaaGreatFmt
namespace Go.Proofs.YtflhdplfkpdejaaGreatFmt
open Go.RowKit Go.Proofs.YtflhdplfkpdejaaGreatFmtW.PrintWords
theorem num_down (f : Nat → Int) (q n r : Nat) (hf : Wd f (q + n)) : num f (q + n) / 2 ^ (64 * q + r) = num (fun i => f (q + i)) n / 2 ^ r := by
  obtain ⟨h0, h1⟩ := num_range q fun i hi => hf i (by omega)
  have hp : (0 : Int) < 2 ^ (64 * q) := Int.pow_pos (by omega)
  rw [num_add, Int.pow_add, ← Int.ediv_ediv_of_nonneg (Int.le_of_lt hp), Int.add_mul_ediv_right _ _ (by omega), Int.ediv_eq_zero_of_lt h0 h1, Int.zero_add]
theorem Blk.length {w : World} {b : Nat} {xs ys : List Int} (h : Blk w b xs) (k : Blk w b ys) : xs.length = ys.length := by
  unfold Blk at h k
  rw [h] at k
  have e := congrArg (fun o : Option Obj => match o with | some (.cells c _ _) => c.size | _ => 0) k
  simpa [words] using e
set_option maxRecDepth 100000 in
set_option maxHeartbeats 2000000 in
theorem rsh_bits (z : Value) (o : Option Nat) (bx m c q r n : Nat) (xs : List Int) (w : World) (hz : Room w z o) (hx : Blk w bx xs) (hm : m = q + n) (hn : 0 < n) (hmx : m ≤ xs.length) (hmc : m ≤ c) (hxm : xs.length ≤ most) (hw : Wd (fun i => xs.getD i 0) m) (hr : 0 < r) (hr2 : r < 64) (hq : q < 274877906944) (hm4 : n + 4 ≤ most) :
    Calls Tryz.prog 65 #[z, .slice (some ⟨bx, 0, none⟩) m c, .int .u64 ((64 * q + r : Nat) : Int)] w (Got w o (num (fun i => xs.getD i 0) m / 2 ^ (64 * q + r))) := by
  have h1 : (((64 * q + r : Nat) : Int) == 0) = false := by rw [beq_eq_false_iff_ne]; omega
  have h3 : ((64 * q + r : Nat) : Int) / 64 = q := by omega
  have h4 : ((64 * q + r : Nat) : Int) % 64 = r := by omega
  have h5 : ((r : Int) == 0) = false := by rw [beq_eq_false_iff_ne]; omega
  have hmm : most = 274877906944 := rfl
  have hm3 : m ≤ 274877906944 := by omega
  have hmn : (m : Int) - q = n := by omega
  have hmn2 : (m : Int) - n = q := by omega
  have hnp : ¬ (n : Int) ≤ 0 := by omega
  have hen := Tryz.rshVU_enters
  have HM := Lib.hid hm
  have HX := Lib.hid hmm
  have hmk : ∀ w, Room w z o → Calls Tryz.prog 93 #[z, .int .i64 (n : Int)] w fun e w' => ∃ b zs, e = .returned (.slice (some ⟨b, 0, none⟩) n zs.length) ∧ Blk w' b zs ∧ n ≤ zs.length ∧ zs.length ≤ most ∧ Only w w' (fun _ => False) ∧ ((o = some b ∧ w' = w) ∨ b = w.heap.size) := fun w h => make_any z o n w h hn (by omega)
  have hqm : (q : Int) < m := by omega
  have hcq : (c : Int) - q = ((c - q : Nat) : Int) := by omega
  generalize hS : ((64 * q + r : Nat) : Int) = S at h1 h3 h4
  clear hm hmm
  go_enter Tryz.func65, Tryz.ntmps65
  go_wp2_with fail
  refine (hmk w hz).mono ?_
  rintro e w1 ⟨b, zs, rfl, hb, hnz, hzm, ho, hob⟩
  go_wp2_with fail
  have hm := HM.out
  have hmm := HX.out
  rw [show m - q = n by omega]
  have hxb : bx < w.heap.size := blk_lt hx
  have hlen : bx = b → zs.length = xs.length := by
    rintro rfl
    rcases hob with ⟨_, rfl⟩ | h
    · exact Blk.length hb hx
    · omega
  have hx1 : ∀ i, i < n → w1.cell? ⟨bx, q + i, none⟩ = some (.int .u64 (xs.getD (q + i) 0)) := fun i hi => (ho.blk hx (fun h => h)).cell (q + i) (by omega)
  refine (rshVU_any b 0 zs.length bx q (c - q) n r zs (fun i => xs.getD (q + i) 0) w1 hn hr hr2 hb (by omega) (by omega) hx1 (by by_cases h : bx = b; exact .inr ⟨h, by omega, by rw [hlen h]; omega⟩; exact .inl h)).mono ?_
  rintro e w2 ⟨rfl, ho2, ys, hy, hyl, hout, hyt, hyj⟩
  clear hm hmm
  go_wp2_with fail
  have hm := HM.out
  have hmm := HX.out
  have r64 : ∀ x : Int, 0 ≤ IntKind.u64.wrap x ∧ IntKind.u64.wrap x < 18446744073709551616 := fun x => by rw [IntKind.wrap_u64]; omega
  have hf : Wd (fun i => xs.getD (q + i) 0) n := fun i hi => hw (q + i) (by omega)
  have hn2 := norm_got b n ys w2 hy (by rw [hyl]; exact hnz) (by rw [hyl]; exact hzm) (fun j hj => by
    by_cases h0 : j = n - 1
    · show 0 ≤ ys.getD j 0 ∧ ys.getD j 0 < _
      rw [← Nat.zero_add j, h0, hyt]
      have := hf (n - 1) (by omega)
      exact ⟨Int.ediv_nonneg this.1 (Int.le_of_lt (Int.pow_pos (by omega))), Int.lt_of_le_of_lt (Int.ediv_le_self _ this.1) this.2⟩
    · show 0 ≤ ys.getD j 0 ∧ ys.getD j 0 < _
      rw [← Nat.zero_add j, hyj j (by omega)]
      exact r64 _)
  rw [hyl] at hn2
  refine hn2.mono ?_
  rintro e w3 ⟨v, rfl, hv, ho3⟩
  go_wp2_with fail
  go_ret
  refine ⟨v, some b, rfl, ?_, ?_, ?_⟩
  · have e : num (fun i => ys.getD i 0) n = num (fun i => xs.getD i 0) (q + n) / 2 ^ (64 * q + r) := by
      rw [num_down _ q n r (by rw [← hm]; exact hw)]
      obtain ⟨k, rfl⟩ : ∃ k, n = k + 1 := ⟨n - 1, by omega⟩
      refine num_shr (fun i => xs.getD (q + i) 0) (fun i => ys.getD i 0) r k hr hr2 hf ?_ (fun j a => ?_)
      · have := hyt
        rw [Nat.zero_add] at this; exact this
      · have := hyj j (by omega)
        rw [Nat.zero_add] at this; exact this
    rw [hm, ← e]; exact hv
  · refine ((ho.mono (fun _ _ h => h.elim)).step ho2 ?_).step ho3 (fun _ _ h => h.elim)
    rintro i hi rfl
    rcases hob with ⟨h, _⟩ | rfl
    · exact h
    · omega
  · rcases hob with ⟨h, _⟩ | rfl
    · exact .inl h.symm
    · exact .inr ⟨_, rfl, Nat.le_refl _⟩
set_option maxRecDepth 100000 in
set_option maxHeartbeats 2000000 in
theorem rsh_words (z : Value) (o : Option Nat) (bx m c q n : Nat) (xs : List Int) (w : World) (hz : Room w z o) (hx : Blk w bx xs) (hm : m = q + n) (hn : 0 < n) (hmx : m ≤ xs.length) (hmc : m ≤ c) (hxm : xs.length ≤ most) (hw : Wd (fun i => xs.getD i 0) m) (hq0 : 0 < q) (hq : q < 274877906944) (hm4 : n + 4 ≤ most) :
    Calls Tryz.prog 65 #[z, .slice (some ⟨bx, 0, none⟩) m c, .int .u64 ((64 * q : Nat) : Int)] w (Got w o (num (fun i => xs.getD i 0) m / 2 ^ (64 * q))) := by
  have h1 : (((64 * q : Nat) : Int) == 0) = false := by rw [beq_eq_false_iff_ne]; omega
  have h3 : ((64 * q : Nat) : Int) / 64 = q := by omega
  have h4 : ((64 * q : Nat) : Int) % 64 = 0 := by omega
  have hmm : most = 274877906944 := rfl
  have hm3 : m ≤ 274877906944 := by omega
  have hmn : (m : Int) - q = n := by omega
  have hmn2 : (m : Int) - n = q := by omega
  have HM := Lib.hid hm
  have HX := Lib.hid hmm
  have hmk : ∀ w, Room w z o → Calls Tryz.prog 93 #[z, .int .i64 (n : Int)] w fun e w' => ∃ b zs, e = .returned (.slice (some ⟨b, 0, none⟩) n zs.length) ∧ Blk w' b zs ∧ n ≤ zs.length ∧ zs.length ≤ most ∧ Only w w' (fun _ => False) ∧ ((o = some b ∧ w' = w) ∨ b = w.heap.size) := fun w h => make_any z o n w h hn (by omega)
  have hcq : (c : Int) - q = ((c - q : Nat) : Int) := by omega
  have hmq : m - q = n := by omega
  have HQ := Lib.hid hmq
  clear hmq
  generalize hS : ((64 * q : Nat) : Int) = S at h1 h3 h4
  clear hm hmm
  go_enter Tryz.func65, Tryz.ntmps65
  go_wp2_with fail
  refine (hmk w hz).mono ?_
  rintro e w1 ⟨b, zs, rfl, hb, hnz, hzm, ho, hob⟩
  have hx1 : ∀ i, i < n → w1.cell? ⟨bx, q + i, none⟩ = some (.int .u64 (xs.getD (q + i) 0)) := fun i hi => (ho.blk hx (fun h => h)).cell (q + i) (by have := HM.out; omega)
  have hcp := copy_run b 0 n zs.length bx q (m - q) (c - q) n zs (fun i => xs.getD (q + i) 0) w1 74 3 Tryz.underlying74 hb (by rw [HQ.out]; simp) hx1 (by omega)
  go_wp2_with fail
  have hm := HM.out
  have hmm := HX.out
  have hy := hb.row (splice zs 0 ((List.range n).map fun i => xs.getD (q + i) 0))
  have hyl : (splice zs 0 ((List.range n).map fun i => xs.getD (q + i) 0)).length = zs.length := length_splice _ _ _ (by simp; omega)
  have at_j : ∀ j, j < n → (splice zs 0 ((List.range n).map fun i => xs.getD (q + i) 0)).getD j 0 = xs.getD (q + j) 0 := by
    intro j hj
    rw [splice_at _ _ _ _ (by simp; omega), if_pos (by simp; omega)]
    simp [List.getD, hj]
  have hn2 := norm_got b n _ _ hy (by rw [hyl]; exact hnz) (by rw [hyl]; exact hzm) (fun j hj => by
    have e := at_j j hj
    have := hw (q + j) (by omega)
    exact ⟨by show 0 ≤ List.getD _ j 0; rw [e]; exact this.1, by show List.getD _ j 0 < _; rw [e]; exact this.2⟩)
  rw [hyl] at hn2
  refine hn2.mono ?_
  rintro e w3 ⟨v, rfl, hv, ho3⟩
  go_wp2_with fail
  go_ret
  refine ⟨v, some b, rfl, ?_, ?_, ?_⟩
  · have e : num (fun i => (splice zs 0 ((List.range n).map fun i => xs.getD (q + i) 0)).getD i 0) n = num (fun i => xs.getD i 0) (q + n) / 2 ^ (64 * q) := by
      have := num_down (fun i => xs.getD i 0) q n 0 (by rw [← hm]; exact hw)
      rw [Nat.add_zero, Int.pow_zero, Int.ediv_one] at this
      rw [this]
      exact num_congr n at_j
    rw [hm, ← e]; exact hv
  · refine ((ho.mono (fun _ _ h => h.elim)).row ?_ _).step ho3 (fun _ _ h => h.elim)
    rcases hob with ⟨h, _⟩ | rfl
    · exact .inr h
    · exact .inl (Nat.le_refl _)
  · rcases hob with ⟨h, _⟩ | rfl
    · exact .inl h.symm
    · exact .inr ⟨_, rfl, Nat.le_refl _⟩
end Go.Proofs.YtflhdplfkpdejaaGreatFmt
namespace Go.Proofs.YtflhdplfkpdejaaGreatFmt
open Go.RowKit Go.Proofs.YtflhdplfkpdejaaGreatFmtW.PrintWords
theorem read_kept {w w1 wr : World} {b bx : Nat} {xs zs ys : List Int} {i : Nat} (hx : Blk w bx xs) (hi : i < xs.length) (ho : Only w w1 (fun _ => False)) (hb : Blk w1 b zs) (hr : Only w1 wr (· = b)) (hy : Blk wr b ys) (hl : ys.length = zs.length) (he : ys.getD i 0 = zs.getD i 0) : wr.cell? ⟨bx, i, none⟩ = some (.int .u64 (xs.getD i 0)) := by
  have h1 := ho.blk hx (fun h => h)
  by_cases hne : bx = b
  · subst hne
    have hlen := Blk.length hb h1
    have e := (hb.cell i (by omega)).symm.trans (h1.cell i hi)
    rw [hy.cell i (by omega), he, e]
  · exact (hr.blk h1 hne).cell i hi
set_option maxRecDepth 100000 in
set_option maxHeartbeats 2000000 in
theorem or_ge (z : Value) (o : Option Nat) (bx m cx bv n cv : Nat) (xs vs : List Int) (w : World) (hz : Room w z o) (hx : Blk w bx xs) (hv : Blk w bv vs) (hm : n ≤ m) (hn : 0 < n) (hmx : m ≤ xs.length) (hmc : m ≤ cx) (hnv : n ≤ vs.length) (hm4 : m + 4 ≤ most) :
    Calls Tryz.prog 67 #[z, .slice (some ⟨bx, 0, none⟩) m cx, .slice (some ⟨bv, 0, none⟩) n cv] w fun e w' => ∃ b ys, Only w w' (fun k => o = some k) ∧ (o = some b ∨ w.heap.size ≤ b) ∧ Blk w' b ys ∧ e = .returned (.slice (some ⟨b, 0, none⟩) (nlen ys m) ys.length) ∧ m ≤ ys.length ∧ ys.length ≤ most ∧ ∀ i, i < m → ys.getD i 0 = if i < n then bits .or .u64 (xs.getD i 0) (vs.getD i 0) else xs.getD i 0 := by
  have hmm : most = 274877906944 := rfl
  have hm3 : m ≤ 274877906944 := by omega
  have hlt : ¬ (m : Int) < n := by omega
  have hmk : ∀ w, Room w z o → Calls Tryz.prog 93 #[z, .int .i64 (m : Int)] w fun e w' => ∃ b zs, e = .returned (.slice (some ⟨b, 0, none⟩) m zs.length) ∧ Blk w' b zs ∧ m ≤ zs.length ∧ zs.length ≤ most ∧ Only w w' (fun _ => False) ∧ ((o = some b ∧ w' = w) ∨ b = w.heap.size) := fun w h => make_any z o m w h (by omega) (by omega)
  have HX := Lib.hid hmm
  clear hmm
  go_enter Tryz.func67, Tryz.ntmps67
  go_wp2_with fail
  refine (hmk w hz).mono ?_
  rintro e w1 ⟨b, zs, rfl, hb, hnz, hzm, ho, hob⟩
  go_wp2_with fail
  go_loopw [10] (fun si wr => ∃ k : Nat, k ≤ n ∧ si = .int .i64 k ∧ Only w1 wr (· = b) ∧ ∃ ys, Blk wr b ys ∧ ys.length = zs.length ∧ (∀ p, k ≤ p → ys.getD p 0 = zs.getD p 0) ∧ ∀ j, j < k → ys.getD j 0 = bits .or .u64 (xs.getD j 0) (vs.getD j 0))
    (fun si _ => n - (intOf si).toNat)
  case atStart => exact ⟨0, Nat.zero_le _, rfl, Only.refl _ _, zs, hb, rfl, fun _ _ => rfl, fun j h => by omega⟩
  case round =>
    obtain ⟨k, hk, rfl, hr, ys, hy, hyl, hlo, hhi⟩ := hrel
    have c0 : k < n → wr.cell? ⟨bx, k, none⟩ = some (.int .u64 (xs.getD k 0)) := fun h => read_kept hx (by omega) ho hb hr hy hyl (hlo k (Nat.le_refl _))
    have c1 : k < n → wr.cell? ⟨bv, k, none⟩ = some (.int .u64 (vs.getD k 0)) := fun h => read_kept hv (by omega) ho hb hr hy hyl (hlo k (Nat.le_refl _))
    have cz : k < n → wr.cell? ⟨b, k, none⟩ = some (.int .u64 (ys.getD k 0)) := fun h => hy.cell k (by omega)
    have fz := blk_frozen hy k
    have hkm : k < n → (k : Int) < m := fun h => by omega
    go_wp2
    · have h0 : k < n := by assumption
      have d0 := c0 h0
      have d1 := c1 h0
      have dz := cz h0
      have hkm := hkm h0
      clear c0 c1 cz
      go_region
      go_wp2
      go_roundw
      case rel =>
        refine ⟨k + 1, by omega, by go_num, ?_, ys.set k (bits .or .u64 (xs.getD k 0) (vs.getD k 0)), ?_, by simpa using hyl, ?_, ?_⟩
        · exact (hr.set (.inr rfl) _).drew
        · exact hy.set _ _
        · intro p hp
          rw [← hlo p (by omega)]
          simp only [List.getD, List.getElem?_set]
          rw [if_neg (by omega)]
        · intro j j0
          simp only [List.getD, List.getElem?_set]
          by_cases e : j = k
          · subst e
            rw [if_pos rfl, if_pos (by omega)]; rfl
          · rw [if_neg (by omega)]
            exact hhi j (by omega)
      case measure => simp [intOf]; omega
    · have h0 : ¬ k < n := by assumption
      obtain rfl : k = n := by omega
      have hx2 : ∀ j, j < m - k → wr.cell? ⟨bx, k + j, none⟩ = some (.int .u64 (xs.getD (k + j) 0)) := fun j hj => read_kept hx (by omega) ho hb hr hy hyl (hlo (k + j) (by omega))
      clear c0 c1 cz fz
      by_cases hk2 : k < m
      · have hcp := copy_run b k (m - k) (zs.length - k) bx k (m - k) (cx - k) (m - k) ys (fun j => xs.getD (k + j) 0) wr.drew 74 3 Tryz.underlying74 hy (by simp) hx2 (by omega)
        have q1 : (k : Int) ≤ m := by omega
        have q2 : (m : Int) ≤ zs.length := by omega
        have q3 : (m : Int) ≤ cx := by omega
        go_region
        have hyl2 : (splice ys k ((List.range (m - k)).map fun j => xs.getD (k + j) 0)).length = ys.length := length_splice _ _ _ (by simp; omega)
        have hy3 : Blk (wr.drew.setRow b (words (splice ys k ((List.range (m - k)).map fun j => xs.getD (k + j) 0)))) b _ := Blk.row (w := wr.drew) hy _
        have hn2 := norm_own b m zs.length _ _ hy3 (by omega) (by omega) (by have := HX.out; omega)
        go_wp2_with fail
        refine hn2.mono ?_
        rintro e w4 ⟨rfl, hB4⟩
        go_wp2_with fail
        go_ret
        have ho4 : Only (wr.drew.setRow b (words (splice ys k ((List.range (m - k)).map fun j => xs.getD (k + j) 0)))) w4 (fun _ => False) := ⟨hB4.mono (Nat.zero_le _), fun i hi _ => hB4.block i hi⟩
        refine ⟨b, _, ?_, ?_, ho4.blk hy3 (fun h => h), ?_, by omega, by omega, ?_⟩
        · refine ((ho.mono (fun _ _ h => h.elim)).step ((hr.drew.row (.inr rfl) _).step ho4 (fun _ _ h => h.elim)) ?_)
          rintro i hi rfl
          rcases hob with ⟨h, _⟩ | rfl
          · exact h
          · omega
        · rcases hob with ⟨h, _⟩ | rfl
          · exact .inl h
          · exact .inr (Nat.le_refl _)
        · rw [hyl2, hyl]; rfl
        · intro i hi
          rw [splice_at _ _ _ _ (by simp; omega)]
          by_cases h1 : i < k
          · rw [if_neg (by omega), if_pos h1]; exact hhi i h1
          · rw [if_pos (by simp; omega), if_neg h1]
            simp [List.getD, show i - k < m - k by omega, show k + (i - k) = i by omega]
      · obtain rfl : k = m := by omega
        have hcp : ∀ (A B : Option Addr) (c1 c2 : Nat) (ty : TypeId) (w : World), (Builtin.copy_ #[74, 74] ty #[.slice A 0 c1, .slice B 0 c2]).run Tryz.prog w = .ok (goInt 0) w := fun A B c1 c2 ty w => run_copy_none w _ _ ty 89 A B 0 c1 0 c2 Tryz.underlying74 (by kernel_rfl) (by simp)
        have q2 : (k : Int) ≤ zs.length := by omega
        have q3 : (k : Int) ≤ cx := by omega
        have hy3 : Blk wr.drew b ys := hy
        have hn2 := norm_own b k zs.length _ _ hy3 (by omega) (by omega) (by have := HX.out; omega)
        have hn3 := norm_own b k k _ _ hy3 (by omega) (by omega) (by have := HX.out; omega)
        go_region
        all_goals go_wp2_with fail
        all_goals first | (with_reducible refine hn2.mono ?_) | (with_reducible refine hn3.mono ?_)
        all_goals
          rintro e w4 ⟨rfl, hB4⟩
          go_wp2_with fail
          go_ret
          have ho4 : Only wr.drew w4 (fun _ => False) := ⟨hB4.mono (Nat.zero_le _), fun i hi _ => hB4.block i hi⟩
          refine ⟨b, ys, ?_, ?_, ho4.blk hy3 (fun h => h), ?_, by omega, by omega, ?_⟩
          · refine ((ho.mono (fun _ _ h => h.elim)).step (hr.drew.step ho4 (fun _ _ h => h.elim)) ?_)
            rintro i hi rfl
            rcases hob with ⟨h, _⟩ | h
            · exact h
            · omega
          · rcases hob with ⟨h, _⟩ | h
            · exact .inl h
            · exact .inr (by omega)
          · first | (rw [hyl]; rfl) | (rw [show ys.length = k by omega]; rfl)
          · intro i hi
            rw [if_pos hi]; exact hhi i hi
end Go.Proofs.YtflhdplfkpdejaaGreatFmt
