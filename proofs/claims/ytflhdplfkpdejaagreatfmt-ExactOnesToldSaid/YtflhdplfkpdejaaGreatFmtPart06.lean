/- Part 6 of the walk of ExactOnes: ExB WLast WTab WFour WQPut WApart WArr WZeros WFoot WKept WShare WN WFootNe WAt WEqStruct. -/
import Derived.Test.YtflhdplfkpdejaaGreatFmtPart05
import Derived.WalkLawsBesides
import Derived.OrdersHeld
import Derived.Deep.RegionHeld3
import Derived.Laws.BitsLemmas
import Derived.RowKit
import Derived.Test.YtflhdplfkpdejaaGreatFmtPart02
import Derived.Laws.StructEq
namespace Go.Proofs.YtflhdplfkpdejaaGreatFmt
open Go.RowKit Go.Proofs.YtflhdplfkpdejaaGreatFmtW.PrintWords
theorem heap_two (w : World) (a b : Obj) : ((w.alloc a).alloc b).heap[w.heap.size + 1]? = some b := by
  have e : (w.alloc a).heap.size = w.heap.size + 1 := by simp
  rw [← e]
  exact heap_alloc_new _ _
theorem heap_two' (w : World) (a b : Obj) : ((w.alloc a).alloc b).heap[w.heap.size]? = some a :=
  (Below.heap_alloc (w.alloc a) b w.heap.size (by simp)).trans (heap_alloc_new w a)
set_option maxRecDepth 100000 in
set_option maxHeartbeats 4000000 in
theorem told_zero (g : Nat) (o : Option Nat) (e : Int) (w : World) (hi : IsInt w g o 0) :
    Calls Tryz.prog 27 #[.agg #[.pointer (some ⟨g, 0, none⟩), .int .i64 e]] w fun en w' => en = .returned (.agg #[.bool false, .slice none 0 0, .int .i64 0]) ∧ Only w w' (fun _ => False) := by
  have HI := Lib.hid hi
  have HO := Only.refl w (fun _ => False)
  go_enter Tryz.func27, Tryz.ntmps27
  go_wp2_with fail
  refine (sign_int g o 0 _ (HI.out.only ((HO.alloc _).alloc _) (fun h => h) (fun _ _ h => h))).mono ?_
  rintro en w1 ⟨rfl, rfl⟩
  go_wp2_with fail
  exact bodyPost_ret (results_cell_row rfl _ _ (w.heap.size + 1) 24 #[.bool false, .slice none 0 0, .int .i64 0] (0, 0) _ rfl (heap_two w _ _) Tryz.underlying24 rfl (by kernel_rfl)) rfl ⟨rfl, (HO.alloc _).alloc _⟩
def gaveUp (n : Int) : Ending := .panicked [{ v := .iface 57 (.agg #[.int .i64 n]), recovered := false }]
def slen : Value → Nat
  | .slice _ n _ => n
  | _ => 0
theorem Only.of_grown {w w1 : World} {row : Option Nat} (h : w.grownBy w1 row) : Only w w1 (fun k => row = some k) :=
  ⟨⟨h.os, h.tape, h.output, h.size, fun k hk => by omega⟩, fun k hk hs => h.block k hk (fun e => hs e.symm)⟩
theorem Only.of_below {w w1 : World} (h : Below w.heap.size w w1) : Only w w1 (fun _ => False) := ⟨h.mono (Nat.zero_le _), fun k hk _ => h.block k hk⟩
theorem IsNat.typed {w : World} {v : Value} {o : Option Nat} {x : Int} (h : IsNat w v o x) (b : Nat) (hb : o = some b) : ∃ cells, w.heap[b]? = some (.cells cells 89 (0, 0)) := by
  cases h with
  | nil => cases hb
  | own b' n ys x hB hn hm hw hx => cases hb; exact ⟨_, hB⟩
theorem IsInt.grown {w w1 : World} {g : Nat} {o : Option Nat} {z : Int} (h : IsInt w g o z) {base n : Nat} {v : Value} {xs : List Value} (hown : w.ownsRow base 3 1 v n xs) (hg : w.grownBy w1 v.ownBlock) : IsInt w1 g o z := by
  refine h.only (Only.of_grown hg) (fun e => ?_) (fun b hb e => ?_)
  · obtain ⟨cells, hc⟩ := own_typed hown g e
    obtain ⟨v0, h1, _⟩ := h
    exact blk_ne h1 hc (by decide) rfl
  · obtain ⟨cells, hc⟩ := own_typed hown b e
    obtain ⟨v0, _, h2⟩ := h
    obtain ⟨cells', hc'⟩ := h2.typed b hb
    exact blk_ne hc' hc (by decide) rfl
theorem IsInt.keep {w w' : World} {g g2 : Nat} {o o2 : Option Nat} {z z2 : Int} (h : IsInt w g o z) (h2 : IsInt w g2 o2 z2) (ho : Only w w' (fun k => k = g2 ∨ o2 = some k)) (hne : g ≠ g2) (hoo : ∀ b, o = some b → o2 ≠ some b) : IsInt w' g o z := by
  obtain ⟨v, h1, hn⟩ := id h
  obtain ⟨v2, h12, hn2⟩ := id h2
  refine h.only ho ?_ (fun b hb => ?_)
  · rintro (e | e)
    · exact hne e
    · exact hn2.apart h1 e
  · rintro (e | e)
    · exact hn.apart h12 (e ▸ hb)
    · exact hoo b hb e
theorem own_keep {w w' : World} {g2 : Nat} {o2 : Option Nat} {z2 : Int} {base n : Nat} {v : Value} {xs : List Value} (h : w.ownsRow base 3 1 v n xs) (h2 : IsInt w g2 o2 z2) (ho : Only w w' (fun k => k = g2 ∨ o2 = some k)) : w'.ownsRow base 3 1 v n xs := by
  obtain ⟨v2, h12, hn2⟩ := h2
  refine own_move h (fun b hb => ho.kept b (own_lt h b hb) ?_)
  obtain ⟨cells, hc⟩ := own_typed h b hb
  rintro (e | e)
  · subst e; exact blk_ne h12 hc (by decide) rfl
  · obtain ⟨cells', hc'⟩ := hn2.typed b e
    exact blk_ne hc' hc (by decide) rfl
theorem sign_pos (g : Nat) (o : Option Nat) (z : Int) (w : World) (h : IsInt w g o z) (hz : 0 < z) :
    Calls Tryz.prog 34 #[.pointer (some ⟨g, 0, none⟩)] w fun e w' => e = .returned (.int .i64 1) ∧ w' = w := by
  have := sign_int g o z w h
  rw [Int.sign_eq_one_of_pos hz] at this
  exact this
theorem sign_nil (g : Nat) (o : Option Nat) (z : Int) (w : World) (h : IsInt w g o z) (hz : z = 0) :
    Calls Tryz.prog 34 #[.pointer (some ⟨g, 0, none⟩)] w fun e w' => e = .returned (.int .i64 0) ∧ w' = w := by
  subst hz
  exact sign_int g o 0 w h
def Nm (ds : List Int) : Prop := Digs ds ∧ (0 < ds.length → ds.getD (ds.length - 1) 0 ≠ 0)
def Told (w : World) (z e : Int) (en : Ending) (w' : World) : Prop := ∃ (t k : Nat) (q : Int), ((Int.natAbs z : Nat) : Int) = q * 2 ^ t ∧ q % 2 = 1 ∧ 0 < q ∧ BLen q k ∧ Only w w' (fun _ => False) ∧
  (((60000 < k ∨ e + t < -1048576 ∨ 1048576 < e + t) ∧ en = gaveUp 2) ∨
    (k ≤ 60000 ∧ -1048576 ≤ e + t ∧ e + t ≤ 1048576 ∧ ∃ v ds, en = .returned (.agg #[.bool (decide (z < 0)), v, .int .i64 (e + t)]) ∧ w'.ownsRow w.heap.size 3 1 v ds.length (nums .i64 ds) ∧ val ds = q ∧ Nm ds))
theorem val_snoc : ∀ (ds : List Int) (d : Int), val (ds ++ [d]) = val ds + d * 2 ^ (30 * ds.length)
  | [], d => by simp [val]
  | x :: ds, d => by
    rw [List.cons_append, val, val, val_snoc ds d, List.length_cons, show 30 * (ds.length + 1) = 30 + 30 * ds.length by omega, Int.pow_add]
    have e : (2 : Int) ^ 30 = 1073741824 := by decide
    rw [e, Int.mul_add, ← Int.mul_assoc, ← Int.mul_assoc, Int.mul_comm d 1073741824, Int.add_assoc]
theorem Digs.snoc {ds : List Int} (h : Digs ds) {d : Int} (h0 : 0 ≤ d) (h1 : d < 1073741824) : Digs (ds ++ [d]) := by
  intro x hx
  rcases List.mem_append.1 hx with h2 | h2
  · exact h x h2
  · rw [List.mem_singleton.1 h2]; exact ⟨h0, h1⟩
theorem int3 : (Tryz.prog.info? 3).map (fun i => (i.zero, i.size, i.bytes)) = some (some (.int .i64 0), 1, 8) := by kernel_rfl
theorem make_ints (c : Nat) (w : World) (hm : c < 1099511627776) :
    (Instr.makeSlice 22 (.int .i64 0) (.int .i64 (c : Int))).run Tryz.prog w = .ok (.slice (some ⟨w.heap.size, 0, none⟩) 0 c) (w.alloc (.cells (madeCells (Value.int .i64 0).cells c) 3)) := by
  obtain ⟨i, hi, h2⟩ := Option.map_eq_some_iff.1 int3
  simp only [Prod.mk.injEq] at h2
  obtain ⟨hz, hs, hb⟩ := h2
  have := run_make (P := Tryz.prog) w 22 3 i (.int .i64 0) Tryz.underlying22 hi hz .i64 .i64 0 (c : Int) (by omega) (by omega) (by rw [hb]; omega) (by omega)
  rw [this, Int.toNat_natCast, hs, Nat.mul_one]; rfl
set_option maxRecDepth 100000 in
set_option maxHeartbeats 4000000 in
theorem told_some (g : Nat) (o : Option Nat) (z e : Int) (w : World) (hi : IsInt w g o z) (hz : z ≠ 0) (hf : Fits (Int.natAbs z)) (hT : Tab w) (he : -2305843009213693952 ≤ e) (he2 : e ≤ 2305843009213693952) :
    Calls Tryz.prog 27 #[.agg #[.pointer (some ⟨g, 0, none⟩), .int .i64 e]] w (Told w z e) := by
  have hs0 : (z.sign == 0) = false := by rw [beq_eq_false_iff_ne]; intro h; exact hz (Int.sign_eq_zero_iff_zero.1 h)
  have HI := Lib.hid hi
  have HO := Only.refl w (fun _ => False)
  have hH : ∀ a b : Obj, Only w ((w.alloc a).alloc b) (fun _ => False) := fun a b => (HO.alloc a).alloc b
  have HT := Lib.hid hT
  have HZ := Lib.hid hz
  clear hz hT
  go_enter Tryz.func27, Tryz.ntmps27
  go_wp2_with fail
  refine (sign_int g o z _ (HI.out.only (hH _ _) (fun h => h) (fun _ _ h => h))).mono ?_
  rintro en w1 ⟨rfl, rfl⟩
  have hbox := heap_two' w (.cells #[.pointer (some ⟨g, 0, none⟩), .int .i64 e] 62) (.cells #[.bool false, .slice none 0 0, .int .i64 0] 24)
  have hres := heap_two w (.cells #[.pointer (some ⟨g, 0, none⟩), .int .i64 e] 62) (.cells #[.bool false, .slice none 0 0, .int .i64 0] 24)
  have ho1 := hH (.cells #[.pointer (some ⟨g, 0, none⟩), .int .i64 e] 62) (.cells #[.bool false, .slice none 0 0, .int .i64 0] 24)
  have hsz : ((w.alloc (.cells #[.pointer (some ⟨g, 0, none⟩), .int .i64 e] 62)).alloc (.cells #[.bool false, .slice none 0 0, .int .i64 0] 24)).heap.size = w.heap.size + 2 := by simp
  have HB := Lib.hid hbox
  have HR := Lib.hid hres
  have HSZ := Lib.hid hsz
  clear hbox hres hsz hH
  generalize hW : ((w.alloc (.cells #[.pointer (some ⟨g, 0, none⟩), .int .i64 e] 62)).alloc (.cells #[.bool false, .slice none 0 0, .int .i64 0] 24)) = w1 at *
  clear hW
  generalize hB : w.heap.size = B at *
  have HW := Lib.hid hB
  clear hB
  have cb0 : w1.cell? ⟨B, 0, none⟩ = some (.pointer (some ⟨g, 0, none⟩)) := blk_cell HB.out 0
  have cb1 : w1.cell? ⟨B, 1, none⟩ = some (.int .i64 e) := blk_cell HB.out 1
  go_wp2_with fail
  have hi1 := HI.out.only ho1 (fun h => h) (fun _ _ h => h)
  have hT1 : Tab w1 := HT.out.of (ho1.kept _ HT.out.lt (fun h => h))
  refine (tz_int g o z w1 hi1 HZ.out hf hT1).mono ?_
  rintro en w2 ⟨t, rfl, hlow, ht, ho2⟩
  clear cb0 cb1
  have hB2 : w2.heap[B]? = _ := (ho2.kept B (by rw [HSZ.out]; omega) (fun h => h)).trans HB.out
  have cb0 : w2.cell? ⟨B, 0, none⟩ = some (.pointer (some ⟨g, 0, none⟩)) := blk_cell hB2 0
  have cb1 : w2.cell? ⟨B, 1, none⟩ = some (.int .i64 e) := blk_cell hB2 1
  have hlt2 : B < w2.heap.size := blk_lt hB2
  have n1 : ¬ B = w2.heap.size := by omega
  have n2 : ¬ B = w2.heap.size + 1 := by omega
  go_wp2_with fail
  have hi2 := hi1.only ho2 (fun h => h) (fun _ _ h => h)
  obtain ⟨w3, hw3⟩ : ∃ w3 : World, w3 = (w2.alloc (.cells #[.bool false, .slice none 0 0] 76)).alloc (.cells #[.bool false, .slice none 0 0] 76) := ⟨_, rfl⟩
  rw [← hw3]
  have ho3 : Only w2 w3 (fun _ => False) := by rw [hw3]; exact ((Only.refl _ _).alloc _).alloc _
  have hx : IsInt w3 w2.heap.size none 0 := by rw [hw3]; exact ⟨_, heap_two' w2 _ _, .nil⟩
  have hy : IsInt w3 (w2.heap.size + 1) none 0 := by rw [hw3]; exact ⟨_, heap_two w2 _ _, .nil⟩
  have hgl : g < w2.heap.size := hi2.lt
  clear hw3
  refine (abs_int (w2.heap.size + 1) g none o 0 z w3 hy (hi2.only ho3 (fun h => h) (fun _ _ h => h)) hf (by omega)).mono ?_
  rintro en w4 ⟨rfl, oy, hy4, ho4, hoy⟩
  go_wp2_with fail
  obtain ⟨q, hq, hq2⟩ := hlow
  have hzp : 0 < ((Int.natAbs z : Nat) : Int) := by have := HZ.out; omega
  have hfz : Fits ((Int.natAbs z : Nat) : Int) := hf
  refine (rsh_int w2.heap.size (w2.heap.size + 1) none oy 0 (Int.natAbs z) t w4 (hx.only ho4 (by rintro (h | h); omega; cases h) (fun _ h => by cases h)) hy4 (by omega) hfz (.inr ⟨rfl, hzp⟩) (by omega)).mono ?_
  rintro en w5 ⟨rfl, hp5⟩
  have hP : (0 : Int) < 2 ^ t := Int.pow_pos (by omega)
  have hm : ((Int.natAbs z : Nat) : Int) / 2 ^ t = q := by rw [hq]; exact Int.mul_ediv_cancel _ (by omega)
  rw [hm] at hp5
  have hq0 : 0 < q := by
    rcases Int.lt_or_le 0 q with h | h
    · exact h
    · have := Int.mul_le_mul_of_nonneg_right h (Int.le_of_lt hP)
      rw [Int.zero_mul] at this
      omega
  have hfq : Fits q := Fits.le hfz (by rw [hq]; have := Int.mul_le_mul_of_nonneg_left (show (1 : Int) ≤ 2 ^ t by omega) (Int.le_of_lt hq0); omega)
  obtain ⟨om, hm5, ho5, hom⟩ := hp5
  have hsz3 : w2.heap.size ≤ w3.heap.size := ho3.base.size
  have hsz4 : w3.heap.size ≤ w4.heap.size := ho4.base.size
  have hB5 : w5.heap[B]? = _ := ((ho5.kept B (by omega) (by rintro (h | h); omega; cases h)).trans ((ho4.kept B (by omega) (by rintro (h | h); omega; cases h)).trans (ho3.kept B hlt2 (fun h => h)))).trans hB2
  have cb5 : w5.cell? ⟨B, 1, none⟩ = some (.int .i64 e) := blk_cell hB5 1
  have hom2 : ∀ b, om = some b → w2.heap.size ≤ b := by
    intro b hb
    rcases hom with h | ⟨c, h, h2⟩
    · rw [h] at hb; cases hb
    · rw [h] at hb; cases hb; omega
  have h25 : Only w2 w5 (fun _ => False) := (ho3.step ho4 (by rintro i hi (h | h); omega; cases h)).step ho5 (by rintro i hi (h | h); omega; cases h)
  have HS := Lib.hid (And.intro hq (And.intro hq2 hm))
  clear cb0 cb1 hx hy hy4 ho3 ho4 ho5 hom hoy hsz3 hsz4 hm hq hq2
  go_wp2_with fail
  refine (bitLen_int _ om q w5 hm5 (by rw [natAbs_nonneg (Int.le_of_lt hq0)]; exact hfq)).mono ?_
  rintro en w6 ⟨⟨k, rfl, hk, hk2⟩, rfl⟩
  rw [natAbs_nonneg (Int.le_of_lt hq0)] at hk
  have HK := Lib.hid hk
  clear hk
  by_cases hbad : 60000 < k ∨ e + t < -1048576 ∨ 1048576 < e + t
  · have hd : (decide (60000 < (k : Int)) = true) ∨ (decide (60000 < (k : Int)) = false ∧ decide (e + (t : Int) < -1048576) = true) ∨ (decide (60000 < (k : Int)) = false ∧ decide (e + (t : Int) < -1048576) = false ∧ decide (1048576 < e + (t : Int)) = true) := by
      by_cases h1 : 60000 < k
      · exact .inl (by simp; omega)
      · by_cases h2 : e + (t : Int) < -1048576
        · exact .inr (.inl ⟨by simp; omega, by simpa using h2⟩)
        · exact .inr (.inr ⟨by simp; omega, by simpa using h2, by simp; omega⟩)
    have HBAD := Lib.hid hbad
    clear hbad
    rcases hd with h1 | ⟨h1, h2⟩ | ⟨h1, h2, h3⟩
    all_goals
      go_wp2_with fail
      exact ⟨rfl, t, k, q, HS.out.1, HS.out.2.1, hq0, HK.out, (ho1.trans ho2).trans h25, .inl ⟨HBAD.out, rfl⟩⟩
  · have h1 : decide (60000 < (k : Int)) = false := by simp; omega
    have h2 : decide (e + (t : Int) < -1048576) = false := by simp; omega
    have h3 : decide (1048576 < e + (t : Int)) = false := by simp; omega
    have hk6 : k ≤ 60000 := by omega
    go_wp2_with fail
    refine (bitLen_int _ om q _ hm5 (by rw [natAbs_nonneg (Int.le_of_lt hq0)]; exact hfq)).mono ?_
    rintro en w7 ⟨⟨k', rfl, hk', _⟩, rfl⟩
    rw [natAbs_nonneg (Int.le_of_lt hq0)] at hk'
    obtain rfl := HK.out.unique hk'
    clear hk'
    have hmk : ∀ w, (Instr.makeSlice 22 (.int .i64 0) (.int .i64 ((k : Int) / 30 + 1))).run Tryz.prog w = .ok (.slice (some ⟨w.heap.size, 0, none⟩) 0 (k / 30 + 1)) (w.alloc (.cells (madeCells (Value.int .i64 0).cells (k / 30 + 1)) 3)) := fun w => make_ints (k / 30 + 1) w (by omega)
    go_wp2_with fail
    clear hmk
    refine (newInt_any 1073741823 _ (by omega) (by omega)).mono ?_
    rintro en w8 ⟨gk, rfl, hgk, ho8⟩
    have hsz7 : w2.heap.size ≤ w7.heap.size := h25.base.size
    have hown : w8.ownsRow w2.heap.size 3 1 (.slice (some ⟨w7.heap.size, 0, none⟩) 0 (k / 30 + 1)) 0 [] := by
      have h := World.ownsRow_made (base := w2.heap.size) (e := 3) (size := 1) w7 (madeCells (Value.int .i64 0).cells (k / 30 + 1)) (k / 30 + 1) hsz7 (by unfold maxLen; omega) (by simp [madeCells])
      exact own_move h (fun b hb => ho8.kept b (own_lt h b hb) (fun h => h))
    obtain ⟨ok, hik, hkB, hoB⟩ := hgk
    have e7 : ∀ o : Obj, (w7.alloc o).heap.size = w7.heap.size + 1 := fun o => by simp
    rw [e7] at hkB
    have hoB2 : ∀ b, ok = some b → w7.heap.size + 1 ≤ b := fun b hb => by have := hoB b hb; rw [e7] at this; exact this
    have hm8 : IsInt w8 w2.heap.size om q := (hm5.only ((Only.refl w7 (fun _ => False)).alloc _) (fun h => h) (fun _ _ h => h)).only ho8 (fun h => h) (fun _ _ h => h)
    have h28 : Only w2 w8 (fun _ => False) := (h25.alloc _).trans ho8
    have hlt5 := hm5.lt'
    have hlt6 := hm5.lt
    have HOW := Lib.hid hown
    have HR8 := Lib.hid (And.intro hm8 (And.intro hik h28))
    have HLT := Lib.hid (And.intro hlt5 (And.intro hlt6 (And.intro hoB2 hkB)))
    clear hown hm8 hik h28 hlt5 hlt6 hoB2 hoB e7 ho8 h25 hm5 hB5 cb5 hi1 hi2 hT1
    go_wp2_with fail
    go_loopw [6] (fun v wr => ∃ (ds : List Int) (m : Int) (om' : Option Nat), wr.ownsRow w2.heap.size 3 1 v ds.length (nums .i64 ds) ∧ IsInt wr w2.heap.size om' m ∧ (∀ b, om' = some b → w2.heap.size ≤ b ∧ ok ≠ some b) ∧ IsInt wr gk ok 1073741823 ∧ Only w2 wr (fun _ => False) ∧ val ds + m * 2 ^ (30 * ds.length) = q ∧ 0 ≤ m ∧ Digs ds ∧ (m = 0 → ds.getD (ds.length - 1) 0 ≠ 0))
      (fun v _ => 3000 - slen v)
    case atStart =>
      refine ⟨[], q, om, HOW.out, HR8.out.1, fun b hb => ⟨hom2 b hb, fun h => ?_⟩, HR8.out.2.1, HR8.out.2.2, by simp [val], Int.le_of_lt hq0, fun d hd => by simp at hd, fun h => by omega⟩
      have h1 := HLT.out.1 b hb
      have h2 := HLT.out.2.2.1 b h
      omega
    case round =>
      obtain ⟨ds, m, om', hown, hi6, hsep, hik, h2r, hval, hm0, hdg, hnz⟩ := hrel
      obtain ⟨A6, c6, rfl⟩ := own_slice hown
      have HV := Lib.hid hval
      have HN := Lib.hid hnz
      have HO := Lib.hid hown
      have HSP := Lib.hid hsep
      clear hval hnz hown hsep
      by_cases hmp : 0 < m
      · go_wp2_with fail
        refine (sign_pos _ om' m wr hi6 hmp).mono ?_
        rintro en w9 ⟨rfl, rfl⟩
        go_wp2_with fail
        obtain ⟨w10, hw10⟩ : ∃ w10 : World, w10 = w9.alloc (.cells #[.bool false, .slice none 0 0] 76) := ⟨_, rfl⟩
        rw [← hw10]
        have ho10 : Only w9 w10 (fun _ => False) := by rw [hw10]; exact (Only.refl _ _).alloc _
        have hn10 : IsInt w10 w9.heap.size none 0 := by
          obtain ⟨o, h, _, h2⟩ := New.alloc w9
          rw [hw10]
          exact ⟨_, by simpa using heap_alloc_new w9 (.cells #[.bool false, .slice none 0 0] 76), .nil⟩
        have hg9 : w2.heap.size < w9.heap.size := hi6.lt
        have hgk9 : gk < w9.heap.size := hik.lt
        have hb9 := hi6.lt'
        have hk9 := hik.lt'
        clear hw10
        have hpw : (0 : Int) < 2 ^ (30 * ds.length) := Int.pow_pos (by omega)
        have hvd := (val_range ds hdg).1
        have hmq : m ≤ q := by
          have h1 : m * 1 ≤ m * 2 ^ (30 * ds.length) := Int.mul_le_mul_of_nonneg_left (by omega) hm0
          have := HV.out
          omega
        have hfm : Fits m := Fits.le hfq hmq
        refine (and_int w9.heap.size w2.heap.size gk none om' ok 0 m 1073741823 w10 hn10 (hi6.only ho10 (fun h => h) (fun _ _ h => h)) (hik.only ho10 (fun h => h) (fun _ _ h => h)) hmp rfl hfm).mono ?_
        rintro en w11 ⟨rfl, oz, hz11, ho11, hoz⟩
        have ho911 : Only w9 w11 (fun _ => False) := (ho10).step ho11 (by rintro i hi (h | h); omega; cases h)
        clear ho10 ho11 hn10
        go_wp2_with fail
        refine (int64_int _ oz (m % 1073741824) w11 hz11 (by omega) (by omega)).mono ?_
        rintro en w12 ⟨rfl, rfl⟩
        have hown12 := own_move HO.out (w1 := w12) (fun b hb => ho911.kept b (own_lt HO.out b hb) (fun h => h))
        have hB12 : Below w2.heap.size w2 w12 := (h2r.trans ho911).below (Nat.le_refl _) (fun _ h => h.elim)
        have hi12 := hi6.only ho911 (fun h => h) (fun _ _ h => h)
        have hk12 := hik.only ho911 (fun h => h) (fun _ _ h => h)
        have hlen : ds.length < 3000 := by
          have h1 : 1 * 2 ^ (30 * ds.length) ≤ m * 2 ^ (30 * ds.length) := Int.mul_le_mul_of_nonneg_right (by omega) (Int.le_of_lt hpw)
          have h2 := HV.out
          have h3 := HK.out.1
          have := pow_lt (a := 30 * ds.length) (b := k) (by omega)
          omega
        clear hpw hvd hmq
        have HN12 := Lib.hid (And.intro hown12 (And.intro hB12 (And.intro hi12 hk12)))
        have hsz12 : w2.heap.size ≤ w12.heap.size := hB12.size
        clear hz11 ho911 hoz hown12 hB12 hi12 hk12
        go_wp2_with (at_builtin; refine print_append_num (w0 := w2) w2.heap.size rfl (.tmp 51) (.tmp 57) 22 3 .i64 8 rfl Tryz.underlying22 int3 (by decide) (.slice A6 ds.length c6) ds (m % 1073741824) rfl rfl HN12.out.1 HN12.out.2.1 ?_ ?_ ?_)
        · omega
        · omega
        · intro v1 w13 hown13 hB13 hg13 hat13
          have hi13 := HN12.out.2.2.1.grown HN12.out.1 hg13
          have hk13 := HN12.out.2.2.2.grown HN12.out.1 hg13
          go_wp2_with fail
          refine (rsh_int _ _ om' om' m m 30 w13 hi13 hi13 hm0 hfm (.inl (by omega)) (by omega)).mono ?_
          rintro en w14 ⟨rfl, o14, hi14, ho14, hoo14⟩
          have hsp := HSP.out
          have hgne : gk ≠ w2.heap.size := by have := HLT.out.2.2.2; have := hsz7; omega
          have hk14 := hk13.keep hi13 ho14 hgne (fun b hb h => (hsp b h).2 hb)
          have hown14 := own_keep hown13 hi13 ho14
          have hlk : ∀ b, ok = some b → b < w13.heap.size := hk13.lt'
          have h213 : Only w2 w13 (fun _ => False) := Only.of_below hB13
          have h214 : Only w2 w14 (fun _ => False) := h213.step ho14 (by
            rintro i hi (h | h)
            · omega
            · have := (hsp i h).1; omega)
          have hs13 : w2.heap.size ≤ w13.heap.size := hB13.size
          have hvs := val_snoc ds (m % 1073741824)
          have HF := Lib.hid hvs
          have e30 : (2 : Int) ^ 30 = 1073741824 := by decide
          rw [e30] at hi14
          clear hvs hsp
          go_wp2_with fail
          go_roundw
          case rel =>
            refine ⟨ds ++ [m % 1073741824], m / 1073741824, o14, by rw [List.length_append, List.length_singleton]; exact hown14, hi14, ?_, hk14, h214, ?_, Int.ediv_nonneg hm0 (by decide), hdg.snoc (Int.emod_nonneg _ (by decide)) (Int.emod_lt_of_pos _ (by decide)), ?_⟩
            · intro b hb
              rcases hoo14 with h | ⟨c, h, h2⟩
              · exact HSP.out b (h ▸ hb)
              · rw [h] at hb; cases hb
                exact ⟨by omega, fun h3 => by have := hlk _ h3; omega⟩
            · rw [HF.out, List.length_append, List.length_singleton, show 30 * (ds.length + 1) = 30 + 30 * ds.length by omega, Int.pow_add, e30, ← Int.mul_assoc, Int.add_assoc, ← Int.add_mul, Int.mul_comm (m / 1073741824), Int.emod_add_mul_ediv]
              exact HV.out
            · intro h0
              rw [List.length_append, List.length_singleton, Nat.add_sub_cancel]
              have : (ds ++ [m % 1073741824]).getD ds.length 0 = m % 1073741824 := by simp [List.getD]
              rw [this]
              omega
          case measure =>
            obtain ⟨A13, c13, rfl⟩ := own_slice hown13
            simp [slen]
            omega
      · have hm00 : m = 0 := by omega
        go_wp2_with fail
        refine (sign_nil _ om' m wr hi6 hm00).mono ?_
        rintro en w9 ⟨rfl, rfl⟩
        have hBr : w9.heap[B]? = _ := (h2r.kept B hlt2 (fun h => h)).trans hB2
        have hB12 : B + 1 < w1.heap.size := by rw [HSZ.out]; omega
        have hRr : w9.heap[B + 1]? = _ := (h2r.kept (B + 1) (Nat.lt_of_lt_of_le hB12 ho2.base.size) (fun h => h)).trans ((ho2.kept (B + 1) hB12 (fun h => h)).trans HR.out)
        have hgr : IsInt w9 g o z := HI.out.only ((ho1.trans ho2).trans h2r) (fun h => h) (fun _ _ h => h)
        have cb0 : w9.cell? ⟨B, 0, none⟩ = some (.pointer (some ⟨g, 0, none⟩)) := blk_cell hBr 0
        have cr0 : w9.cell? ⟨B + 1, 0, none⟩ = some (.bool false) := blk_cell hRr 0
        have cr1 : w9.cell? ⟨B + 1, 1, none⟩ = some (.slice none 0 0) := blk_cell hRr 1
        have cr2 : w9.cell? ⟨B + 1, 2, none⟩ = some (.int .i64 0) := blk_cell hRr 2
        have fr := fun i => blk_frozen hRr i
        have fr0 := fr 0
        have fr1 := fr 1
        have fr2 := fr 2
        clear fr
        go_wp2_with fail
        refine (sign_int g o z w9 hgr).mono ?_
        rintro en w10 ⟨rfl, rfl⟩
        go_wp2_with fail
        have hne : some (B + 1) ≠ (Value.slice A6 ds.length c6).ownBlock := by
          intro h
          obtain ⟨cells, hc⟩ := own_typed HO.out (B + 1) h.symm
          exact blk_ne hRr hc (by decide) rfl
        have h1w : Only w w10 (fun _ => False) := (ho1.trans ho2).trans h2r
        have hwB : w.heap.size ≤ B + 1 := by have := HW.out; omega
        have hw2 : w.heap.size ≤ w2.heap.size := by have := HW.out; omega
        refine bodyPost_ret (results_cell_row rfl _ _ (B + 1) 24 #[.bool (decide (z < 0)), .slice A6 ds.length c6, .int .i64 (e + t)] (0, 0) _ rfl (by simpa using blk_set (blk_set (blk_set hRr 0 (.bool (decide (z < 0)))) 1 (.slice A6 ds.length c6)) 2 (.int .i64 (e + t))) Tryz.underlying24 rfl (by kernel_rfl)) rfl ⟨t, k, q, HS.out.1, HS.out.2.1, hq0, HK.out, ?_, .inr ⟨hk6, by simpa using h2, by simpa using h3, _, ds, rfl, ?_, ?_, hdg, ?_⟩⟩
        · exact ((h1w.set (.inl hwB) _).set (.inl hwB) _).set (.inl hwB) _
        · exact own_weaken (own_setCell (own_setCell (own_setCell HO.out (p := ⟨B + 1, 0, none⟩) hne _) (p := ⟨B + 1, 1, none⟩) hne _) (p := ⟨B + 1, 2, none⟩) hne _) hw2
        · have := HV.out
          rw [hm00, Int.zero_mul] at this
          omega
        · intro _
          exact HN.out hm00
end Go.Proofs.YtflhdplfkpdejaaGreatFmt
namespace Go.Proofs.YtflhdplfkpdejaaGreatFmtW.PrintLast
section
variable {P : Program} {ops : Array Oper} {Q : Exit → Act → World → Prop} {md : Region.Mode} {S : World → Prop} {ds : List Nat}
def Region.reachB (md : Region.Mode) (ops : Array Oper) (i : Nat) : Nat → Nat → Bool
  | 0, _ => false
  | fuel + 1, d => match ops[d]? with
    | some o => o.after.any fun e => Region.binds md e && (e.on == i || Region.reachB md ops i fuel e.on)
    | none => false
def Region.closedB (md : Region.Mode) (ops : Array Oper) (listed : Array Bool) : Bool :=
  (List.range ops.size).all fun j => !listed.getD j false || match ops[j]? with
    | some o => o.after.all fun e => !Region.binds md e || listed.getD e.on false
    | none => true
def Region.lastB (md : Region.Mode) (ops : Array Oper) (listed : Array Bool) (ds : List Nat) (i : Nat) : Bool :=
  ds.all fun d => listed.getD d true || Region.reachB md ops i ops.size d
def ListedClosed (md : Region.Mode) (ops : Array Oper) (listed : Array Bool) : Prop :=
  ∀ j oj, ops[j]? = some oj → listed.getD j false = true → ∀ e ∈ oj.after, Region.binds md e = true → listed.getD e.on false = true
theorem Region.closedB_spec {listed : Array Bool} (h : Region.closedB md ops listed = true) : ListedClosed md ops listed := by
  intro j oj hj hl e he hb
  have hlt : j < ops.size := (Array.getElem?_eq_some_iff.1 hj).1
  have h1 := List.all_eq_true.1 h j (List.mem_range.2 hlt)
  simp only [hl, hj, Bool.not_true, Bool.false_or] at h1
  have h2 := Array.all_eq_true_iff_forall_mem.1 h1 e he
  simpa [hb] using h2
theorem ListedClosed.set {listed : Array Bool} {i : Nat} (h : ListedClosed md ops listed) (hi : i ∈ Region.ready md ops listed) : ListedClosed md ops (listed.setIfInBounds i true) := by
  obtain ⟨_, oi, hoi, hall⟩ := mem_ready.1 hi
  intro j oj hj hl e he hb
  by_cases hij : i = j
  · subst hij
    have : oj = oi := Option.some.inj (hj.symm.trans hoi)
    subst this
    exact getD_set_true (hall e he hb)
  · rw [getD_set_ne false hij] at hl
    exact getD_set_true (h j oj hj hl e he hb)
theorem Region.reach_listed {listed : Array Bool} {i : Nat} (hc : ListedClosed md ops listed) : ∀ (fuel d : Nat), Region.reachB md ops i fuel d = true → listed.getD d false = true → listed.getD i false = true
  | 0, _, h, _ => by simp [Region.reachB] at h
  | fuel + 1, d, h, hl => by
    unfold Region.reachB at h
    cases ho : ops[d]? with
    | none => rw [ho] at h; simp at h
    | some o =>
      rw [ho] at h
      obtain ⟨e, he, h1⟩ := Array.any_eq_true'.1 h
      simp only [Bool.and_eq_true, Bool.or_eq_true, beq_iff_eq] at h1
      have hle := hc d o ho hl e he h1.1
      rcases h1.2 with h2 | h2
      · rw [← h2]; exact hle
      · exact Region.reach_listed hc fuel e.on h2 hle
theorem Region.reach_not_ready {listed : Array Bool} {i d fuel : Nat} (hc : ListedClosed md ops listed) (hr : Region.reachB md ops i fuel d = true) (hun : listed.getD i true = false) : d ∉ Region.ready md ops listed := by
  intro hd
  obtain ⟨_, o, ho, hall⟩ := mem_ready.1 hd
  have hi : listed.getD i false = true := by
    cases fuel with
    | zero => simp [Region.reachB] at hr
    | succ n =>
      unfold Region.reachB at hr
      rw [ho] at hr
      obtain ⟨e, he, h1⟩ := Array.any_eq_true'.1 hr
      simp only [Bool.and_eq_true, Bool.or_eq_true, beq_iff_eq] at h1
      have hle := hall e he h1.1
      rcases h1.2 with h2 | h2
      · rw [← h2]; exact hle
      · exact Region.reach_listed hc n e.on h2 hle
  rcases Nat.lt_or_ge i listed.size with h' | h'
  · simp [h'] at hun hi
    rw [hun] at hi
    cases hi
  · simp [Array.getElem?_eq_none h'] at hun
def wpAnyLast (P : Program) (md : Region.Mode) (ops : Array Oper) (Q : Exit → Act → World → Prop) (S : World → Prop) (ds : List Nat) : Nat → Array Bool → Act → World → Prop
  | 0, listed, a, w => Region.ready md ops listed = [] ∧ Q .normal a w
  | fuel + 1, listed, a, w =>
    (Region.ready md ops listed = [] → Q .normal a w) ∧
    ∀ i ∈ Region.ready md ops listed, wpOp P ops Q i (fun a' w' => (i ∉ ds → S w → S w') ∧ wpAnyLast P md ops Q S ds fuel (listed.setIfInBounds i true) a' w') a w
theorem wpAny_of_last : ∀ (fuel : Nat) (listed : Array Bool) (a : Act) (w : World), wpAnyLast P md ops Q S ds fuel listed a w → wpAny P md ops Q fuel listed a w
  | 0, _, _, _, h => h
  | fuel + 1, _, _, _, h => ⟨h.1, fun i hi => wpOp_mono (fun a' w' h' => wpAny_of_last fuel _ a' w' h'.2) (h.2 i hi)⟩
theorem wpAnyLast_first {i : Nat} {oi : Oper} {v : Value} (hi : ops[i]? = some oi) (hsel : ∀ (j : Nat) (o : Oper) cs b, ops[j]? = some o → o.op ≠ .select cs b)
    (hQ : ∀ c a w, Q (.panic c) (a.put oi.dst v) w → Q (.panic c) a w) (n : Nat) :
    ∀ (fuel : Nat) (listed : Array Bool) (a : Act) (w : World),
      (∀ j oj, ops[j]? = some oj → j ≠ i → listed.getD j true = false → (∀ e ∈ oj.after, Region.binds md e = true → e.on ≠ i) → oi.apart ops oj = true) →
      ListedClosed md ops listed → (∀ d ∈ ds, listed.getD d true = false → Region.reachB md ops i n d = true) →
      i ∈ Region.ready md ops listed → YieldsIf P ops S oi v a → S w →
      wpAnyLast P md ops Q S ds fuel (listed.setIfInBounds i true) (a.put oi.dst v) w → wpAnyLast P md ops Q S ds (fuel + 1) listed a w := by
  intro fuel
  induction fuel with
  | zero =>
    intro listed a w _ _ _ hr hy hS H
    refine ⟨fun h => (by rw [h] at hr; cases hr), fun j hj => ?_⟩
    by_cases hji : j = i
    · subst hji; exact hy.wpOp hi hS ⟨fun _ h => h, H⟩
    · have := ready_mono hj hji
      rw [H.1] at this
      cases this
  | succ fuel ih =>
    intro listed a w hfree hc hd hr hy hS H
    refine ⟨fun h => (by rw [h] at hr; cases hr), fun j hj => ?_⟩
    by_cases hji : j = i
    · subst hji; exact hy.wpOp hi hS ⟨fun _ h => h, H⟩
    · have h1 := H.2 j (ready_mono hj hji)
      obtain ⟨hjun, oj, hoj, hall⟩ := mem_ready.1 hj
      have hiun := (mem_ready.1 hr).1
      have hnot : ∀ e ∈ oj.after, Region.binds md e = true → e.on ≠ i := fun e he hb heq => by
        have h1 := hall e he hb
        rw [heq] at h1
        rcases Nat.lt_or_ge i listed.size with h' | h'
        · simp [h'] at hiun h1; rw [hiun] at h1; cases h1
        · simp [Array.getElem?_eq_none h'] at h1
      have hjd : j ∉ ds := fun hm => Region.reach_not_ready hc (hd j hm hjun) hiun hj
      have h2 := wpOp_putIf hoj (hfree j oj hoj hji hjun hnot) (fun cs b => hsel i oi cs b hi) (fun cs b => hsel j oj cs b hoj) hQ hy h1
      have hfree' : ∀ k ok, ops[k]? = some ok → k ≠ i → (listed.setIfInBounds j true).getD k true = false →
          (∀ e ∈ ok.after, Region.binds md e = true → e.on ≠ i) → oi.apart ops ok = true := fun k ok hk hki hun hno => by
        refine hfree k ok hk hki ?_ hno
        by_cases hjk : j = k
        · subst hjk; exact hjun
        · rw [getD_set_ne true hjk] at hun; exact hun
      have hd' : ∀ d ∈ ds, (listed.setIfInBounds j true).getD d true = false → Region.reachB md ops i n d = true := fun d hm hun => by
        refine hd d hm ?_
        by_cases hjk : j = d
        · subst hjk; exact hjun
        · rw [getD_set_ne true hjk] at hun; exact hun
      refine wpOp_mono (fun a' w' h3 => ⟨h3.2.1, ih (listed.setIfInBounds j true) a' w' hfree' (hc.set hj) hd' (ready_mono hr (Ne.symm hji)) h3.1 (h3.2.1 hjd hS) ?_⟩) h2
      rw [Array.setIfInBounds_comm _ _ hji]
      exact h3.2.2
theorem wpAnyLast_any {i : Nat} {oi : Oper} {v : Value} (hi : ops[i]? = some oi) (hsel : ∀ (j : Nat) (o : Oper) cs b, ops[j]? = some o → o.op ≠ .select cs b)
    (hQ : ∀ c a w, Q (.panic c) (a.put oi.dst v) w → Q (.panic c) a w) :
    ∀ (fuel : Nat) (listed : Array Bool) (a : Act) (w : World),
      (∀ j oj, ops[j]? = some oj → j ≠ i → listed.getD j true = false → (∀ e ∈ oj.after, Region.binds md e = true → e.on ≠ i) → oi.apart ops oj = true) →
      i ∈ Region.ready md ops listed → Yields P ops oi v a →
      wpAnyLast P md ops Q S ds fuel (listed.setIfInBounds i true) (a.put oi.dst v) w → wpAnyLast P md ops Q S ds (fuel + 1) listed a w := by
  intro fuel
  induction fuel with
  | zero =>
    intro listed a w _ hr hy H
    refine ⟨fun h => (by rw [h] at hr; cases hr), fun j hj => ?_⟩
    by_cases hji : j = i
    · subst hji; exact (hy.yieldsIf (S := fun _ => True)).wpOp hi trivial ⟨fun _ h => h, H⟩
    · have := ready_mono hj hji
      rw [H.1] at this
      cases this
  | succ fuel ih =>
    intro listed a w hfree hr hy H
    refine ⟨fun h => (by rw [h] at hr; cases hr), fun j hj => ?_⟩
    by_cases hji : j = i
    · subst hji; exact (hy.yieldsIf (S := fun _ => True)).wpOp hi trivial ⟨fun _ h => h, H⟩
    · have h1 := H.2 j (ready_mono hj hji)
      obtain ⟨hjun, oj, hoj, hall⟩ := mem_ready.1 hj
      have hiun := (mem_ready.1 hr).1
      have hnot : ∀ e ∈ oj.after, Region.binds md e = true → e.on ≠ i := fun e he hb heq => by
        have h1 := hall e he hb
        rw [heq] at h1
        rcases Nat.lt_or_ge i listed.size with h' | h'
        · simp [h'] at hiun h1; rw [hiun] at h1; cases h1
        · simp [Array.getElem?_eq_none h'] at h1
      have h2 := wpOp_put hoj (hfree j oj hoj hji hjun hnot) (fun cs b => hsel i oi cs b hi) (fun cs b => hsel j oj cs b hoj) hQ hy h1
      have hfree' : ∀ k ok, ops[k]? = some ok → k ≠ i → (listed.setIfInBounds j true).getD k true = false →
          (∀ e ∈ ok.after, Region.binds md e = true → e.on ≠ i) → oi.apart ops ok = true := fun k ok hk hki hun hno => by
        refine hfree k ok hk hki ?_ hno
        by_cases hjk : j = k
        · subst hjk; exact hjun
        · rw [getD_set_ne true hjk] at hun; exact hun
      refine wpOp_mono (fun a' w' h3 => ⟨h3.2.1, ih (listed.setIfInBounds j true) a' w' hfree' (ready_mono hr (Ne.symm hji)) h3.1 ?_⟩) h2
      rw [Array.setIfInBounds_comm _ _ hji]
      exact h3.2.2
theorem wpAnyLast_take {i : Nat} {oi : Oper} {v : Value} {fuel : Nat} {listed : Array Bool} {a : Act} {w : World} (hi : ops[i]? = some oi)
    (hs : Region.noSelect ops = true) (hf : Region.free md ops listed i = true) (hr : (Region.ready md ops listed).contains i = true)
    (hc : Region.closedB md ops listed = true) (hl : Region.lastB md ops listed ds i = true)
    (hQ : ∀ c a w, Q (.panic c) (a.put oi.dst v) w → Q (.panic c) a w) (hy : YieldsIf P ops S oi v a) (hS : S w)
    (h : wpAnyLast P md ops Q S ds fuel (listed.setIfInBounds i true) (a.put oi.dst v) w) : wpAnyLast P md ops Q S ds (fuel + 1) listed a w :=
  wpAnyLast_first hi (Region.noSelect_spec hs) hQ ops.size fuel listed a w (Region.free_spec hi hf) (Region.closedB_spec hc)
    (fun d hm hun => by have := List.all_eq_true.1 hl d hm; rw [hun] at this; simpa using this) (by simpa using hr) hy hS h
theorem wpAnyLast_all {rs : List Nat} {fuel : Nat} {listed : Array Bool} {a : Act} {w : World} (hr : Region.ready md ops listed = rs) (hne : rs ≠ [])
    (h : ∀ i ∈ rs, wpOp P ops Q i (fun a' w' => (i ∉ ds → S w → S w') ∧ wpAnyLast P md ops Q S ds fuel (listed.setIfInBounds i true) a' w') a w) : wpAnyLast P md ops Q S ds (fuel + 1) listed a w :=
  ⟨fun h0 => absurd (hr ▸ h0) hne, hr ▸ h⟩
theorem wpAnyLast_done {listed : Array Bool} {a : Act} {w : World} (hr : Region.ready md ops listed = []) (h : Q .normal a w) :
    ∀ fuel, wpAnyLast P md ops Q S ds fuel listed a w
  | 0 => ⟨hr, h⟩
  | _ + 1 => ⟨fun _ => h, by rw [hr]; simp⟩
theorem wp_region_last {id : Nat} {a : Act} {w : World} (hm : P.follows .mixedOrders = true)
    (h : wpAnyLast P .any ops Q S ds ops.size (Array.replicate ops.size false) a { w with drawn := w.drawn + 1 }) : (Code.region id ops true).wp P Q a w :=
  wp_region_any hm (wpAny_of_last _ _ _ _ h)
end
section
variable {P : Program} {ops : Array Oper} {Q : Exit → Act → World → Prop} {md : Region.Mode} {S : World → Prop} {ds : List Nat}
def AllReadyL (P : Program) (md : Region.Mode) (ops : Array Oper) (Q : Exit → Act → World → Prop) (S : World → Prop) (ds : List Nat) (fuel : Nat) (listed : Array Bool) (a : Act) (w : World) (rs : List Nat) : Prop :=
  ∀ i ∈ rs, wpOp P ops Q i (fun a' w' => (i ∉ ds → S w → S w') ∧ wpAnyLast P md ops Q S ds fuel (listed.setIfInBounds i true) a' w') a w
theorem AllReadyL.nil {fuel : Nat} {listed : Array Bool} {a : Act} {w : World} : AllReadyL P md ops Q S ds fuel listed a w [] := fun _ h => by cases h
theorem AllReadyL.cons {fuel : Nat} {listed : Array Bool} {a : Act} {w : World} {i : Nat} {o : Oper} {rs : List Nat} (ho : ops[i]? = some o) (hd : i ∉ ds)
    (h : ∀ K' : Act → World → Prop, Shut (∀ a w, S w → (S w → wpAnyLast P md ops Q S ds fuel (listed.setIfInBounds i true) a w) → K' a w) → if Region.wanted o (yielded ops a.tmps) = true then Oper.wp P o a w K' Q else K' (a.put o.dst undef) w)
    (hs : AllReadyL P md ops Q S ds fuel listed a w rs) : AllReadyL P md ops Q S ds fuel listed a w (i :: rs) := fun j hj => by
  rcases List.mem_cons.1 hj with rfl | hj
  · exact wpOp_step ho (fun K' hK => h K' (fun a w hS hW => hK a w ⟨fun _ _ => hS, hW hS⟩))
  · exact hs j hj
theorem AllReadyL.cons_last {fuel : Nat} {listed : Array Bool} {a : Act} {w : World} {i : Nat} {o : Oper} {rs : List Nat} (ho : ops[i]? = some o) (hd : i ∈ ds)
    (h : ∀ K' : Act → World → Prop, Shut (∀ a w, wpAnyLast P md ops Q S ds fuel (listed.setIfInBounds i true) a w → K' a w) → if Region.wanted o (yielded ops a.tmps) = true then Oper.wp P o a w K' Q else K' (a.put o.dst undef) w)
    (hs : AllReadyL P md ops Q S ds fuel listed a w rs) : AllReadyL P md ops Q S ds fuel listed a w (i :: rs) := fun j hj => by
  rcases List.mem_cons.1 hj with rfl | hj
  · exact wpOp_step ho (fun K' hK => h K' (fun a w hW => hK a w ⟨fun hn => absurd hd hn, hW⟩))
  · exact hs j hj
theorem wpAnyLast_ready {rs : List Nat} {fuel : Nat} {listed : Array Bool} {a : Act} {w : World} (hr : Region.ready md ops listed = rs) (hne : rs ≠ [])
    (h : AllReadyL P md ops Q S ds fuel listed a w rs) : wpAnyLast P md ops Q S ds (fuel + 1) listed a w := wpAnyLast_all hr hne h
theorem start_ {id n : Nat} {a : Act} {w : World} (l : Array Bool) (hm : P.follows .mixedOrders = true) (hn : ops.size = n) (hl : Array.replicate n false = l) (hS : S w.drew)
    (h : S w.drew → wpAnyLast P .any ops Q S ds n l a w.drew) : (Code.region id ops true).wp P Q a w := by
  subst hn
  subst hl
  exact wp_region_last hm (h hS)
def takeB (md : Region.Mode) (ops : Array Oper) (ds : List Nat) (l l' : Array Bool) (i : Nat) : Bool :=
  Region.noSelect ops && Region.free md ops l i && (Region.ready md ops l).contains i && Region.closedB md ops l && Region.lastB md ops l ds i && (l.setIfInBounds i true == l')
theorem take_ {i : Nat} {N : Option Tmp} {oi : Oper} {v : Value} {fuel : Nat} {l : Array Bool} {a : Act} {w : World} (l' : Array Bool) (hi : ops[i]? = some oi) (hN : oi.dst = N) (hc : takeB md ops ds l l' i = true)
    (hQ : ∀ c a w, Q (.panic c) (a.put oi.dst v) w → Q (.panic c) a w) (hy : YieldsIf P ops S oi v a) (hS : S w) {a' : Act} (ha : a.put N v = a')
    (h : wpAnyLast P md ops Q S ds fuel l' a' w) : wpAnyLast P md ops Q S ds (fuel + 1) l a w := by
  subst ha
  subst hN
  simp only [takeB, Bool.and_eq_true, beq_iff_eq] at hc
  obtain ⟨⟨⟨⟨⟨h1, h2⟩, h3⟩, h4⟩, h5⟩, h6⟩ := hc
  subst h6
  exact wpAnyLast_take hi h1 h2 h3 h4 h5 hQ hy hS h
def anyB (md : Region.Mode) (ops : Array Oper) (l l' : Array Bool) (i : Nat) : Bool :=
  Region.noSelect ops && Region.free md ops l i && (Region.ready md ops l).contains i && (l.setIfInBounds i true == l')
theorem pure_ {i : Nat} {N : Option Tmp} {oi : Oper} {v : Value} {fuel : Nat} {l : Array Bool} {a : Act} {w : World} (l' : Array Bool) (hi : ops[i]? = some oi) (hN : oi.dst = N) (hc : anyB md ops l l' i = true)
    (hQ : ∀ c a w, Q (.panic c) (a.put oi.dst v) w → Q (.panic c) a w) (hy : Yields P ops oi v a) {a' : Act} (ha : a.put N v = a')
    (h : wpAnyLast P md ops Q S ds fuel l' a' w) : wpAnyLast P md ops Q S ds (fuel + 1) l a w := by
  subst ha
  subst hN
  simp only [anyB, Bool.and_eq_true, beq_iff_eq] at hc
  obtain ⟨⟨⟨h1, h2⟩, h3⟩, h6⟩ := hc
  subst h6
  exact wpAnyLast_any hi (Region.noSelect_spec h1) hQ fuel l a w (Region.free_spec hi h2) (by simpa using h3) hy h
theorem done_ {l : Array Bool} {a : Act} {w : World} {n : Nat} (hr : (Region.ready md ops l == []) = true) (h : Q .normal a w) : wpAnyLast P md ops Q S ds n l a w := wpAnyLast_done (by simpa using hr) h n
theorem enters_ {f : FuncId} {fn : Func} (hf : P.funcs[f]? = some fn) (hname : (fn.name == "runtime.NumGoroutine") = false) (hb : fn.body.isSome = true) (args : Array Value) (w : World) : (callFunc f args).run P w = .ok (.enter f args) w := by
  have h1 : fn.name ≠ "runtime.NumGoroutine" := by simpa using hname
  obtain ⟨c, hc⟩ := Option.isSome_iff_exists.1 hb
  simp [callFunc, hf, h1, hc]
theorem goesL_ {rest : List Oper} {oi : Oper} {a : Act} {w : World} (N : Option Tmp) (hd : oi.dst = N) (hg : oi.guard = none) {f : FuncId} {fn : Func} {ags : Array Operand} {ts : Array TypeId} (hf : P.funcs[f]? = some fn) (hname : (fn.name == "runtime.NumGoroutine") = false) (hb : fn.body.isSome = true) (args : Array Value)
    (hop : oi.op = .call { callee := .value (.func f), args := ags, argTypes := ts }) (hargs : ags.map a.eval = args)
    (h : Calls P f args w fun e w' => ∃ v, e = .returned v ∧ wpList P ops Q rest (a.put N v) w') : wpList P ops Q (oi :: rest) a w := by
  refine wpList_plain hg fun K hK => ?_
  have he := enters_ hf hname hb args w
  have hrun : (execOp a.eval oi).run P w = .ok (.enter f args) w := by
    unfold execOp
    simp [hop, resolve, Deferred.ofValue, invoke, Act.eval, hargs, he]
  unfold Oper.wp
  rw [hrun, Oper.upon_enter]
  refine h.mono fun e w'' hh => ?_
  obtain ⟨v, rfl, hk⟩ := hh
  subst hd
  exact hK _ _ hk
theorem i64_w (n : Int) : IntKind.i64.wrap n = Go.RowKit.wrap64 n := by unfold Go.RowKit.wrap64; exact IntKind.wrap_i64 n
theorem i32_w (n : Int) : IntKind.i32.wrap n = Go.RowKit.wrap32 n := by unfold Go.RowKit.wrap32; exact IntKind.wrap_i32 n
end
end Go.Proofs.YtflhdplfkpdejaaGreatFmtW.PrintLast
namespace Go.Proofs.YtflhdplfkpdejaaGreatFmtW.PrintLast
open Go.Proofs.YtflhdplfkpdejaaGreatFmtW.PrintWords (Aside0)
section
variable {md : Region.Mode} {ops : Array Oper} {T : Bool × List (List Nat × List Nat)} {l l' li lj lk : Array Bool} {ds : List Nat} {i j k : Nat}
end
end Go.Proofs.YtflhdplfkpdejaaGreatFmtW.PrintLast
namespace Go.Proofs.YtflhdplfkpdejaaGreatFmtW.PrintLast
section
variable {P : Program} {ops : Array Oper} {Q : Exit → Act → World → Prop} {md : Region.Mode} {S : World → Prop} {ds : List Nat} {T : Bool × List (List Nat × List Nat)}
end
end Go.Proofs.YtflhdplfkpdejaaGreatFmtW.PrintLast
namespace Go.Proofs.YtflhdplfkpdejaaGreatFmtW.PrintWords
open Go.RowKit
namespace Kd
section
variable {α : Type} {d : Kd α} {e base g o n cap : Nat} {ok okp : Nat → Prop} {w W : World} {v : Value} {xs : List α}
end
section
variable {α : Type} {enc : α → Value} {h1 : ∀ x, (enc x).oneCell' = true} {e base g o n cap : Nat} {ok : Nat → Prop} {W : World} {xs : List α}
end
end Kd
end Go.Proofs.YtflhdplfkpdejaaGreatFmtW.PrintWords
namespace Go.Proofs.YtflhdplfkpdejaaGreatFmtW.PrintWords
open Go.RowKit
namespace Kd
def tag {α : Type} (f : Nat → Nat) (d : Kd α) : Kd (α × Nat) where
  sz := d.sz
  E := d.E
  K := fun w x cs => d.K w x.1 cs
  M := fun w base ok x cs => d.M w base (fun k => ok k ∧ f k = x.2) x.1 cs
  K_len := fun h => d.K_len h
  K_one := fun h => d.K_one h
  K_below := fun hb h => d.K_below hb h
  K_of_M := fun h => d.K_of_M h
  M_mono := fun hok h => d.M_mono (fun k hk => ⟨hok k hk.1, hk.2⟩) h
  M_bound := fun h => d.M_mono (fun _ hk => ⟨⟨hk.1.1, hk.2⟩, hk.1.2⟩) (d.M_bound h)
  M_move := fun hm h => d.M_move (fun k hk => hm k hk.1) h
  M_lower := fun hb h => d.M_lower hb h
def bare {α : Type} (d : Kd α) : Kd α where
  sz := d.sz
  E := d.E
  K := d.K
  M := fun w base _ x cs => d.M w base (fun _ => False) x cs
  K_len := fun h => d.K_len h
  K_one := fun h => d.K_one h
  K_below := fun hb h => d.K_below hb h
  K_of_M := fun h => d.K_of_M h
  M_mono := fun _ h => h
  M_bound := fun h => h
  M_move := fun _ h => d.M_move (fun _ hk => hk.elim) h
  M_lower := fun hb h => d.M_lower hb h
def raw (sz : Nat) : Kd (List Value) where
  sz := sz
  E := []
  K := fun _ x cs => cs = x ∧ cs.length = sz ∧ ∀ u ∈ cs, u.oneCell' = true
  M := fun _ _ _ x cs => cs = x ∧ cs.length = sz ∧ ∀ u ∈ cs, u.oneCell' = true
  K_len := fun h => h.2.1
  K_one := fun h => h.2.2
  K_below := fun _ h => h
  K_of_M := fun h => h
  M_mono := fun _ h => h
  M_bound := fun h => h
  M_move := fun _ h => h
  M_lower := fun _ h => h
def S {α : Type} (d : Kd α) (e : Nat) (w : World) (base : Nat) (ok : Nat → Prop) (v : Value) (xs : List α) : Prop := ∃ f, (tag f d).R e w base ok v xs.zipIdx
section
variable {α β : Type} {d : Kd α} {d' : Kd β} {e e' : Nat} {w w1 W : World} {base b : Nat} {ok ok' okv oku : Nat → Prop} {u v : Value} {xs : List α} {ys : List β}
end
section
variable {α β : Type} {d : Kd α} {d' : Kd β} {e e' g : Nat} {w w1 W : World} {base b : Nat} {ok ok' okv oku : Nat → Prop} {u v : Value} {xs : List α} {ys : List β}
end
section
open Classical in
variable {P : Program} {ops : Array Oper} {rest : List Oper} {o : Oper} {a : Act} {Q : Exit → Act → World → Prop} {Kc : Act → World → Prop} {α : Type}
end
def gap {α : Type} (f : Nat → Nat) (d : Kd α) (i : Nat) (c : List Value) : Kd (α × Nat) where
  sz := d.sz
  E := d.E
  K := fun w x cs => (x.2 = i → cs = c ∧ cs.length = d.sz ∧ ∀ u ∈ cs, u.oneCell' = true) ∧ (x.2 ≠ i → d.K w x.1 cs)
  M := fun w base ok x cs => (x.2 = i → cs = c ∧ cs.length = d.sz ∧ ∀ u ∈ cs, u.oneCell' = true) ∧ (x.2 ≠ i → d.M w base (fun k => ok k ∧ f k = x.2) x.1 cs)
  K_len := fun {w x cs} h => by
    by_cases hx : x.2 = i
    · exact (h.1 hx).2.1
    · exact d.K_len (h.2 hx)
  K_one := fun {w x cs} h => by
    by_cases hx : x.2 = i
    · exact (h.1 hx).2.2
    · exact d.K_one (h.2 hx)
  K_below := fun hb h => ⟨h.1, fun hx => d.K_below hb (h.2 hx)⟩
  K_of_M := fun h => ⟨h.1, fun hx => d.K_of_M (h.2 hx)⟩
  M_mono := fun hok h => ⟨h.1, fun hx => d.M_mono (fun k hk => ⟨hok k hk.1, hk.2⟩) (h.2 hx)⟩
  M_bound := fun h => ⟨h.1, fun hx => d.M_mono (fun _ hk => ⟨⟨hk.1.1, hk.2⟩, hk.1.2⟩) (d.M_bound (h.2 hx))⟩
  M_move := fun hm h => ⟨h.1, fun hx => d.M_move (fun k hk => hm k hk.1) (h.2 hx)⟩
  M_lower := fun hb h => ⟨h.1, fun hx => d.M_lower hb (h.2 hx)⟩
def H {α : Type} (d : Kd α) (e : Nat) (w : World) (base : Nat) (ok : Nat → Prop) (v : Value) (xs : List α) (i : Int) (oki : Nat → Prop) (c : List Value) : Prop :=
  (∀ k, oki k → ok k) ∧ ∃ f, (gap f d i.toNat c).R e w base (fun k => ok k ∧ ¬ oki k) v xs.zipIdx
section
variable {α β : Type} {d : Kd α} {e e' g n cap : Nat} {w w1 W : World} {base : Nat} {ok ok' oki okp : Nat → Prop} {u v : Value} {xs : List α} {i : Int} {c : List Value}
open Classical in
end
section
variable {P : Program} {ops : Array Oper} {rest : List Oper} {o : Oper} {a : Act} {Q : Exit → Act → World → Prop} {α : Type}
end
end Kd
end Go.Proofs.YtflhdplfkpdejaaGreatFmtW.PrintWords
namespace Go.Proofs.YtflhdplfkpdejaaGreatFmtW.PrintWords
open Go.RowKit
namespace Kd
section
variable {α : Type} {n : Nat} {d : Kd α} {hs : 0 < d.sz} {w : World} {base : Nat} {ok : Nat → Prop} {xs : List α} {cs : List Value}
end
section
variable {α : Type} {n : Nat} {enc : α → Value} {h1 : ∀ x, (enc x).oneCell' = true} {hs : 0 < (scalar enc h1).sz} {w : World} {base : Nat} {ok : Nat → Prop} {xs : List α} {cs : List Value}
end
end Kd
end Go.Proofs.YtflhdplfkpdejaaGreatFmtW.PrintWords
namespace Go.Proofs.YtflhdplfkpdejaaGreatFmtW.PrintWords
open Go.RowKit
section
variable {P : Program}
end
namespace Kd
section
variable {P : Program} {ops : Array Oper} {rest : List Oper} {o : Oper} {a : Act} {Q : Exit → Act → World → Prop} {Kc : Act → World → Prop} {α : Type}
end
section
variable {α : Type} {d : Kd α} {e : Nat} {w : World} {base : Nat} {ok : Nat → Prop} {v : Value} {xs : List α}
end
section
variable {P : Program} {ops : Array Oper} {rest : List Oper} {o : Oper} {a : Act} {Q : Exit → Act → World → Prop} {Kc : Act → World → Prop} {α : Type}
end
end Kd
end Go.Proofs.YtflhdplfkpdejaaGreatFmtW.PrintWords
namespace Go.Proofs.YtflhdplfkpdejaaGreatFmtW.PrintWords
open Go.RowKit
namespace Kd
structure Heap {α : Type} (d : Kd α) : Prop where
  K : ∀ {w w1 : World} {x : α} {cs : List Value}, (∀ k, k < w.heap.size → w1.heap[k]? = w.heap[k]?) → d.K w x cs → d.K w1 x cs
theorem cell_heap {w w1 : World} (hb : ∀ k, k < w.heap.size → w1.heap[k]? = w.heap[k]?) {a : Addr} {v : Value} (h : w.cell? a = some v) : w1.cell? a = some v := by
  have := hb a.block (World.block_lt_of_cell? w a h)
  simpa [World.cell?, this] using h
theorem Heap.C {α : Type} {d : Kd α} (hd : Heap d) {w w1 : World} {A : Option Addr} {n : Nat} {xs : List α} (hb : ∀ k, k < w.heap.size → w1.heap[k]? = w.heap[k]?) (h : d.C w A n xs) : d.C w1 A n xs :=
  ⟨h.1, h.2.1, fun hn => by
    obtain ⟨ad, e, hc⟩ := h.2.2 hn
    refine ⟨ad, e, fun j p hj => ?_⟩
    obtain ⟨c, hs, hr, hcell⟩ := hc j p hj
    exact ⟨c, hs, hd.K hb hr, fun i u hu => cell_heap hb (hcell i u hu)⟩⟩
section
variable {α : Type} {d : Kd α} {e base g n c : Nat} {ok : Nat → Prop} {w w0 W : World} {A : Option Addr} {xs : List α}
end
end Kd
end Go.Proofs.YtflhdplfkpdejaaGreatFmtW.PrintWords
namespace Go.Proofs.YtflhdplfkpdejaaGreatFmtW.PrintWords
open Go.RowKit
def Kept (w W : World) (S : Nat → Prop) : Prop := w.heap.size ≤ W.heap.size ∧ ∀ i, i < w.heap.size → ¬ S i → W.heap[i]? = w.heap[i]?
section
variable {w W W2 : World} {S S2 S' : Nat → Prop}
theorem Kept.refl (w : World) (S : Nat → Prop) : Kept w w S := ⟨Nat.le_refl _, fun _ _ _ => rfl⟩
theorem Kept.of_below (h : Below w.heap.size w W) (S : Nat → Prop) : Kept w W S := ⟨h.size, fun i hi _ => h.block i hi⟩
theorem Kept.mono (h : Kept w W S) (hs : ∀ k, S k → S' k) : Kept w W S' := ⟨h.1, fun i hi hn => h.2 i hi (fun hk => hn (hs i hk))⟩
theorem Kept.then_ (h : Kept w W S) (k : Kept W W2 S2) (hs : ∀ k, S2 k → S k ∨ w.heap.size ≤ k) : Kept w W2 S :=
  ⟨Nat.le_trans h.1 k.1, fun i hi hn => (k.2 i (Nat.lt_of_lt_of_le hi h.1) (fun h2 => (hs i h2).elim hn (fun h3 => by omega))).trans (h.2 i hi hn)⟩
theorem Kept.of_grown {row : Option Nat} (hg : W.grownBy W2 row) (h : Kept w W S) (hr : ∀ k, row = some k → S k ∨ w.heap.size ≤ k) : Kept w W2 S :=
  h.then_ (S2 := fun k => row = some k) ⟨hg.size, fun i hi hn => hg.block i hi (fun he => hn he.symm)⟩ hr
theorem Kept.below (h : Kept w W S) (hb : Below W.heap.size W W2) : Kept w W2 S := h.then_ (Kept.of_below hb (fun _ => False)) (fun _ hk => hk.elim)
theorem Kept.alloc (h : Kept w W S) (o : Obj) : Kept w (W.alloc o) S := h.below (below_alloc (Below.refl _ _) o)
theorem Kept.drew (h : Kept w W S) : Kept w W.drew S := h
theorem Kept.drewN (h : Kept w W S) (m : Nat) : Kept w (W.drewN m) S := h
theorem Kept.setCell (h : Kept w W S) {p : Addr} (hp : S p.block ∨ w.heap.size ≤ p.block) (u : Value) : Kept w (W.setCell p u) S :=
  h.then_ (S2 := fun k => k = p.block) ⟨by simp [World.setCell], fun i _ hn => Below.heap_setCell W p u i hn⟩ (fun k hk => by rw [hk]; exact hp)
theorem Kept.keep {g : Nat} (h : KeepBut w W g none) (k : Kept W W2 S2) (hs : ∀ k, S2 k → w.heap.size ≤ k) : KeepBut w W2 g none :=
  ⟨Nat.le_trans h.1 k.1, fun i hi hg hr => (k.2 i (Nat.lt_of_lt_of_le hi h.1) (fun h2 => by have := hs i h2; omega)).trans (h.2 i hi hg hr)⟩
end
namespace Kd
section
variable {α : Type} {d : Kd α} {e base n c : Nat} {ok oki S S2 : Nat → Prop} {w w0 W W1 W2 : World} {v : Value} {A : Option Addr} {xs : List α} {i : Int} {cs : List Value}
end
end Kd
end Go.Proofs.YtflhdplfkpdejaaGreatFmtW.PrintWords
namespace Go.Proofs.YtflhdplfkpdejaaGreatFmtW.PrintWords
open Go.RowKit
def Foot (P : World → Prop) (W : World) (ok : Nat → Prop) : Prop := ∀ W' : World, (∀ k, ok k → k < W.heap.size → W'.heap[k]? = W.heap[k]?) → P W'
theorem heap_lt {W W1 : World} {k : Nat} (h : W1.heap[k]? = W.heap[k]?) (hlt : k < W.heap.size) : k < W1.heap.size := by
  rw [Array.getElem?_eq_getElem hlt] at h
  exact (Array.getElem?_eq_some_iff.1 h).1
namespace Foot
variable {P Q : World → Prop} {W W1 : World} {ok ok' : Nat → Prop}
theorem now (h : Foot P W ok) : P W := h W (fun _ _ _ => rfl)
theorem mono (h : Foot P W ok) (hok : ∀ k, ok k → ok' k) : Foot P W ok' := fun W' hW => h W' (fun k hk hlt => hW k (hok k hk) hlt)
theorem bound (h : Foot P W ok) : Foot P W (fun k => ok k ∧ k < W.heap.size) := fun W' hW => h W' (fun k hk hlt => hW k ⟨hk, hlt⟩ hlt)
theorem step (h : Foot P W ok) (hm : ∀ k, ok k → k < W.heap.size → W1.heap[k]? = W.heap[k]?) : Foot P W1 ok := fun W' hW => h W' (fun k hk hlt => (hW k hk (heap_lt (hm k hk hlt) hlt)).trans (hm k hk hlt))
theorem imp (h : Foot P W ok) (hi : ∀ W', P W' → Q W') : Foot Q W ok := fun W' hW => hi W' (h W' hW)
theorem old (h : Foot P W ok) (hb : Below W.heap.size W W1) : Foot P W1 (fun k => ok k ∧ k < W.heap.size) := (h.bound).step (fun k _ hlt => hb.block k hlt)
end Foot
namespace Kd
def F {α : Type} (d : Kd α) (W : World) (ok : Nat → Prop) (A : Option Addr) (n : Nat) (xs : List α) : Prop := Foot (fun W => d.C W A n xs) W ok
def FK {α : Type} (d : Kd α) (W : World) (ok : Nat → Prop) (x : α) (c : List Value) : Prop := Foot (fun W => d.K W x c) W ok
section
variable {α β : Type} {d : Kd α} {e base n n' cc g N : Nat} {ok ok' okp S : Nat → Prop} {w w0 w1 W W1 : World} {A A' : Option Addr} {u v v1 : Value} {xs : List α} {xs' : List β} {d' : Kd β} {x : α} {c : List Value}
end
end Kd
end Go.Proofs.YtflhdplfkpdejaaGreatFmtW.PrintWords
namespace Go.Proofs.YtflhdplfkpdejaaGreatFmtW.PrintWords
open Go.RowKit
namespace Kd
section
variable {α : Type} {d : Kd α} {e base n cc g : Nat} {ok ok' okp S : Nat → Prop} {w w1 W W1 : World} {A : Option Addr} {u v v1 : Value} {xs : List α} {x : α} {c : List Value}
def N {α : Type} (d : Kd α) (e : Nat) (w : World) (base : Nat) (ok : Nat → Prop) (v : Value) (xs : List α) : Prop :=
  (∀ k, v.ownBlock = some k → ok k) ∧ ∃ rows : List (List Value), rows.length = xs.length ∧ (raw d.sz).R e w base (fun k => some k = v.ownBlock) v rows ∧ ∀ (j : Nat) (x : α) (c : List Value), xs[j]? = some x → rows[j]? = some c → FK d w (fun k => ok k ∧ some k ≠ v.ownBlock) x c
end
end Kd
end Go.Proofs.YtflhdplfkpdejaaGreatFmtW.PrintWords
namespace Go.Proofs.YtflhdplfkpdejaaGreatFmtW.PrintWords
open Go.RowKit
namespace Kd
section
variable {α : Type} {d : Kd α} {W : World} {g n : Nat} {S ok : Nat → Prop} {A : Option Addr} {ad : Addr} {xs : List α}
end
end Kd
end Go.Proofs.YtflhdplfkpdejaaGreatFmtW.PrintWords
namespace Go.Proofs.YtflhdplfkpdejaaGreatFmtW.PrintWords
open Go.RowKit
section
variable {w w' u : World} {m B g : Nat} {o : Obj} {row : Option Nat} {S : Nat → Prop} {a : Addr} {v : Value}
end
namespace Kd
section
variable {α : Type} {d : Kd α} {e base n m : Nat} {ok : Nat → Prop} {w w' : World} {v : Value} {A : Option Addr} {xs : List α}
end
end Kd
end Go.Proofs.YtflhdplfkpdejaaGreatFmtW.PrintWords
namespace Go.Proofs.YtflhdplfkpdejaaGreatFmtW.PrintWords
open Go.RowKit
section
variable {P : Program} {d : Nat} {xs ys : Array Value} {f : Field} {fs : List Field} {a b : Value} {r s : Bool} {w : World}
end
end Go.Proofs.YtflhdplfkpdejaaGreatFmtW.PrintWords
