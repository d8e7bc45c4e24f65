/- Part 9 of the walk: ExB FExactDigits FExactValid FPupillaw2Same. -/
import Derived.Test.YtlfmgdpbjapdjaaGreatFmtBesafterPt08
import Derived.WalkLawsBesides
import Derived.Test.YtlfmgdpbjapdjaaGreatFmtBesafterPt07
namespace Go.Proofs.YtlfmgdpbjapdjaaGreatFmtBesafter
open Go.RowKit Go.Proofs.YtlfmgdpbjapdjaaGreatFmtBesafterW.PrintWords
theorem heap_two (w : World) (a b : Obj) : ((w.alloc a).alloc b).heap[w.heap.size + 1]? = some b := by
  have e : (w.alloc a).heap.size = w.heap.size + 1 := by simp
  rw [← e]
  exact heap_alloc_new _ _
theorem heap_two' (w : World) (a b : Obj) : ((w.alloc a).alloc b).heap[w.heap.size]? = some a :=
  (Below.heap_alloc (w.alloc a) b w.heap.size (by simp)).trans (heap_alloc_new w a)
set_option maxRecDepth 100000 in
set_option maxHeartbeats 4000000 in
theorem told_zero (g : Nat) (o : Option Nat) (e : Int) (w : World) (hi : IsInt w g o 0) :
    Calls Tryz.prog 32 #[.agg #[.pointer (some ⟨g, 0, none⟩), .int .i64 e]] w fun en w' => en = .returned (.agg #[.bool false, .slice none 0 0, .int .i64 0]) ∧ Only w w' (fun _ => False) := by
  have HI := Lib.hid hi
  have HO := Only.refl w (fun _ => False)
  go_enter Tryz.func32, Tryz.ntmps32
  go_wp2_with fail
  refine (sign_int g o 0 _ (HI.out.only ((HO.alloc _).alloc _) (fun h => h) (fun _ _ h => h))).mono ?_
  rintro en w1 ⟨rfl, rfl⟩
  go_wp2_with fail
  exact bodyPost_ret (results_cell_row rfl _ _ (w.heap.size + 1) 24 #[.bool false, .slice none 0 0, .int .i64 0] (0, 0) _ rfl (heap_two w _ _) Tryz.underlying24 rfl (by kernel_rfl)) rfl ⟨rfl, (HO.alloc _).alloc _⟩
def gaveUp (n : Int) : Ending := .panicked [{ v := .iface 73 (.agg #[.int .i64 n]), recovered := false }]
def slen : Value → Nat
  | .slice _ n _ => n
  | _ => 0
theorem Only.of_grown {w w1 : World} {row : Option Nat} (h : w.grownBy w1 row) : Only w w1 (fun k => row = some k) :=
  ⟨⟨h.os, h.tape, h.output, h.size, fun k hk => by omega⟩, fun k hk hs => h.block k hk (fun e => hs e.symm)⟩
theorem Only.of_below {w w1 : World} (h : Below w.heap.size w w1) : Only w w1 (fun _ => False) := ⟨h.mono (Nat.zero_le _), fun k hk _ => h.block k hk⟩
theorem IsNat.typed {w : World} {v : Value} {o : Option Nat} {x : Int} (h : IsNat w v o x) (b : Nat) (hb : o = some b) : ∃ cells, w.heap[b]? = some (.cells cells 110 (0, 0)) := by
  cases h with
  | nil => cases hb
  | own b' n ys x hB hn hm hw hx => cases hb; exact ⟨_, hB⟩
theorem IsInt.grown {w w1 : World} {g : Nat} {o : Option Nat} {z : Int} (h : IsInt w g o z) {base n : Nat} {v : Value} {xs : List Value} (hown : w.ownsRow base 3 1 v n xs) (hg : w.grownBy w1 v.ownBlock) : IsInt w1 g o z := by
  refine h.only (Only.of_grown hg) (fun e => ?_) (fun b hb e => ?_)
  · obtain ⟨cells, hc⟩ := own_typed hown g e
    obtain ⟨v0, h1, _⟩ := h
    exact blk_ne h1 hc (by decide) rfl
  · obtain ⟨cells, hc⟩ := own_typed hown b e
    obtain ⟨v0, _, h2⟩ := h
    obtain ⟨cells', hc'⟩ := h2.typed b hb
    exact blk_ne hc' hc (by decide) rfl
theorem IsInt.keep {w w' : World} {g g2 : Nat} {o o2 : Option Nat} {z z2 : Int} (h : IsInt w g o z) (h2 : IsInt w g2 o2 z2) (ho : Only w w' (fun k => k = g2 ∨ o2 = some k)) (hne : g ≠ g2) (hoo : ∀ b, o = some b → o2 ≠ some b) : IsInt w' g o z := by
  obtain ⟨v, h1, hn⟩ := id h
  obtain ⟨v2, h12, hn2⟩ := id h2
  refine h.only ho ?_ (fun b hb => ?_)
  · rintro (e | e)
    · exact hne e
    · exact hn2.apart h1 e
  · rintro (e | e)
    · exact hn.apart h12 (e ▸ hb)
    · exact hoo b hb e
theorem own_keep {w w' : World} {g2 : Nat} {o2 : Option Nat} {z2 : Int} {base n : Nat} {v : Value} {xs : List Value} (h : w.ownsRow base 3 1 v n xs) (h2 : IsInt w g2 o2 z2) (ho : Only w w' (fun k => k = g2 ∨ o2 = some k)) : w'.ownsRow base 3 1 v n xs := by
  obtain ⟨v2, h12, hn2⟩ := h2
  refine own_move h (fun b hb => ho.kept b (own_lt h b hb) ?_)
  obtain ⟨cells, hc⟩ := own_typed h b hb
  rintro (e | e)
  · subst e; exact blk_ne h12 hc (by decide) rfl
  · obtain ⟨cells', hc'⟩ := hn2.typed b e
    exact blk_ne hc' hc (by decide) rfl
theorem sign_pos (g : Nat) (o : Option Nat) (z : Int) (w : World) (h : IsInt w g o z) (hz : 0 < z) :
    Calls Tryz.prog 38 #[.pointer (some ⟨g, 0, none⟩)] w fun e w' => e = .returned (.int .i64 1) ∧ w' = w := by
  have := sign_int g o z w h
  rw [Int.sign_eq_one_of_pos hz] at this
  exact this
theorem sign_nil (g : Nat) (o : Option Nat) (z : Int) (w : World) (h : IsInt w g o z) (hz : z = 0) :
    Calls Tryz.prog 38 #[.pointer (some ⟨g, 0, none⟩)] w fun e w' => e = .returned (.int .i64 0) ∧ w' = w := by
  subst hz
  exact sign_int g o 0 w h
def Nm (ds : List Int) : Prop := Digs ds ∧ (0 < ds.length → ds.getD (ds.length - 1) 0 ≠ 0)
def Told (w : World) (z e : Int) (en : Ending) (w' : World) : Prop := ∃ (t k : Nat) (q : Int), ((Int.natAbs z : Nat) : Int) = q * 2 ^ t ∧ q % 2 = 1 ∧ 0 < q ∧ BLen q k ∧ Only w w' (fun _ => False) ∧
  (((60000 < k ∨ e + t < -1048576 ∨ 1048576 < e + t) ∧ en = gaveUp 2) ∨
    (k ≤ 60000 ∧ -1048576 ≤ e + t ∧ e + t ≤ 1048576 ∧ ∃ v ds, en = .returned (.agg #[.bool (decide (z < 0)), v, .int .i64 (e + t)]) ∧ w'.ownsRow w.heap.size 3 1 v ds.length (nums .i64 ds) ∧ val ds = q ∧ Nm ds))
theorem val_snoc : ∀ (ds : List Int) (d : Int), val (ds ++ [d]) = val ds + d * 2 ^ (30 * ds.length)
  | [], d => by simp [val]
  | x :: ds, d => by
    rw [List.cons_append, val, val, val_snoc ds d, List.length_cons, show 30 * (ds.length + 1) = 30 + 30 * ds.length by omega, Int.pow_add]
    have e : (2 : Int) ^ 30 = 1073741824 := by decide
    rw [e, Int.mul_add, ← Int.mul_assoc, ← Int.mul_assoc, Int.mul_comm d 1073741824, Int.add_assoc]
theorem Digs.snoc {ds : List Int} (h : Digs ds) {d : Int} (h0 : 0 ≤ d) (h1 : d < 1073741824) : Digs (ds ++ [d]) := by
  intro x hx
  rcases List.mem_append.1 hx with h2 | h2
  · exact h x h2
  · rw [List.mem_singleton.1 h2]; exact ⟨h0, h1⟩
theorem int3 : (Tryz.prog.info? 3).map (fun i => (i.zero, i.size, i.bytes)) = some (some (.int .i64 0), 1, 8) := by kernel_rfl
theorem make_ints (c : Nat) (w : World) (hm : c < 1099511627776) :
    (Instr.makeSlice 22 (.int .i64 0) (.int .i64 (c : Int))).run Tryz.prog w = .ok (.slice (some ⟨w.heap.size, 0, none⟩) 0 c) (w.alloc (.cells (madeCells (Value.int .i64 0).cells c) 3)) := by
  obtain ⟨i, hi, h2⟩ := Option.map_eq_some_iff.1 int3
  simp only [Prod.mk.injEq] at h2
  obtain ⟨hz, hs, hb⟩ := h2
  have := run_make (P := Tryz.prog) w 22 3 i (.int .i64 0) Tryz.underlying22 hi hz .i64 .i64 0 (c : Int) (by omega) (by omega) (by rw [hb]; omega) (by omega)
  rw [this, Int.toNat_natCast, hs, Nat.mul_one]; rfl
set_option maxRecDepth 100000 in
set_option maxHeartbeats 4000000 in
theorem told_some (g : Nat) (o : Option Nat) (z e : Int) (w : World) (hi : IsInt w g o z) (hz : z ≠ 0) (hf : Fits (Int.natAbs z)) (hT : Tab w) (he : -2305843009213693952 ≤ e) (he2 : e ≤ 2305843009213693952) :
    Calls Tryz.prog 32 #[.agg #[.pointer (some ⟨g, 0, none⟩), .int .i64 e]] w (Told w z e) := by
  have hs0 : (z.sign == 0) = false := by rw [beq_eq_false_iff_ne]; intro h; exact hz (Int.sign_eq_zero_iff_zero.1 h)
  have HI := Lib.hid hi
  have HO := Only.refl w (fun _ => False)
  have hH : ∀ a b : Obj, Only w ((w.alloc a).alloc b) (fun _ => False) := fun a b => (HO.alloc a).alloc b
  have HT := Lib.hid hT
  have HZ := Lib.hid hz
  clear hz hT
  go_enter Tryz.func32, Tryz.ntmps32
  go_wp2_with fail
  refine (sign_int g o z _ (HI.out.only (hH _ _) (fun h => h) (fun _ _ h => h))).mono ?_
  rintro en w1 ⟨rfl, rfl⟩
  have hbox := heap_two' w (.cells #[.pointer (some ⟨g, 0, none⟩), .int .i64 e] 44) (.cells #[.bool false, .slice none 0 0, .int .i64 0] 24)
  have hres := heap_two w (.cells #[.pointer (some ⟨g, 0, none⟩), .int .i64 e] 44) (.cells #[.bool false, .slice none 0 0, .int .i64 0] 24)
  have ho1 := hH (.cells #[.pointer (some ⟨g, 0, none⟩), .int .i64 e] 44) (.cells #[.bool false, .slice none 0 0, .int .i64 0] 24)
  have hsz : ((w.alloc (.cells #[.pointer (some ⟨g, 0, none⟩), .int .i64 e] 44)).alloc (.cells #[.bool false, .slice none 0 0, .int .i64 0] 24)).heap.size = w.heap.size + 2 := by simp
  have HB := Lib.hid hbox
  have HR := Lib.hid hres
  have HSZ := Lib.hid hsz
  clear hbox hres hsz hH
  generalize hW : ((w.alloc (.cells #[.pointer (some ⟨g, 0, none⟩), .int .i64 e] 44)).alloc (.cells #[.bool false, .slice none 0 0, .int .i64 0] 24)) = w1 at *
  clear hW
  generalize hB : w.heap.size = B at *
  have HW := Lib.hid hB
  clear hB
  have cb0 : w1.cell? ⟨B, 0, none⟩ = some (.pointer (some ⟨g, 0, none⟩)) := blk_cell HB.out 0
  have cb1 : w1.cell? ⟨B, 1, none⟩ = some (.int .i64 e) := blk_cell HB.out 1
  go_wp2_with fail
  have hi1 := HI.out.only ho1 (fun h => h) (fun _ _ h => h)
  have hT1 : Tab w1 := HT.out.of (ho1.kept _ HT.out.lt (fun h => h))
  refine (tz_int g o z w1 hi1 HZ.out hf hT1).mono ?_
  rintro en w2 ⟨t, rfl, hlow, ht, ho2⟩
  clear cb0 cb1
  have hB2 : w2.heap[B]? = _ := (ho2.kept B (by rw [HSZ.out]; omega) (fun h => h)).trans HB.out
  have cb0 : w2.cell? ⟨B, 0, none⟩ = some (.pointer (some ⟨g, 0, none⟩)) := blk_cell hB2 0
  have cb1 : w2.cell? ⟨B, 1, none⟩ = some (.int .i64 e) := blk_cell hB2 1
  have hlt2 : B < w2.heap.size := blk_lt hB2
  have n1 : ¬ B = w2.heap.size := by omega
  have n2 : ¬ B = w2.heap.size + 1 := by omega
  go_wp2_with fail
  have hi2 := hi1.only ho2 (fun h => h) (fun _ _ h => h)
  obtain ⟨w3, hw3⟩ : ∃ w3 : World, w3 = (w2.alloc (.cells #[.bool false, .slice none 0 0] 87)).alloc (.cells #[.bool false, .slice none 0 0] 87) := ⟨_, rfl⟩
  rw [← hw3]
  have ho3 : Only w2 w3 (fun _ => False) := by rw [hw3]; exact ((Only.refl _ _).alloc _).alloc _
  have hx : IsInt w3 w2.heap.size none 0 := by rw [hw3]; exact ⟨_, heap_two' w2 _ _, .nil⟩
  have hy : IsInt w3 (w2.heap.size + 1) none 0 := by rw [hw3]; exact ⟨_, heap_two w2 _ _, .nil⟩
  have hgl : g < w2.heap.size := hi2.lt
  clear hw3
  refine (abs_int (w2.heap.size + 1) g none o 0 z w3 hy (hi2.only ho3 (fun h => h) (fun _ _ h => h)) hf (by omega)).mono ?_
  rintro en w4 ⟨rfl, oy, hy4, ho4, hoy⟩
  go_wp2_with fail
  obtain ⟨q, hq, hq2⟩ := hlow
  have hzp : 0 < ((Int.natAbs z : Nat) : Int) := by have := HZ.out; omega
  have hfz : Fits ((Int.natAbs z : Nat) : Int) := hf
  refine (rsh_int w2.heap.size (w2.heap.size + 1) none oy 0 (Int.natAbs z) t w4 (hx.only ho4 (by rintro (h | h); omega; cases h) (fun _ h => by cases h)) hy4 (by omega) hfz (.inr ⟨rfl, hzp⟩) (by omega)).mono ?_
  rintro en w5 ⟨rfl, hp5⟩
  have hP : (0 : Int) < 2 ^ t := Int.pow_pos (by omega)
  have hm : ((Int.natAbs z : Nat) : Int) / 2 ^ t = q := by rw [hq]; exact Int.mul_ediv_cancel _ (by omega)
  rw [hm] at hp5
  have hq0 : 0 < q := by
    rcases Int.lt_or_le 0 q with h | h
    · exact h
    · have := Int.mul_le_mul_of_nonneg_right h (Int.le_of_lt hP)
      rw [Int.zero_mul] at this
      omega
  have hfq : Fits q := Fits.le hfz (by rw [hq]; have := Int.mul_le_mul_of_nonneg_left (show (1 : Int) ≤ 2 ^ t by omega) (Int.le_of_lt hq0); omega)
  obtain ⟨om, hm5, ho5, hom⟩ := hp5
  have hsz3 : w2.heap.size ≤ w3.heap.size := ho3.base.size
  have hsz4 : w3.heap.size ≤ w4.heap.size := ho4.base.size
  have hB5 : w5.heap[B]? = _ := ((ho5.kept B (by omega) (by rintro (h | h); omega; cases h)).trans ((ho4.kept B (by omega) (by rintro (h | h); omega; cases h)).trans (ho3.kept B hlt2 (fun h => h)))).trans hB2
  have cb5 : w5.cell? ⟨B, 1, none⟩ = some (.int .i64 e) := blk_cell hB5 1
  have hom2 : ∀ b, om = some b → w2.heap.size ≤ b := by
    intro b hb
    rcases hom with h | ⟨c, h, h2⟩
    · rw [h] at hb; cases hb
    · rw [h] at hb; cases hb; omega
  have h25 : Only w2 w5 (fun _ => False) := (ho3.step ho4 (by rintro i hi (h | h); omega; cases h)).step ho5 (by rintro i hi (h | h); omega; cases h)
  have HS := Lib.hid (And.intro hq (And.intro hq2 hm))
  clear cb0 cb1 hx hy hy4 ho3 ho4 ho5 hom hoy hsz3 hsz4 hm hq hq2
  go_wp2_with fail
  refine (bitLen_int _ om q w5 hm5 (by rw [natAbs_nonneg (Int.le_of_lt hq0)]; exact hfq)).mono ?_
  rintro en w6 ⟨⟨k, rfl, hk, hk2⟩, rfl⟩
  rw [natAbs_nonneg (Int.le_of_lt hq0)] at hk
  have HK := Lib.hid hk
  clear hk
  by_cases hbad : 60000 < k ∨ e + t < -1048576 ∨ 1048576 < e + t
  · have hd : (decide (60000 < (k : Int)) = true) ∨ (decide (60000 < (k : Int)) = false ∧ decide (e + (t : Int) < -1048576) = true) ∨ (decide (60000 < (k : Int)) = false ∧ decide (e + (t : Int) < -1048576) = false ∧ decide (1048576 < e + (t : Int)) = true) := by
      by_cases h1 : 60000 < k
      · exact .inl (by simp; omega)
      · by_cases h2 : e + (t : Int) < -1048576
        · exact .inr (.inl ⟨by simp; omega, by simpa using h2⟩)
        · exact .inr (.inr ⟨by simp; omega, by simpa using h2, by simp; omega⟩)
    have HBAD := Lib.hid hbad
    clear hbad
    rcases hd with h1 | ⟨h1, h2⟩ | ⟨h1, h2, h3⟩
    all_goals
      go_wp2_with fail
      exact ⟨rfl, t, k, q, HS.out.1, HS.out.2.1, hq0, HK.out, (ho1.trans ho2).trans h25, .inl ⟨HBAD.out, rfl⟩⟩
  · have h1 : decide (60000 < (k : Int)) = false := by simp; omega
    have h2 : decide (e + (t : Int) < -1048576) = false := by simp; omega
    have h3 : decide (1048576 < e + (t : Int)) = false := by simp; omega
    have hk6 : k ≤ 60000 := by omega
    go_wp2_with fail
    refine (bitLen_int _ om q _ hm5 (by rw [natAbs_nonneg (Int.le_of_lt hq0)]; exact hfq)).mono ?_
    rintro en w7 ⟨⟨k', rfl, hk', _⟩, rfl⟩
    rw [natAbs_nonneg (Int.le_of_lt hq0)] at hk'
    obtain rfl := HK.out.unique hk'
    clear hk'
    have hmk : ∀ w, (Instr.makeSlice 22 (.int .i64 0) (.int .i64 ((k : Int) / 30 + 1))).run Tryz.prog w = .ok (.slice (some ⟨w.heap.size, 0, none⟩) 0 (k / 30 + 1)) (w.alloc (.cells (madeCells (Value.int .i64 0).cells (k / 30 + 1)) 3)) := fun w => make_ints (k / 30 + 1) w (by omega)
    go_wp2_with fail
    clear hmk
    refine (newInt_any 1073741823 _ (by omega) (by omega)).mono ?_
    rintro en w8 ⟨gk, rfl, hgk, ho8⟩
    have hsz7 : w2.heap.size ≤ w7.heap.size := h25.base.size
    have hown : w8.ownsRow w2.heap.size 3 1 (.slice (some ⟨w7.heap.size, 0, none⟩) 0 (k / 30 + 1)) 0 [] := by
      have h := World.ownsRow_made (base := w2.heap.size) (e := 3) (size := 1) w7 (madeCells (Value.int .i64 0).cells (k / 30 + 1)) (k / 30 + 1) hsz7 (by unfold maxLen; omega) (by simp [madeCells])
      exact own_move h (fun b hb => ho8.kept b (own_lt h b hb) (fun h => h))
    obtain ⟨ok, hik, hkB, hoB⟩ := hgk
    have e7 : ∀ o : Obj, (w7.alloc o).heap.size = w7.heap.size + 1 := fun o => by simp
    rw [e7] at hkB
    have hoB2 : ∀ b, ok = some b → w7.heap.size + 1 ≤ b := fun b hb => by have := hoB b hb; rw [e7] at this; exact this
    have hm8 : IsInt w8 w2.heap.size om q := (hm5.only ((Only.refl w7 (fun _ => False)).alloc _) (fun h => h) (fun _ _ h => h)).only ho8 (fun h => h) (fun _ _ h => h)
    have h28 : Only w2 w8 (fun _ => False) := (h25.alloc _).trans ho8
    have hlt5 := hm5.lt'
    have hlt6 := hm5.lt
    have HOW := Lib.hid hown
    have HR8 := Lib.hid (And.intro hm8 (And.intro hik h28))
    have HLT := Lib.hid (And.intro hlt5 (And.intro hlt6 (And.intro hoB2 hkB)))
    clear hown hm8 hik h28 hlt5 hlt6 hoB2 hoB e7 ho8 h25 hm5 hB5 cb5 hi1 hi2 hT1
    go_wp2_with fail
    go_loopw [6] (fun v wr => ∃ (ds : List Int) (m : Int) (om' : Option Nat), wr.ownsRow w2.heap.size 3 1 v ds.length (nums .i64 ds) ∧ IsInt wr w2.heap.size om' m ∧ (∀ b, om' = some b → w2.heap.size ≤ b ∧ ok ≠ some b) ∧ IsInt wr gk ok 1073741823 ∧ Only w2 wr (fun _ => False) ∧ val ds + m * 2 ^ (30 * ds.length) = q ∧ 0 ≤ m ∧ Digs ds ∧ (m = 0 → ds.getD (ds.length - 1) 0 ≠ 0))
      (fun v _ => 3000 - slen v)
    case atStart =>
      refine ⟨[], q, om, HOW.out, HR8.out.1, fun b hb => ⟨hom2 b hb, fun h => ?_⟩, HR8.out.2.1, HR8.out.2.2, by simp [val], Int.le_of_lt hq0, fun d hd => by simp at hd, fun h => by omega⟩
      have h1 := HLT.out.1 b hb
      have h2 := HLT.out.2.2.1 b h
      omega
    case round =>
      obtain ⟨ds, m, om', hown, hi6, hsep, hik, h2r, hval, hm0, hdg, hnz⟩ := hrel
      obtain ⟨A6, c6, rfl⟩ := own_slice hown
      have HV := Lib.hid hval
      have HN := Lib.hid hnz
      have HO := Lib.hid hown
      have HSP := Lib.hid hsep
      clear hval hnz hown hsep
      by_cases hmp : 0 < m
      · go_wp2_with fail
        refine (sign_pos _ om' m wr hi6 hmp).mono ?_
        rintro en w9 ⟨rfl, rfl⟩
        go_wp2_with fail
        obtain ⟨w10, hw10⟩ : ∃ w10 : World, w10 = w9.alloc (.cells #[.bool false, .slice none 0 0] 87) := ⟨_, rfl⟩
        rw [← hw10]
        have ho10 : Only w9 w10 (fun _ => False) := by rw [hw10]; exact (Only.refl _ _).alloc _
        have hn10 : IsInt w10 w9.heap.size none 0 := by
          obtain ⟨o, h, _, h2⟩ := New.alloc w9
          rw [hw10]
          exact ⟨_, by simpa using heap_alloc_new w9 (.cells #[.bool false, .slice none 0 0] 87), .nil⟩
        have hg9 : w2.heap.size < w9.heap.size := hi6.lt
        have hgk9 : gk < w9.heap.size := hik.lt
        have hb9 := hi6.lt'
        have hk9 := hik.lt'
        clear hw10
        have hpw : (0 : Int) < 2 ^ (30 * ds.length) := Int.pow_pos (by omega)
        have hvd := (val_range ds hdg).1
        have hmq : m ≤ q := by
          have h1 : m * 1 ≤ m * 2 ^ (30 * ds.length) := Int.mul_le_mul_of_nonneg_left (by omega) hm0
          have := HV.out
          omega
        have hfm : Fits m := Fits.le hfq hmq
        refine (and_int w9.heap.size w2.heap.size gk none om' ok 0 m 1073741823 w10 hn10 (hi6.only ho10 (fun h => h) (fun _ _ h => h)) (hik.only ho10 (fun h => h) (fun _ _ h => h)) hmp rfl hfm).mono ?_
        rintro en w11 ⟨rfl, oz, hz11, ho11, hoz⟩
        have ho911 : Only w9 w11 (fun _ => False) := (ho10).step ho11 (by rintro i hi (h | h); omega; cases h)
        clear ho10 ho11 hn10
        go_wp2_with fail
        refine (int64_int _ oz (m % 1073741824) w11 hz11 (by omega) (by omega)).mono ?_
        rintro en w12 ⟨rfl, rfl⟩
        have hown12 := own_move HO.out (w1 := w12) (fun b hb => ho911.kept b (own_lt HO.out b hb) (fun h => h))
        have hB12 : Below w2.heap.size w2 w12 := (h2r.trans ho911).below (Nat.le_refl _) (fun _ h => h.elim)
        have hi12 := hi6.only ho911 (fun h => h) (fun _ _ h => h)
        have hk12 := hik.only ho911 (fun h => h) (fun _ _ h => h)
        have hlen : ds.length < 3000 := by
          have h1 : 1 * 2 ^ (30 * ds.length) ≤ m * 2 ^ (30 * ds.length) := Int.mul_le_mul_of_nonneg_right (by omega) (Int.le_of_lt hpw)
          have h2 := HV.out
          have h3 := HK.out.1
          have := pow_lt (a := 30 * ds.length) (b := k) (by omega)
          omega
        clear hpw hvd hmq
        have HN12 := Lib.hid (And.intro hown12 (And.intro hB12 (And.intro hi12 hk12)))
        have hsz12 : w2.heap.size ≤ w12.heap.size := hB12.size
        clear hz11 ho911 hoz hown12 hB12 hi12 hk12
        go_wp2_with (at_builtin; refine print_append_num (w0 := w2) w2.heap.size rfl (.tmp 51) (.tmp 57) 22 3 .i64 8 rfl Tryz.underlying22 int3 (by decide) (.slice A6 ds.length c6) ds (m % 1073741824) rfl rfl HN12.out.1 HN12.out.2.1 ?_ ?_ ?_)
        · omega
        · omega
        · intro v1 w13 hown13 hB13 hg13 hat13
          have hi13 := HN12.out.2.2.1.grown HN12.out.1 hg13
          have hk13 := HN12.out.2.2.2.grown HN12.out.1 hg13
          go_wp2_with fail
          refine (rsh_int _ _ om' om' m m 30 w13 hi13 hi13 hm0 hfm (.inl (by omega)) (by omega)).mono ?_
          rintro en w14 ⟨rfl, o14, hi14, ho14, hoo14⟩
          have hsp := HSP.out
          have hgne : gk ≠ w2.heap.size := by have := HLT.out.2.2.2; have := hsz7; omega
          have hk14 := hk13.keep hi13 ho14 hgne (fun b hb h => (hsp b h).2 hb)
          have hown14 := own_keep hown13 hi13 ho14
          have hlk : ∀ b, ok = some b → b < w13.heap.size := hk13.lt'
          have h213 : Only w2 w13 (fun _ => False) := Only.of_below hB13
          have h214 : Only w2 w14 (fun _ => False) := h213.step ho14 (by
            rintro i hi (h | h)
            · omega
            · have := (hsp i h).1; omega)
          have hs13 : w2.heap.size ≤ w13.heap.size := hB13.size
          have hvs := val_snoc ds (m % 1073741824)
          have HF := Lib.hid hvs
          have e30 : (2 : Int) ^ 30 = 1073741824 := by decide
          rw [e30] at hi14
          clear hvs hsp
          go_wp2_with fail
          go_roundw
          case rel =>
            refine ⟨ds ++ [m % 1073741824], m / 1073741824, o14, by rw [List.length_append, List.length_singleton]; exact hown14, hi14, ?_, hk14, h214, ?_, Int.ediv_nonneg hm0 (by decide), hdg.snoc (Int.emod_nonneg _ (by decide)) (Int.emod_lt_of_pos _ (by decide)), ?_⟩
            · intro b hb
              rcases hoo14 with h | ⟨c, h, h2⟩
              · exact HSP.out b (h ▸ hb)
              · rw [h] at hb; cases hb
                exact ⟨by omega, fun h3 => by have := hlk _ h3; omega⟩
            · rw [HF.out, List.length_append, List.length_singleton, show 30 * (ds.length + 1) = 30 + 30 * ds.length by omega, Int.pow_add, e30, ← Int.mul_assoc, Int.add_assoc, ← Int.add_mul, Int.mul_comm (m / 1073741824), Int.emod_add_mul_ediv]
              exact HV.out
            · intro h0
              rw [List.length_append, List.length_singleton, Nat.add_sub_cancel]
              have : (ds ++ [m % 1073741824]).getD ds.length 0 = m % 1073741824 := by simp [List.getD]
              rw [this]
              omega
          case measure =>
            obtain ⟨A13, c13, rfl⟩ := own_slice hown13
            simp [slen]
            omega
      · have hm00 : m = 0 := by omega
        go_wp2_with fail
        refine (sign_nil _ om' m wr hi6 hm00).mono ?_
        rintro en w9 ⟨rfl, rfl⟩
        have hBr : w9.heap[B]? = _ := (h2r.kept B hlt2 (fun h => h)).trans hB2
        have hB12 : B + 1 < w1.heap.size := by rw [HSZ.out]; omega
        have hRr : w9.heap[B + 1]? = _ := (h2r.kept (B + 1) (Nat.lt_of_lt_of_le hB12 ho2.base.size) (fun h => h)).trans ((ho2.kept (B + 1) hB12 (fun h => h)).trans HR.out)
        have hgr : IsInt w9 g o z := HI.out.only ((ho1.trans ho2).trans h2r) (fun h => h) (fun _ _ h => h)
        have cb0 : w9.cell? ⟨B, 0, none⟩ = some (.pointer (some ⟨g, 0, none⟩)) := blk_cell hBr 0
        have cr0 : w9.cell? ⟨B + 1, 0, none⟩ = some (.bool false) := blk_cell hRr 0
        have cr1 : w9.cell? ⟨B + 1, 1, none⟩ = some (.slice none 0 0) := blk_cell hRr 1
        have cr2 : w9.cell? ⟨B + 1, 2, none⟩ = some (.int .i64 0) := blk_cell hRr 2
        have fr := fun i => blk_frozen hRr i
        have fr0 := fr 0
        have fr1 := fr 1
        have fr2 := fr 2
        clear fr
        go_wp2_with fail
        refine (sign_int g o z w9 hgr).mono ?_
        rintro en w10 ⟨rfl, rfl⟩
        go_wp2_with fail
        have hne : some (B + 1) ≠ (Value.slice A6 ds.length c6).ownBlock := by
          intro h
          obtain ⟨cells, hc⟩ := own_typed HO.out (B + 1) h.symm
          exact blk_ne hRr hc (by decide) rfl
        have h1w : Only w w10 (fun _ => False) := (ho1.trans ho2).trans h2r
        have hwB : w.heap.size ≤ B + 1 := by have := HW.out; omega
        have hw2 : w.heap.size ≤ w2.heap.size := by have := HW.out; omega
        refine bodyPost_ret (results_cell_row rfl _ _ (B + 1) 24 #[.bool (decide (z < 0)), .slice A6 ds.length c6, .int .i64 (e + t)] (0, 0) _ rfl (by simpa using blk_set (blk_set (blk_set hRr 0 (.bool (decide (z < 0)))) 1 (.slice A6 ds.length c6)) 2 (.int .i64 (e + t))) Tryz.underlying24 rfl (by kernel_rfl)) rfl ⟨t, k, q, HS.out.1, HS.out.2.1, hq0, HK.out, ?_, .inr ⟨hk6, by simpa using h2, by simpa using h3, _, ds, rfl, ?_, ?_, hdg, ?_⟩⟩
        · exact ((h1w.set (.inl hwB) _).set (.inl hwB) _).set (.inl hwB) _
        · exact own_weaken (own_setCell (own_setCell (own_setCell HO.out (p := ⟨B + 1, 0, none⟩) hne _) (p := ⟨B + 1, 1, none⟩) hne _) (p := ⟨B + 1, 2, none⟩) hne _) hw2
        · have := HV.out
          rw [hm00, Int.zero_mul] at this
          omega
        · intro _
          exact HN.out hm00
end Go.Proofs.YtlfmgdpbjapdjaaGreatFmtBesafter
namespace Go.Proofs.YtlfmgdpbjapdjaaGreatFmtBesafter.F
open Go.RowKit Go.Proofs.YtlfmgdpbjapdjaaGreatFmtBesafterW.PrintWords Go.Proofs.YtlfmgdpbjapdjaaGreatFmtBesafterW.PrintLast Go.Proofs.YtlfmgdpbjapdjaaGreatFmtBesafterW.PrintMore
attribute [local go_sem] max2_int min2_int max_two min_two max_three min_three max_four min_four   -- for this text's walks alone
set_option linter.unusedVariables false
set_option linter.unusedSimpArgs false
def exact_digits.l0 : Nat → List Int → List Int → Int → Int → Option (Bool)
  | 0, _, _, _, _ => none
  | k + 1, x0, x5, x6, x7 => if x7 < x6 then (if 0 ≤ x7 then (if x7 < (x5.length : Int) then (if (rd x5 x7) < 0 then (some false) else (if (rd x5 x7) ≥ 1073741824 then (some false) else (exact_digits.l0 k x0 x5 x6 (wrap64 (x7 + 1))))) else (none)) else (none)) else (some (decide ((x0.length : Int) ≤ 2000)))
def exact_digits.f (k : Nat) (l0 : List Int) : Option (Bool) := exact_digits.l0 k l0 l0 (l0.length : Int) 0
theorem exact_digits.mono_l : ∀ k, (∀ y0 y1 y2 y3, LeO (exact_digits.l0 k y0 y1 y2 y3) (exact_digits.l0 (k + 1) y0 y1 y2 y3))
  | 0 => fun _ _ _ _ r h => by simp [exact_digits.l0] at h
  | k + 1 => by
    have ih0 := exact_digits.mono_l k
    · intro y0 y1 y2 y3
      unfold exact_digits.l0
      repeat' first
      | (with_reducible exact ih0 _ _ _ _)
      | (with_reducible exact LeO.refl _)
      | (with_reducible exact LeO.none _)
      | (with_reducible refine LeO.ite ?_ ?_)
      | (with_reducible refine LeO.bind ?_ (fun _ => ?_))
      | exact ih0 _ _ _ _
      | exact LeO.none _
      | refine LeO.ite ?_ ?_
      | refine LeO.bind ?_ (fun _ => ?_)
theorem exact_digits.mono : ∀ a0 k, LeO (exact_digits.f k a0) (exact_digits.f (k + 1) a0) := by
  intro a0 k
  have ih0 := exact_digits.mono_l k
  unfold exact_digits.f
  repeat' first
      | (with_reducible exact ih0 _ _ _ _)
      | (with_reducible exact LeO.refl _)
      | (with_reducible exact LeO.none _)
      | (with_reducible refine LeO.ite ?_ ?_)
      | (with_reducible refine LeO.bind ?_ (fun _ => ?_))
      | exact ih0 _ _ _ _
      | exact LeO.none _
      | refine LeO.ite ?_ ?_
      | refine LeO.bind ?_ (fun _ => ?_)
set_option maxHeartbeats 8000000 in
set_option maxRecDepth 100000 in
theorem exact_digits.calls (k : Nat) (A0 : Option Addr) (c0 : Nat) (l0 : List Int) (r : Bool) (w : World) (hr0 : Kd.C (Kd.int .i64) w A0 l0.length l0) (hc0 : l0.length ≤ c0) (h : exact_digits.f k l0 = some r) :
    Calls Tryz.prog 41 #[.slice A0 l0.length c0] w fun e w' => e = .returned (.bool r) ∧ Drawn0 w w' := by
  have HR0 := Aside0.mk hr0
  have HC0 := Aside0.mk hc0
  clear hr0 hc0
  have H : (exact_digits.l0 k l0 l0 (l0.length : Int) 0) = some r := h
  clear h
  have H' := Aside0.mk H
  clear H
  go_enter Tryz.func41, Tryz.ntmps41
  go_wp2
  go_loopg [7] k (fun kq v7 w' => ∃ (x7_1 : Int), v7 = .int .i64 x7_1 ∧ Aside0 (exact_digits.l0 kq l0 l0 (l0.length : Int) x7_1 = some r) ∧ Aside0 (kq ≤ k) ∧ Drawn0 w w')
  case atStart => exact ⟨(0), (by first | rfl | (simp; done) | (simp [*]; done)), H', ⟨Nat.le_refl _⟩, by repeat (first | exact Drawn0.refl _ | apply Drawn0.step)⟩
  case round =>
    clear H'
    obtain ⟨x7_1, rfl, HA, HK1, ⟨m1, rfl⟩⟩ := hrel
    cases gk with
    | zero => exact absurd HA.out (by simp [exact_digits.l0])
    | succ k1 =>
      have H := HA.out
      clear HA
      simp only [exact_digits.l0] at H
      by_cases c2 : x7_1 < (l0.length : Int)
      · rw [if_pos c2] at H
        have c2b0 : decide (x7_1 < (l0.length : Int)) = true := decide_eq_true c2
        clear c2
        by_cases c3 : 0 ≤ x7_1
        · rw [if_pos c3] at H
          have c3b0 : decide (0 ≤ x7_1) = true := decide_eq_true c3
          clear c3
          by_cases c4 : x7_1 < (l0.length : Int)
          · rw [if_pos c4] at H
            have c4b0 : decide (x7_1 < (l0.length : Int)) = true := decide_eq_true c4
            clear c4
            by_cases c5 : (rd l0 x7_1) < 0
            · rw [if_pos c5] at H
              have c5b0 : decide ((rd l0 x7_1) < 0) = true := decide_eq_true c5
              clear c5
              obtain rfl := Option.some.inj H
              have p129 : 0 ≤ (x7_1 : Int) := of_decide_eq_true (by first | (with_reducible assumption) | assumption)
              have q129 : x7_1 < (l0.length : Int) := of_decide_eq_true (by first | (with_reducible assumption) | assumption)
              obtain ⟨ad129, e129, hx129_0⟩ := Kd.at_int HR0.out x7_1 p129 q129
              cases e129
              replace p129 := eq_true p129
              replace q129 := eq_true q129
              go_wp2
              go_ret
              exact ⟨by first | rfl | (simp; done) | (simp [*]; done), by repeat (first | exact Drawn0.refl _ | apply Drawn0.step)⟩
            · rw [if_neg c5] at H
              have c5b0 : decide ((rd l0 x7_1) < 0) = false := decide_eq_false c5
              clear c5
              by_cases c6 : (rd l0 x7_1) ≥ 1073741824
              · rw [if_pos c6] at H
                have c6b0 : decide (1073741824 ≤ (rd l0 x7_1)) = true := decide_eq_true c6
                clear c6
                obtain rfl := Option.some.inj H
                have p129 : 0 ≤ (x7_1 : Int) := of_decide_eq_true (by first | (with_reducible assumption) | assumption)
                have q129 : x7_1 < (l0.length : Int) := of_decide_eq_true (by first | (with_reducible assumption) | assumption)
                obtain ⟨ad129, e129, hx129_0⟩ := Kd.at_int HR0.out x7_1 p129 q129
                cases e129
                replace p129 := eq_true p129
                replace q129 := eq_true q129
                go_wp2
                go_ret
                exact ⟨by first | rfl | (simp; done) | (simp [*]; done), by repeat (first | exact Drawn0.refl _ | apply Drawn0.step)⟩
              · rw [if_neg c6] at H
                have c6b0 : decide (1073741824 ≤ (rd l0 x7_1)) = false := decide_eq_false c6
                clear c6
                have H' := Aside0.mk H
                clear H
                have p129 : 0 ≤ (x7_1 : Int) := of_decide_eq_true (by first | (with_reducible assumption) | assumption)
                have q129 : x7_1 < (l0.length : Int) := of_decide_eq_true (by first | (with_reducible assumption) | assumption)
                obtain ⟨ad129, e129, hx129_0⟩ := Kd.at_int HR0.out x7_1 p129 q129
                cases e129
                replace p129 := eq_true p129
                replace q129 := eq_true q129
                go_wp2
                go_roundg k1
                case measure => have := HK1.out; omega
                case rel => exact ⟨(wrap64 (x7_1 + 1)), (by first | rfl | (simp; done) | (simp [*]; done)), H', ⟨by have := HK1.out; omega⟩, by repeat (first | exact Drawn0.refl _ | apply Drawn0.step)⟩
          · rw [if_neg c4] at H
            exact absurd H (by simp)
        · rw [if_neg c3] at H
          exact absurd H (by simp)
      · rw [if_neg c2] at H
        have c2b0 : decide (x7_1 < (l0.length : Int)) = false := decide_eq_false c2
        clear c2
        obtain rfl := Option.some.inj H
        go_wp2
        go_ret
        exact ⟨by first | rfl | (simp; done) | (simp [*]; done), by repeat (first | exact Drawn0.refl _ | apply Drawn0.step)⟩
attribute [local go_sem] max2_int min2_int max_two min_two max_three min_three max_four min_four   -- for this text's walks alone
set_option linter.unusedVariables false
set_option linter.unusedSimpArgs false
def exact_Valid.f (k : Nat) (a0_0 : Bool) (l0_1 : List Int) (a0_2 : Int) : Option (Bool) := if (l0_1.length : Int) = 0 then (if a0_0 = true then (some false) else (some (a0_2 == 0))) else ((exact_digits.f k l0_1).bind fun t141 => (if t141 = true then (if 0 ≤ (wrap64 ((l0_1.length : Int) - 1)) then (if (wrap64 ((l0_1.length : Int) - 1)) < (l0_1.length : Int) then (if (rd l0_1 (wrap64 ((l0_1.length : Int) - 1))) = 0 then (some false) else (if 0 < (l0_1.length : Int) then (if (Go.bits .and .i64 (rd l0_1 0) 1) = 1 then (if a0_2 ≥ (-1048576) then (some (decide (a0_2 ≤ 1048576))) else (some false)) else (some false)) else (none))) else (none)) else (none)) else (some false)))
theorem exact_Valid.mono : ∀ a0 a1 a2 k, LeO (exact_Valid.f k a0 a1 a2) (exact_Valid.f (k + 1) a0 a1 a2) := by
  intro a0 a1 a2 k
  unfold exact_Valid.f
  repeat' first
      | (with_reducible exact exact_digits.mono _ _)
      | (with_reducible exact LeO.refl _)
      | (with_reducible exact LeO.none _)
      | (with_reducible refine LeO.ite ?_ ?_)
      | (with_reducible refine LeO.bind ?_ (fun _ => ?_))
      | exact exact_digits.mono _ _
      | exact LeO.none _
      | refine LeO.ite ?_ ?_
      | refine LeO.bind ?_ (fun _ => ?_)
set_option maxHeartbeats 8000000 in
set_option maxRecDepth 100000 in
theorem exact_Valid.calls (k : Nat) (a0_0 : Bool) (A0_1 : Option Addr) (c0_1 : Nat) (l0_1 : List Int) (a0_2 : Int) (r : Bool) (w : World) (hr0_1 : Kd.C (Kd.int .i64) w A0_1 l0_1.length l0_1) (hc0_1 : l0_1.length ≤ c0_1) (h : exact_Valid.f k a0_0 l0_1 a0_2 = some r) :
    Calls Tryz.prog 69 #[.agg #[.bool a0_0, .slice A0_1 l0_1.length c0_1, .int .i64 a0_2]] w fun e w' => e = .returned (.bool r) ∧ Below w.heap.size w w' := by
  have hu24 := Tryz.underlying24
  have HR0_1 := Aside0.mk hr0_1
  have HC0_1 := Aside0.mk hc0_1
  clear hr0_1 hc0_1
  have HB := Aside0.mk (Below.refl w.heap.size w)
  have H : (if (l0_1.length : Int) = 0 then (if a0_0 = true then (some false) else (some (a0_2 == 0))) else ((exact_digits.f k l0_1).bind fun t141 => (if t141 = true then (if 0 ≤ (wrap64 ((l0_1.length : Int) - 1)) then (if (wrap64 ((l0_1.length : Int) - 1)) < (l0_1.length : Int) then (if (rd l0_1 (wrap64 ((l0_1.length : Int) - 1))) = 0 then (some false) else (if 0 < (l0_1.length : Int) then (if (Go.bits .and .i64 (rd l0_1 0) 1) = 1 then (if a0_2 ≥ (-1048576) then (some (decide (a0_2 ≤ 1048576))) else (some false)) else (some false)) else (none))) else (none)) else (none)) else (some false)))) = some r := h
  clear h
  by_cases c2 : (l0_1.length : Int) = 0
  · rw [if_pos c2] at H
    have c2b0 : ((l0_1.length : Int) == 0) = true := beq_iff_eq.mpr c2
    have c2b1 : ((l0_1.length : Int) != 0) = false := bne_eq_false_iff_eq.mpr c2
    clear c2
    by_cases c3 : a0_0 = true
    · subst c3
      have H1 : (some false) = some r := by rw [if_pos rfl] at H; exact H
      clear H
      have H := H1
      clear H1
      obtain rfl := Option.some.inj H
      go_enter Tryz.func69, Tryz.ntmps69
      go_wp2_with (first | ((with_reducible refine gate_dst (N := 1) rfl ?_); refine box_event ?hg (N := 1) ?hd (cs := #[.bool true, .slice A0_1 l0_1.length c0_1, .int .i64 a0_2]) (t := 24) ?hr ?_; (case hd => rfl); (case hg => rfl); (case hr => first | (go_simp; done) | (go_simp; rfl)); intro gb140 hg w4 hbox hb; have n0_ := Aside0.mk (below_step (by repeat (first | (with_reducible first | exact HB.out | apply below_alloc | apply pw_below_drewN | apply below_drew1) | exact HB.out)) hb); have n1_ := Aside0.mk (hbox); have n2_ := Aside0.mk ((by rw [hg]; exact (below_size (by repeat (first | (with_reducible first | exact HB.out | apply below_alloc | apply pw_below_drewN | apply below_drew1) | exact HB.out))) : w.heap.size ≤ gb140)); have n3_ := Aside0.mk ((by rw [hg]; exact (below_size (by repeat (first | (with_reducible first | exact HB.out | apply below_alloc | apply pw_below_drewN | apply below_drew1) | exact HB.out))) : w.heap.size ≤ gb140)); clear HB; have HB := n0_; have BK140 := n1_; have GW140 := n2_; have GE140 := n3_; clear n0_ n1_ n2_ n3_; clear hb hbox hg; have hcz5_0 : w4.cell? ⟨gb140, 0, none⟩ = some (.bool true) := (blk_cell BK140.out 0).trans rfl; have hcz5_1 : w4.cell? ⟨gb140, 1, none⟩ = some (.slice A0_1 l0_1.length c0_1) := (blk_cell BK140.out 1).trans rfl; have hcz5_2 : w4.cell? ⟨gb140, 2, none⟩ = some (.int .i64 a0_2) := (blk_cell BK140.out 2).trans rfl; have hfz5_0 := blk_frozen BK140.out 0; have hfz5_1 := blk_frozen BK140.out 1; have hfz5_2 := blk_frozen BK140.out 2))
      go_ret
      exact ⟨by first | rfl | (simp [errW_none, errW_some] <;> rfl) | (simp [*, errW_none, errW_some] <;> rfl), by repeat (first | (with_reducible first | exact HB.out | apply below_alloc | apply pw_below_drewN | apply below_drew1 | refine below_set ?_ GE140.out) | exact HB.out)⟩
    · replace c3 := Bool.eq_false_iff.mpr c3
      subst c3
      have H1 : (some (a0_2 == 0)) = some r := by rw [if_neg (show ¬ (false = true) by decide)] at H; exact H
      clear H
      have H := H1
      clear H1
      obtain rfl := Option.some.inj H
      go_enter Tryz.func69, Tryz.ntmps69
      go_wp2_with (first | ((with_reducible refine gate_dst (N := 1) rfl ?_); refine box_event ?hg (N := 1) ?hd (cs := #[.bool false, .slice A0_1 l0_1.length c0_1, .int .i64 a0_2]) (t := 24) ?hr ?_; (case hd => rfl); (case hg => rfl); (case hr => first | (go_simp; done) | (go_simp; rfl)); intro gb140 hg w6 hbox hb; have n0_ := Aside0.mk (below_step (by repeat (first | (with_reducible first | exact HB.out | apply below_alloc | apply pw_below_drewN | apply below_drew1) | exact HB.out)) hb); have n1_ := Aside0.mk (hbox); have n2_ := Aside0.mk ((by rw [hg]; exact (below_size (by repeat (first | (with_reducible first | exact HB.out | apply below_alloc | apply pw_below_drewN | apply below_drew1) | exact HB.out))) : w.heap.size ≤ gb140)); have n3_ := Aside0.mk ((by rw [hg]; exact (below_size (by repeat (first | (with_reducible first | exact HB.out | apply below_alloc | apply pw_below_drewN | apply below_drew1) | exact HB.out))) : w.heap.size ≤ gb140)); clear HB; have HB := n0_; have BK140 := n1_; have GW140 := n2_; have GE140 := n3_; clear n0_ n1_ n2_ n3_; clear hb hbox hg; have hcz7_0 : w6.cell? ⟨gb140, 0, none⟩ = some (.bool false) := (blk_cell BK140.out 0).trans rfl; have hcz7_1 : w6.cell? ⟨gb140, 1, none⟩ = some (.slice A0_1 l0_1.length c0_1) := (blk_cell BK140.out 1).trans rfl; have hcz7_2 : w6.cell? ⟨gb140, 2, none⟩ = some (.int .i64 a0_2) := (blk_cell BK140.out 2).trans rfl; have hfz7_0 := blk_frozen BK140.out 0; have hfz7_1 := blk_frozen BK140.out 1; have hfz7_2 := blk_frozen BK140.out 2))
      go_ret
      exact ⟨by first | rfl | (simp [errW_none, errW_some] <;> rfl) | (simp [*, errW_none, errW_some] <;> rfl), by repeat (first | (with_reducible first | exact HB.out | apply below_alloc | apply pw_below_drewN | apply below_drew1 | refine below_set ?_ GE140.out) | exact HB.out)⟩
  · rw [if_neg c2] at H
    have c2b0 : ((l0_1.length : Int) == 0) = false := beq_eq_false_iff_ne.mpr c2
    have c2b1 : ((l0_1.length : Int) != 0) = true := bne_iff_ne.mpr c2
    have c2b2 : ¬ (l0_1 = []) := fun h_ => c2 (by rw [h_]; rfl)
    replace H := Option.bind_eq_some_iff.mp H
    obtain ⟨t141, A80, H⟩ := H
    replace H : (if t141 = true then (if 0 ≤ (wrap64 ((l0_1.length : Int) - 1)) then (if (wrap64 ((l0_1.length : Int) - 1)) < (l0_1.length : Int) then (if (rd l0_1 (wrap64 ((l0_1.length : Int) - 1))) = 0 then (some false) else (if 0 < (l0_1.length : Int) then (if (Go.bits .and .i64 (rd l0_1 0) 1) = 1 then (if a0_2 ≥ (-1048576) then (some (decide (a0_2 ≤ 1048576))) else (some false)) else (some false)) else (none))) else (none)) else (none)) else (some false)) = some r := H
    have A8 := Aside0.mk A80
    clear A80
    by_cases c9 : t141 = true
    · subst c9
      have H1 : (if 0 ≤ (wrap64 ((l0_1.length : Int) - 1)) then (if (wrap64 ((l0_1.length : Int) - 1)) < (l0_1.length : Int) then (if (rd l0_1 (wrap64 ((l0_1.length : Int) - 1))) = 0 then (some false) else (if 0 < (l0_1.length : Int) then (if (Go.bits .and .i64 (rd l0_1 0) 1) = 1 then (if a0_2 ≥ (-1048576) then (some (decide (a0_2 ≤ 1048576))) else (some false)) else (some false)) else (none))) else (none)) else (none)) = some r := by rw [if_pos rfl] at H; exact H
      clear H
      have H := H1
      clear H1
      obtain ⟨ji10, hji10⟩ : ∃ j_ : Int, (wrap64 ((l0_1.length : Int) - 1)) = j_ := ⟨_, rfl⟩
      replace H : (if 0 ≤ (ji10) then (if (ji10) < (l0_1.length : Int) then (if (rd l0_1 (ji10)) = 0 then (some false) else (if 0 < (l0_1.length : Int) then (if (Go.bits .and .i64 (rd l0_1 0) 1) = 1 then (if a0_2 ≥ (-1048576) then (some (decide (a0_2 ≤ 1048576))) else (some false)) else (some false)) else (none))) else (none)) else (none)) = some r := by first | (rw [hji10] at H; exact H) | (simp only [hji10] at H ⊢; exact H)
      (try rw [hji10] at A8)
      have hji10w : (IntKind.i64.wrap ((l0_1.length : Int) - 1)) = ji10 := (i64_w _).trans hji10
      by_cases c11 : 0 ≤ (ji10)
      · rw [if_pos c11] at H
        have c11b0 : decide (0 ≤ (ji10)) = true := decide_eq_true c11
        clear c11
        by_cases c12 : (ji10) < (l0_1.length : Int)
        · rw [if_pos c12] at H
          have c12b0 : decide ((ji10) < (l0_1.length : Int)) = true := decide_eq_true c12
          clear c12
          by_cases c13 : (rd l0_1 (ji10)) = 0
          · rw [if_pos c13] at H
            have c13b0 : ((rd l0_1 (ji10)) == 0) = true := beq_iff_eq.mpr c13
            have c13b1 : ((rd l0_1 (ji10)) != 0) = false := bne_eq_false_iff_eq.mpr c13
            clear c13
            obtain rfl := Option.some.inj H
            go_enter Tryz.func69, Tryz.ntmps69
            go_wp2_with (first | ((with_reducible refine gate_dst (N := 1) rfl ?_); refine box_event ?hg (N := 1) ?hd (cs := #[.bool a0_0, .slice A0_1 l0_1.length c0_1, .int .i64 a0_2]) (t := 24) ?hr ?_; (case hd => rfl); (case hg => rfl); (case hr => first | (go_simp; done) | (go_simp; rfl)); intro gb140 hg w14 hbox hb; have n0_ := Aside0.mk (below_step (by repeat (first | (with_reducible first | exact HB.out | apply below_alloc | apply pw_below_drewN | apply below_drew1) | exact HB.out)) hb); have n1_ := Aside0.mk (hbox); have n2_ := Aside0.mk ((by rw [hg]; exact (below_size (by repeat (first | (with_reducible first | exact HB.out | apply below_alloc | apply pw_below_drewN | apply below_drew1) | exact HB.out))) : w.heap.size ≤ gb140)); have n3_ := Aside0.mk ((by rw [hg]; exact (below_size (by repeat (first | (with_reducible first | exact HB.out | apply below_alloc | apply pw_below_drewN | apply below_drew1) | exact HB.out))) : w.heap.size ≤ gb140)); clear HB; have HB := n0_; have BK140 := n1_; have GW140 := n2_; have GE140 := n3_; clear n0_ n1_ n2_ n3_; clear hb hbox hg; have hcz15_0 : w14.cell? ⟨gb140, 0, none⟩ = some (.bool a0_0) := (blk_cell BK140.out 0).trans rfl; have hcz15_1 : w14.cell? ⟨gb140, 1, none⟩ = some (.slice A0_1 l0_1.length c0_1) := (blk_cell BK140.out 1).trans rfl; have hcz15_2 : w14.cell? ⟨gb140, 2, none⟩ = some (.int .i64 a0_2) := (blk_cell BK140.out 2).trans rfl; have hfz15_0 := blk_frozen BK140.out 0; have hfz15_1 := blk_frozen BK140.out 1; have hfz15_2 := blk_frozen BK140.out 2) | ((with_reducible refine gate_callee (f := 41) rfl ?_); refine goesL_ (some 19) rfl rfl Tryz.func41 (by kernel_rfl) rfl #[.slice A0_1 l0_1.length c0_1] rfl (by (try simp only [List.map_toArray, List.map_cons, List.map_nil]); first | done | rfl | (simp only [List.length_drop, List.length_take]; rfl)) ?_; (with_reducible refine (exact_digits.calls k _ _ l0_1 true _ ?side1 ?side2 A8.out).mono ?_); (case side1 => repeat (first | exact (Kd.C_below HR0_1.out HB.out) | (with_reducible refine Kd.C_alloc ?_ _) | (with_reducible refine Kd.C_drewN ?_ _) | (with_reducible refine Kd.C_drew ?_))); (case side2 => exact HC0_1.out); rintro e w' ⟨rfl, ⟨nd, rfl⟩⟩; refine ⟨_, rfl, ?_⟩; have p142 : 0 ≤ ((ji10) : Int) := of_decide_eq_true (by first | (with_reducible assumption) | assumption); have q142 : (ji10) < (l0_1.length : Int) := of_decide_eq_true (by first | (with_reducible assumption) | assumption); obtain ⟨ad142, e142, hx142_0⟩ := Kd.at_int HR0_1.out (ji10) p142 q142; cases e142; replace hx142_0 := (HB.out.cell (World.block_lt_of_cell? w _ hx142_0)).trans hx142_0; replace p142 := eq_true p142; replace q142 := eq_true q142))
            go_ret
            exact ⟨by first | rfl | (simp [errW_none, errW_some] <;> rfl) | (simp only [← hji10]; first | rfl | (simp [errW_none, errW_some] <;> rfl)) | (simp [*, errW_none, errW_some] <;> rfl), by repeat (first | (with_reducible first | exact HB.out | apply below_alloc | apply pw_below_drewN | apply below_drew1 | refine below_set ?_ GE140.out) | exact HB.out)⟩
          · rw [if_neg c13] at H
            have c13b0 : ((rd l0_1 (ji10)) == 0) = false := beq_eq_false_iff_ne.mpr c13
            have c13b1 : ((rd l0_1 (ji10)) != 0) = true := bne_iff_ne.mpr c13
            by_cases c16 : 0 < (l0_1.length : Int)
            · rw [if_pos c16] at H
              have c16b0 : decide (0 < (l0_1.length : Int)) = true := decide_eq_true c16
              have c16b1 : decide (0 < l0_1.length) = true := decide_eq_true (by omega)
              clear c16
              by_cases c17 : (Go.bits .and .i64 (rd l0_1 0) 1) = 1
              · rw [if_pos c17] at H
                have c17b0 : ((Go.bits .and .i64 (rd l0_1 0) 1) == 1) = true := beq_iff_eq.mpr c17
                have c17b1 : ((Go.bits .and .i64 (rd l0_1 0) 1) != 1) = false := bne_eq_false_iff_eq.mpr c17
                clear c17
                by_cases c18 : a0_2 ≥ (-1048576)
                · rw [if_pos c18] at H
                  have c18b0 : decide ((-1048576) ≤ a0_2) = true := decide_eq_true c18
                  clear c18
                  obtain rfl := Option.some.inj H
                  go_enter Tryz.func69, Tryz.ntmps69
                  go_wp2_with (first | ((with_reducible refine gate_dst (N := 1) rfl ?_); refine box_event ?hg (N := 1) ?hd (cs := #[.bool a0_0, .slice A0_1 l0_1.length c0_1, .int .i64 a0_2]) (t := 24) ?hr ?_; (case hd => rfl); (case hg => rfl); (case hr => first | (go_simp; done) | (go_simp; rfl)); intro gb140 hg w19 hbox hb; have n0_ := Aside0.mk (below_step (by repeat (first | (with_reducible first | exact HB.out | apply below_alloc | apply pw_below_drewN | apply below_drew1) | exact HB.out)) hb); have n1_ := Aside0.mk (hbox); have n2_ := Aside0.mk ((by rw [hg]; exact (below_size (by repeat (first | (with_reducible first | exact HB.out | apply below_alloc | apply pw_below_drewN | apply below_drew1) | exact HB.out))) : w.heap.size ≤ gb140)); have n3_ := Aside0.mk ((by rw [hg]; exact (below_size (by repeat (first | (with_reducible first | exact HB.out | apply below_alloc | apply pw_below_drewN | apply below_drew1) | exact HB.out))) : w.heap.size ≤ gb140)); clear HB; have HB := n0_; have BK140 := n1_; have GW140 := n2_; have GE140 := n3_; clear n0_ n1_ n2_ n3_; clear hb hbox hg; have hcz20_0 : w19.cell? ⟨gb140, 0, none⟩ = some (.bool a0_0) := (blk_cell BK140.out 0).trans rfl; have hcz20_1 : w19.cell? ⟨gb140, 1, none⟩ = some (.slice A0_1 l0_1.length c0_1) := (blk_cell BK140.out 1).trans rfl; have hcz20_2 : w19.cell? ⟨gb140, 2, none⟩ = some (.int .i64 a0_2) := (blk_cell BK140.out 2).trans rfl; have hfz20_0 := blk_frozen BK140.out 0; have hfz20_1 := blk_frozen BK140.out 1; have hfz20_2 := blk_frozen BK140.out 2) | ((with_reducible refine gate_callee (f := 41) rfl ?_); refine goesL_ (some 19) rfl rfl Tryz.func41 (by kernel_rfl) rfl #[.slice A0_1 l0_1.length c0_1] rfl (by (try simp only [List.map_toArray, List.map_cons, List.map_nil]); first | done | rfl | (simp only [List.length_drop, List.length_take]; rfl)) ?_; (with_reducible refine (exact_digits.calls k _ _ l0_1 true _ ?side1 ?side2 A8.out).mono ?_); (case side1 => repeat (first | exact (Kd.C_below HR0_1.out HB.out) | (with_reducible refine Kd.C_alloc ?_ _) | (with_reducible refine Kd.C_drewN ?_ _) | (with_reducible refine Kd.C_drew ?_))); (case side2 => exact HC0_1.out); rintro e w' ⟨rfl, ⟨nd, rfl⟩⟩; refine ⟨_, rfl, ?_⟩; have p142 : 0 ≤ ((ji10) : Int) := of_decide_eq_true (by first | (with_reducible assumption) | assumption); have q142 : (ji10) < (l0_1.length : Int) := of_decide_eq_true (by first | (with_reducible assumption) | assumption); obtain ⟨ad142, e142, hx142_0⟩ := Kd.at_int HR0_1.out (ji10) p142 q142; cases e142; replace hx142_0 := (HB.out.cell (World.block_lt_of_cell? w _ hx142_0)).trans hx142_0; replace p142 := eq_true p142; replace q142 := eq_true q142; have p143 : 0 ≤ (0 : Int) := (by omega); have q143 : 0 < (l0_1.length : Int) := of_decide_eq_true (by first | (with_reducible assumption) | assumption); obtain ⟨ad143, e143, hx143_0⟩ := Kd.at_int HR0_1.out 0 p143 q143; obtain rfl : ad142 = ad143 := (by injection e143); have qi143 : (0 < l0_1.length) = True := eq_true (by omega); (try rw [show ((0 : Int)).toNat = 0 from rfl] at hx143_0); (try rw [Addr.add_zero'] at hx143_0); replace hx143_0 := (HB.out.cell (World.block_lt_of_cell? w _ hx143_0)).trans hx143_0; replace p143 := eq_true p143; replace q143 := eq_true q143))
                  go_ret
                  exact ⟨by first | rfl | (simp [errW_none, errW_some] <;> rfl) | (simp only [← hji10]; first | rfl | (simp [errW_none, errW_some] <;> rfl)) | (simp [*, errW_none, errW_some] <;> rfl), by repeat (first | (with_reducible first | exact HB.out | apply below_alloc | apply pw_below_drewN | apply below_drew1 | refine below_set ?_ GE140.out) | exact HB.out)⟩
                · rw [if_neg c18] at H
                  have c18b0 : decide ((-1048576) ≤ a0_2) = false := decide_eq_false c18
                  clear c18
                  obtain rfl := Option.some.inj H
                  go_enter Tryz.func69, Tryz.ntmps69
                  go_wp2_with (first | ((with_reducible refine gate_dst (N := 1) rfl ?_); refine box_event ?hg (N := 1) ?hd (cs := #[.bool a0_0, .slice A0_1 l0_1.length c0_1, .int .i64 a0_2]) (t := 24) ?hr ?_; (case hd => rfl); (case hg => rfl); (case hr => first | (go_simp; done) | (go_simp; rfl)); intro gb140 hg w21 hbox hb; have n0_ := Aside0.mk (below_step (by repeat (first | (with_reducible first | exact HB.out | apply below_alloc | apply pw_below_drewN | apply below_drew1) | exact HB.out)) hb); have n1_ := Aside0.mk (hbox); have n2_ := Aside0.mk ((by rw [hg]; exact (below_size (by repeat (first | (with_reducible first | exact HB.out | apply below_alloc | apply pw_below_drewN | apply below_drew1) | exact HB.out))) : w.heap.size ≤ gb140)); have n3_ := Aside0.mk ((by rw [hg]; exact (below_size (by repeat (first | (with_reducible first | exact HB.out | apply below_alloc | apply pw_below_drewN | apply below_drew1) | exact HB.out))) : w.heap.size ≤ gb140)); clear HB; have HB := n0_; have BK140 := n1_; have GW140 := n2_; have GE140 := n3_; clear n0_ n1_ n2_ n3_; clear hb hbox hg; have hcz22_0 : w21.cell? ⟨gb140, 0, none⟩ = some (.bool a0_0) := (blk_cell BK140.out 0).trans rfl; have hcz22_1 : w21.cell? ⟨gb140, 1, none⟩ = some (.slice A0_1 l0_1.length c0_1) := (blk_cell BK140.out 1).trans rfl; have hcz22_2 : w21.cell? ⟨gb140, 2, none⟩ = some (.int .i64 a0_2) := (blk_cell BK140.out 2).trans rfl; have hfz22_0 := blk_frozen BK140.out 0; have hfz22_1 := blk_frozen BK140.out 1; have hfz22_2 := blk_frozen BK140.out 2) | ((with_reducible refine gate_callee (f := 41) rfl ?_); refine goesL_ (some 19) rfl rfl Tryz.func41 (by kernel_rfl) rfl #[.slice A0_1 l0_1.length c0_1] rfl (by (try simp only [List.map_toArray, List.map_cons, List.map_nil]); first | done | rfl | (simp only [List.length_drop, List.length_take]; rfl)) ?_; (with_reducible refine (exact_digits.calls k _ _ l0_1 true _ ?side1 ?side2 A8.out).mono ?_); (case side1 => repeat (first | exact (Kd.C_below HR0_1.out HB.out) | (with_reducible refine Kd.C_alloc ?_ _) | (with_reducible refine Kd.C_drewN ?_ _) | (with_reducible refine Kd.C_drew ?_))); (case side2 => exact HC0_1.out); rintro e w' ⟨rfl, ⟨nd, rfl⟩⟩; refine ⟨_, rfl, ?_⟩; have p142 : 0 ≤ ((ji10) : Int) := of_decide_eq_true (by first | (with_reducible assumption) | assumption); have q142 : (ji10) < (l0_1.length : Int) := of_decide_eq_true (by first | (with_reducible assumption) | assumption); obtain ⟨ad142, e142, hx142_0⟩ := Kd.at_int HR0_1.out (ji10) p142 q142; cases e142; replace hx142_0 := (HB.out.cell (World.block_lt_of_cell? w _ hx142_0)).trans hx142_0; replace p142 := eq_true p142; replace q142 := eq_true q142; have p143 : 0 ≤ (0 : Int) := (by omega); have q143 : 0 < (l0_1.length : Int) := of_decide_eq_true (by first | (with_reducible assumption) | assumption); obtain ⟨ad143, e143, hx143_0⟩ := Kd.at_int HR0_1.out 0 p143 q143; obtain rfl : ad142 = ad143 := (by injection e143); have qi143 : (0 < l0_1.length) = True := eq_true (by omega); (try rw [show ((0 : Int)).toNat = 0 from rfl] at hx143_0); (try rw [Addr.add_zero'] at hx143_0); replace hx143_0 := (HB.out.cell (World.block_lt_of_cell? w _ hx143_0)).trans hx143_0; replace p143 := eq_true p143; replace q143 := eq_true q143))
                  go_ret
                  exact ⟨by first | rfl | (simp [errW_none, errW_some] <;> rfl) | (simp only [← hji10]; first | rfl | (simp [errW_none, errW_some] <;> rfl)) | (simp [*, errW_none, errW_some] <;> rfl), by repeat (first | (with_reducible first | exact HB.out | apply below_alloc | apply pw_below_drewN | apply below_drew1 | refine below_set ?_ GE140.out) | exact HB.out)⟩
              · rw [if_neg c17] at H
                have c17b0 : ((Go.bits .and .i64 (rd l0_1 0) 1) == 1) = false := beq_eq_false_iff_ne.mpr c17
                have c17b1 : ((Go.bits .and .i64 (rd l0_1 0) 1) != 1) = true := bne_iff_ne.mpr c17
                obtain rfl := Option.some.inj H
                go_enter Tryz.func69, Tryz.ntmps69
                go_wp2_with (first | ((with_reducible refine gate_dst (N := 1) rfl ?_); refine box_event ?hg (N := 1) ?hd (cs := #[.bool a0_0, .slice A0_1 l0_1.length c0_1, .int .i64 a0_2]) (t := 24) ?hr ?_; (case hd => rfl); (case hg => rfl); (case hr => first | (go_simp; done) | (go_simp; rfl)); intro gb140 hg w23 hbox hb; have n0_ := Aside0.mk (below_step (by repeat (first | (with_reducible first | exact HB.out | apply below_alloc | apply pw_below_drewN | apply below_drew1) | exact HB.out)) hb); have n1_ := Aside0.mk (hbox); have n2_ := Aside0.mk ((by rw [hg]; exact (below_size (by repeat (first | (with_reducible first | exact HB.out | apply below_alloc | apply pw_below_drewN | apply below_drew1) | exact HB.out))) : w.heap.size ≤ gb140)); have n3_ := Aside0.mk ((by rw [hg]; exact (below_size (by repeat (first | (with_reducible first | exact HB.out | apply below_alloc | apply pw_below_drewN | apply below_drew1) | exact HB.out))) : w.heap.size ≤ gb140)); clear HB; have HB := n0_; have BK140 := n1_; have GW140 := n2_; have GE140 := n3_; clear n0_ n1_ n2_ n3_; clear hb hbox hg; have hcz24_0 : w23.cell? ⟨gb140, 0, none⟩ = some (.bool a0_0) := (blk_cell BK140.out 0).trans rfl; have hcz24_1 : w23.cell? ⟨gb140, 1, none⟩ = some (.slice A0_1 l0_1.length c0_1) := (blk_cell BK140.out 1).trans rfl; have hcz24_2 : w23.cell? ⟨gb140, 2, none⟩ = some (.int .i64 a0_2) := (blk_cell BK140.out 2).trans rfl; have hfz24_0 := blk_frozen BK140.out 0; have hfz24_1 := blk_frozen BK140.out 1; have hfz24_2 := blk_frozen BK140.out 2) | ((with_reducible refine gate_callee (f := 41) rfl ?_); refine goesL_ (some 19) rfl rfl Tryz.func41 (by kernel_rfl) rfl #[.slice A0_1 l0_1.length c0_1] rfl (by (try simp only [List.map_toArray, List.map_cons, List.map_nil]); first | done | rfl | (simp only [List.length_drop, List.length_take]; rfl)) ?_; (with_reducible refine (exact_digits.calls k _ _ l0_1 true _ ?side1 ?side2 A8.out).mono ?_); (case side1 => repeat (first | exact (Kd.C_below HR0_1.out HB.out) | (with_reducible refine Kd.C_alloc ?_ _) | (with_reducible refine Kd.C_drewN ?_ _) | (with_reducible refine Kd.C_drew ?_))); (case side2 => exact HC0_1.out); rintro e w' ⟨rfl, ⟨nd, rfl⟩⟩; refine ⟨_, rfl, ?_⟩; have p142 : 0 ≤ ((ji10) : Int) := of_decide_eq_true (by first | (with_reducible assumption) | assumption); have q142 : (ji10) < (l0_1.length : Int) := of_decide_eq_true (by first | (with_reducible assumption) | assumption); obtain ⟨ad142, e142, hx142_0⟩ := Kd.at_int HR0_1.out (ji10) p142 q142; cases e142; replace hx142_0 := (HB.out.cell (World.block_lt_of_cell? w _ hx142_0)).trans hx142_0; replace p142 := eq_true p142; replace q142 := eq_true q142; have p143 : 0 ≤ (0 : Int) := (by omega); have q143 : 0 < (l0_1.length : Int) := of_decide_eq_true (by first | (with_reducible assumption) | assumption); obtain ⟨ad143, e143, hx143_0⟩ := Kd.at_int HR0_1.out 0 p143 q143; obtain rfl : ad142 = ad143 := (by injection e143); have qi143 : (0 < l0_1.length) = True := eq_true (by omega); (try rw [show ((0 : Int)).toNat = 0 from rfl] at hx143_0); (try rw [Addr.add_zero'] at hx143_0); replace hx143_0 := (HB.out.cell (World.block_lt_of_cell? w _ hx143_0)).trans hx143_0; replace p143 := eq_true p143; replace q143 := eq_true q143))
                go_ret
                exact ⟨by first | rfl | (simp [errW_none, errW_some] <;> rfl) | (simp only [← hji10]; first | rfl | (simp [errW_none, errW_some] <;> rfl)) | (simp [*, errW_none, errW_some] <;> rfl), by repeat (first | (with_reducible first | exact HB.out | apply below_alloc | apply pw_below_drewN | apply below_drew1 | refine below_set ?_ GE140.out) | exact HB.out)⟩
            · rw [if_neg c16] at H
              exact absurd H (by simp)
        · rw [if_neg c12] at H
          exact absurd H (by simp)
      · rw [if_neg c11] at H
        exact absurd H (by simp)
    · replace c9 := Bool.eq_false_iff.mpr c9
      subst c9
      have H1 : (some false) = some r := by rw [if_neg (show ¬ (false = true) by decide)] at H; exact H
      clear H
      have H := H1
      clear H1
      obtain rfl := Option.some.inj H
      go_enter Tryz.func69, Tryz.ntmps69
      go_wp2_with (first | ((with_reducible refine gate_dst (N := 1) rfl ?_); refine box_event ?hg (N := 1) ?hd (cs := #[.bool a0_0, .slice A0_1 l0_1.length c0_1, .int .i64 a0_2]) (t := 24) ?hr ?_; (case hd => rfl); (case hg => rfl); (case hr => first | (go_simp; done) | (go_simp; rfl)); intro gb140 hg w25 hbox hb; have n0_ := Aside0.mk (below_step (by repeat (first | (with_reducible first | exact HB.out | apply below_alloc | apply pw_below_drewN | apply below_drew1) | exact HB.out)) hb); have n1_ := Aside0.mk (hbox); have n2_ := Aside0.mk ((by rw [hg]; exact (below_size (by repeat (first | (with_reducible first | exact HB.out | apply below_alloc | apply pw_below_drewN | apply below_drew1) | exact HB.out))) : w.heap.size ≤ gb140)); have n3_ := Aside0.mk ((by rw [hg]; exact (below_size (by repeat (first | (with_reducible first | exact HB.out | apply below_alloc | apply pw_below_drewN | apply below_drew1) | exact HB.out))) : w.heap.size ≤ gb140)); clear HB; have HB := n0_; have BK140 := n1_; have GW140 := n2_; have GE140 := n3_; clear n0_ n1_ n2_ n3_; clear hb hbox hg; have hcz26_0 : w25.cell? ⟨gb140, 0, none⟩ = some (.bool a0_0) := (blk_cell BK140.out 0).trans rfl; have hcz26_1 : w25.cell? ⟨gb140, 1, none⟩ = some (.slice A0_1 l0_1.length c0_1) := (blk_cell BK140.out 1).trans rfl; have hcz26_2 : w25.cell? ⟨gb140, 2, none⟩ = some (.int .i64 a0_2) := (blk_cell BK140.out 2).trans rfl; have hfz26_0 := blk_frozen BK140.out 0; have hfz26_1 := blk_frozen BK140.out 1; have hfz26_2 := blk_frozen BK140.out 2) | ((with_reducible refine gate_callee (f := 41) rfl ?_); refine goesL_ (some 19) rfl rfl Tryz.func41 (by kernel_rfl) rfl #[.slice A0_1 l0_1.length c0_1] rfl (by (try simp only [List.map_toArray, List.map_cons, List.map_nil]); first | done | rfl | (simp only [List.length_drop, List.length_take]; rfl)) ?_; (with_reducible refine (exact_digits.calls k _ _ l0_1 false _ ?side1 ?side2 A8.out).mono ?_); (case side1 => repeat (first | exact (Kd.C_below HR0_1.out HB.out) | (with_reducible refine Kd.C_alloc ?_ _) | (with_reducible refine Kd.C_drewN ?_ _) | (with_reducible refine Kd.C_drew ?_))); (case side2 => exact HC0_1.out); rintro e w' ⟨rfl, ⟨nd, rfl⟩⟩; refine ⟨_, rfl, ?_⟩))
      go_ret
      exact ⟨by first | rfl | (simp [errW_none, errW_some] <;> rfl) | (simp [*, errW_none, errW_some] <;> rfl), by repeat (first | (with_reducible first | exact HB.out | apply below_alloc | apply pw_below_drewN | apply below_drew1 | refine below_set ?_ GE140.out) | exact HB.out)⟩
attribute [local go_sem] max2_int min2_int max_two min_two max_three min_three max_four min_four   -- for this text's walks alone
set_option linter.unusedVariables false
set_option linter.unusedSimpArgs false
def pupillaw2_Same.l0 : Nat → List Int → List Int → Int → Option (Bool)
  | 0, _, _, _ => none
  | k + 1, x0, x1, x5 => if x5 < (x0.length : Int) then (if 0 ≤ x5 then (if x5 < (x1.length : Int) then (if (rd x0 x5) = (rd x1 x5) then (pupillaw2_Same.l0 k x0 x1 (wrap64 (x5 + 1))) else (some false)) else (none)) else (none)) else (some true)
def pupillaw2_Same.f (k : Nat) (l0 : List Int) (l1 : List Int) : Option (Bool) := if (l0.length : Int) = (l1.length : Int) then (pupillaw2_Same.l0 k l0 l1 0) else (some false)
theorem pupillaw2_Same.mono_l : ∀ k, (∀ y0 y1 y2, LeO (pupillaw2_Same.l0 k y0 y1 y2) (pupillaw2_Same.l0 (k + 1) y0 y1 y2))
  | 0 => fun _ _ _ r h => by simp [pupillaw2_Same.l0] at h
  | k + 1 => by
    have ih0 := pupillaw2_Same.mono_l k
    · intro y0 y1 y2
      unfold pupillaw2_Same.l0
      repeat' first
      | (with_reducible exact ih0 _ _ _)
      | (with_reducible exact LeO.refl _)
      | (with_reducible exact LeO.none _)
      | (with_reducible refine LeO.ite ?_ ?_)
      | (with_reducible refine LeO.bind ?_ (fun _ => ?_))
      | exact ih0 _ _ _
      | exact LeO.none _
      | refine LeO.ite ?_ ?_
      | refine LeO.bind ?_ (fun _ => ?_)
theorem pupillaw2_Same.mono : ∀ a0 a1 k, LeO (pupillaw2_Same.f k a0 a1) (pupillaw2_Same.f (k + 1) a0 a1) := by
  intro a0 a1 k
  have ih0 := pupillaw2_Same.mono_l k
  unfold pupillaw2_Same.f
  repeat' first
      | (with_reducible exact ih0 _ _ _)
      | (with_reducible exact LeO.refl _)
      | (with_reducible exact LeO.none _)
      | (with_reducible refine LeO.ite ?_ ?_)
      | (with_reducible refine LeO.bind ?_ (fun _ => ?_))
      | exact ih0 _ _ _
      | exact LeO.none _
      | refine LeO.ite ?_ ?_
      | refine LeO.bind ?_ (fun _ => ?_)
set_option maxHeartbeats 8000000 in
set_option maxRecDepth 100000 in
theorem pupillaw2_Same.calls (k : Nat) (A0 : Option Addr) (c0 : Nat) (l0 : List Int) (A1 : Option Addr) (c1 : Nat) (l1 : List Int) (r : Bool) (w : World) (hr0 : Kd.C (Kd.int .i64) w A0 l0.length l0) (hc0 : l0.length ≤ c0) (hr1 : Kd.C (Kd.int .i64) w A1 l1.length l1) (hc1 : l1.length ≤ c1) (h : pupillaw2_Same.f k l0 l1 = some r) :
    Calls Tryz.prog 47 #[.slice A0 l0.length c0, .slice A1 l1.length c1] w fun e w' => e = .returned (.bool r) ∧ Drawn0 w w' := by
  have HR0 := Aside0.mk hr0
  have HC0 := Aside0.mk hc0
  clear hr0 hc0
  have HR1 := Aside0.mk hr1
  have HC1 := Aside0.mk hc1
  clear hr1 hc1
  have H : (if (l0.length : Int) = (l1.length : Int) then (pupillaw2_Same.l0 k l0 l1 0) else (some false)) = some r := h
  clear h
  by_cases c3 : (l0.length : Int) = (l1.length : Int)
  · rw [if_pos c3] at H
    have c3b0 : ((l0.length : Int) == (l1.length : Int)) = true := beq_iff_eq.mpr c3
    have c3b1 : ((l0.length : Int) != (l1.length : Int)) = false := bne_eq_false_iff_eq.mpr c3
    have c3b2 : (l0.length == l1.length) = true := by first | simpa using c3 | (simp at c3 ⊢; omega)
    clear c3
    have H' := Aside0.mk H
    clear H
    go_enter Tryz.func47, Tryz.ntmps47
    go_wp2
    repeat (go_quiet (fail); try go_wp2)
    go_loopg [5] k (fun kq v5 w' => ∃ (x5_1 : Int), v5 = .int .i64 x5_1 ∧ Aside0 (pupillaw2_Same.l0 kq l0 l1 x5_1 = some r) ∧ Aside0 (kq ≤ k) ∧ Drawn0 w w')
    case atStart => exact ⟨(0), (by first | rfl | (simp; done) | (simp [*]; done)), H', ⟨Nat.le_refl _⟩, by repeat (first | exact Drawn0.refl _ | apply Drawn0.step)⟩
    case round =>
      clear H'
      try clear c1
      try clear p2
      try clear c3
      try clear c3b0
      try clear c3b1
      try clear c3b2
      obtain ⟨x5_1, rfl, HA, HK1, ⟨m1, rfl⟩⟩ := hrel
      cases gk with
      | zero => exact absurd HA.out (by simp [pupillaw2_Same.l0])
      | succ k1 =>
        have H := HA.out
        clear HA
        simp only [pupillaw2_Same.l0] at H
        by_cases c4 : x5_1 < (l0.length : Int)
        · rw [if_pos c4] at H
          have c4b0 : decide (x5_1 < (l0.length : Int)) = true := decide_eq_true c4
          clear c4
          by_cases c5 : 0 ≤ x5_1
          · rw [if_pos c5] at H
            have c5b0 : decide (0 ≤ x5_1) = true := decide_eq_true c5
            clear c5
            by_cases c6 : x5_1 < (l1.length : Int)
            · rw [if_pos c6] at H
              have c6b0 : decide (x5_1 < (l1.length : Int)) = true := decide_eq_true c6
              clear c6
              by_cases c7 : (rd l0 x5_1) = (rd l1 x5_1)
              · rw [if_pos c7] at H
                have c7b0 : ((rd l0 x5_1) == (rd l1 x5_1)) = true := beq_iff_eq.mpr c7
                have c7b1 : ((rd l0 x5_1) != (rd l1 x5_1)) = false := bne_eq_false_iff_eq.mpr c7
                clear c7
                have H' := Aside0.mk H
                clear H
                have p345 : 0 ≤ (x5_1 : Int) := of_decide_eq_true (by first | (with_reducible assumption) | assumption)
                have q345 : x5_1 < (l0.length : Int) := of_decide_eq_true (by first | (with_reducible assumption) | assumption)
                obtain ⟨ad345, e345, hx345_0⟩ := Kd.at_int HR0.out x5_1 p345 q345
                cases e345
                replace p345 := eq_true p345
                replace q345 := eq_true q345
                have p346 : 0 ≤ (x5_1 : Int) := of_decide_eq_true (by first | (with_reducible assumption) | assumption)
                have q346 : x5_1 < (l1.length : Int) := of_decide_eq_true (by first | (with_reducible assumption) | assumption)
                obtain ⟨ad346, e346, hx346_0⟩ := Kd.at_int HR1.out x5_1 p346 q346
                cases e346
                replace p346 := eq_true p346
                replace q346 := eq_true q346
                go_wp2
                repeat (go_quiet (fail); try go_wp2)
                go_roundg k1
                case measure => have := HK1.out; omega
                case rel => exact ⟨(wrap64 (x5_1 + 1)), (by first | rfl | (simp; done) | (simp [*]; done)), H', ⟨by have := HK1.out; omega⟩, by repeat (first | exact Drawn0.refl _ | apply Drawn0.step)⟩
              · rw [if_neg c7] at H
                have c7b0 : ((rd l0 x5_1) == (rd l1 x5_1)) = false := beq_eq_false_iff_ne.mpr c7
                have c7b1 : ((rd l0 x5_1) != (rd l1 x5_1)) = true := bne_iff_ne.mpr c7
                obtain rfl := Option.some.inj H
                have p345 : 0 ≤ (x5_1 : Int) := of_decide_eq_true (by first | (with_reducible assumption) | assumption)
                have q345 : x5_1 < (l0.length : Int) := of_decide_eq_true (by first | (with_reducible assumption) | assumption)
                obtain ⟨ad345, e345, hx345_0⟩ := Kd.at_int HR0.out x5_1 p345 q345
                cases e345
                replace p345 := eq_true p345
                replace q345 := eq_true q345
                have p346 : 0 ≤ (x5_1 : Int) := of_decide_eq_true (by first | (with_reducible assumption) | assumption)
                have q346 : x5_1 < (l1.length : Int) := of_decide_eq_true (by first | (with_reducible assumption) | assumption)
                obtain ⟨ad346, e346, hx346_0⟩ := Kd.at_int HR1.out x5_1 p346 q346
                cases e346
                replace p346 := eq_true p346
                replace q346 := eq_true q346
                go_wp2
                repeat (go_quiet (fail); try go_wp2)
                go_ret
                exact ⟨by first | rfl | (simp; done) | (simp [*]; done), by repeat (first | exact Drawn0.refl _ | apply Drawn0.step)⟩
            · rw [if_neg c6] at H
              exact absurd H (by simp)
          · rw [if_neg c5] at H
            exact absurd H (by simp)
        · rw [if_neg c4] at H
          have c4b0 : decide (x5_1 < (l0.length : Int)) = false := decide_eq_false c4
          clear c4
          obtain rfl := Option.some.inj H
          go_wp2
          repeat (go_quiet (fail); try go_wp2)
          go_ret
          exact ⟨by first | rfl | (simp; done) | (simp [*]; done), by repeat (first | exact Drawn0.refl _ | apply Drawn0.step)⟩
  · rw [if_neg c3] at H
    have c3b0 : ((l0.length : Int) == (l1.length : Int)) = false := beq_eq_false_iff_ne.mpr c3
    have c3b1 : ((l0.length : Int) != (l1.length : Int)) = true := bne_iff_ne.mpr c3
    have c3b2 : (l0.length == l1.length) = false := by first | simpa using c3 | (simp at c3 ⊢; omega)
    obtain rfl := Option.some.inj H
    go_enter Tryz.func47, Tryz.ntmps47
    go_wp2
    repeat (go_quiet (fail); try go_wp2)
    go_ret
    exact ⟨by first | rfl | (simp; done) | (simp [*]; done), by repeat (first | exact Drawn0.refl _ | apply Drawn0.step)⟩
end Go.Proofs.YtlfmgdpbjapdjaaGreatFmtBesafter.F
