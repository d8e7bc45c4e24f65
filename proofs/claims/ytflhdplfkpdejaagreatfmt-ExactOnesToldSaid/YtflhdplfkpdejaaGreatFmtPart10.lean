/- Part 10 of the walk of ExactOnes: ExH LawA LawB LawC ExI LawD BitsC BitsD NatR. -/
import Derived.Test.YtflhdplfkpdejaaGreatFmtPart09
import Derived.Lib.AppendZerosOnto
import Derived.Maps.AppendAt
import Derived.StillTailTactics
import Derived.Test.YtflhdplfkpdejaaGreatFmtPart03
import Derived.Shelf.Spec.BitsCarry
import Derived.Laws.BitsLemmas
import Derived.Test.YtflhdplfkpdejaaGreatFmtPart04
import Derived.Shelf.Bits.Mul64
import Derived.Lib.SliceRun
namespace Go.Proofs.YtflhdplfkpdejaaGreatFmt
open Go.RowKit Go.Proofs.YtflhdplfkpdejaaGreatFmtW.PrintWords Go.Proofs.YtflhdplfkpdejaaGreatFmtW.PrintLast Go.Proofs.YtflhdplfkpdejaaGreatFmtW.PrintMore
set_option maxRecDepth 100000 in
set_option maxHeartbeats 4000000 in
theorem scale_bad (neg : Bool) (A : Option Addr) (c : Nat) (ds : List Int) (e k : Int) (w : World) (hr : ReadsInt w .i64 A ds.length ds) (hc : ds.length ≤ c) (hl : ds.length < 4611686018427387904) (hv : vB neg ds e = false) :
    Calls Tryz.prog 16 #[.agg #[.bool neg, .slice A ds.length c, .int .i64 e], .int .i64 k] w fun en w' => en = errNum 7 ∧ Only w w' (fun _ => False) := by
  have HV := Lib.hid hv
  have ho4 : ∀ a b c d : Obj, Only w ((((w.alloc a).alloc b).alloc c).alloc d) (fun _ => False) := fun a b c d => ((((Only.refl w _).alloc a).alloc b).alloc c).alloc d
  have HO := Lib.hid ho4
  clear hv ho4
  go_enter_defers Tryz.func16, Tryz.ntmps16
  go_wp2_with fail
  obtain ⟨h1, h2, h3, h4⟩ := heap_four w (.cells #[.bool neg, .slice A ds.length c, .int .i64 e] 24) (.cells #[.bool false, .slice none 0 0, .int .i64 0] 24) (.cells #[.int .i64 0] 32) (.cells #[.bool neg, .slice A ds.length c, .int .i64 e] 24)
  refine (open1_bad (w.heap.size + 1 + 1 + 1) neg A c ds e _ h4 (reads_only hr (HO.out _ _ _ _) (fun _ _ h => h)) hc hl HV.out).mono ?_
  rintro en w1 ⟨rfl, ho⟩
  refine door_panic rfl _ w1 (w.heap.size + 1) (w.heap.size + 1 + 1) 7 _ rfl rfl ((ho.kept _ (blk_lt h2) (fun h => h)).trans h2) ((ho.kept _ (blk_lt h3) (fun h => h)).trans h3) (fun w' hw' => ⟨rfl, ?_⟩)
  exact ((HO.out _ _ _ _).trans ho).step hw' (by rintro i hi rfl; omega)
set_option maxRecDepth 100000 in
set_option maxHeartbeats 4000000 in
theorem scale_ok (neg : Bool) (A : Option Addr) (c : Nat) (ds : List Int) (e k : Int) (w : World) (hr : ReadsInt w .i64 A ds.length ds) (hc : ds.length ≤ c) (hT : Tab w) (hv : vB neg ds e = true) :
    Calls Tryz.prog 16 #[.agg #[.bool neg, .slice A ds.length c, .int .i64 e], .int .i64 k] w (Ans w (sval neg ds) (e + min (max k (-4194304)) 4194304)) := by
  obtain ⟨hdg, hlen, he, he2⟩ := vB_digs hv
  have HV := Lib.hid hv
  have HO := Lib.hid (fun a b c d : Obj => (((((Only.refl w (fun _ => False)).alloc a).alloc b).alloc c).alloc d))
  have hcl : -4194304 ≤ min (max k (-4194304)) 4194304 ∧ min (max k (-4194304)) 4194304 ≤ 4194304 := by omega
  clear hv
  go_enter_defers Tryz.func16, Tryz.ntmps16
  go_wp2_with fail
  obtain ⟨h1, h2, h3, h4⟩ := heap_four w (.cells #[.bool neg, .slice A ds.length c, .int .i64 e] 24) (.cells #[.bool false, .slice none 0 0, .int .i64 0] 24) (.cells #[.int .i64 0] 32) (.cells #[.bool neg, .slice A ds.length c, .int .i64 e] 24)
  have ho4 := HO.out (.cells #[.bool neg, .slice A ds.length c, .int .i64 e] 24) (.cells #[.bool false, .slice none 0 0, .int .i64 0] 24) (.cells #[.int .i64 0] 32) (.cells #[.bool neg, .slice A ds.length c, .int .i64 e] 24)
  generalize hw4 : ((((w.alloc (.cells #[.bool neg, .slice A ds.length c, .int .i64 e] 24)).alloc (.cells #[.bool false, .slice none 0 0, .int .i64 0] 24)).alloc (.cells #[.int .i64 0] 32)).alloc (.cells #[.bool neg, .slice A ds.length c, .int .i64 e] 24)) = w4 at *
  clear hw4
  refine (open1_ok (w.heap.size + 1 + 1 + 1) neg A c ds e w4 h4 (reads_only hr ho4 (fun _ _ h => h)) hc HV.out).mono ?_
  rintro en w5 ⟨rfl, ho5, g, hout, og, hig, hgB, hogB⟩
  have hYlt := blk_lt h2
  have hElt := blk_lt h3
  have h45 := ho5.base.size
  have hY5 := (ho5.kept _ hYlt (fun h => h)).trans h2
  have hE5 := (ho5.kept _ hElt (fun h => h)).trans h3
  have o0 : w5.cell? ⟨w4.heap.size, 0, none⟩ = some (.pointer (some ⟨g, 0, none⟩)) := blk_cell hout 0
  have o1 : w5.cell? ⟨w4.heap.size, 1, none⟩ = some (.int .i64 e) := blk_cell hout 1
  have of1 := blk_frozen hout 1
  go_wp2_with fail
  generalize min (max k (-4194304)) 4194304 = K at *
  have hi6 : IsInt (w5.setCell ⟨w4.heap.size, 1, none⟩ (.int .i64 (e + K))) g og (sval neg ds) := by
    refine hig.only (S := fun k => k = w4.heap.size) ((Only.refl w5 (fun k => k = w4.heap.size)).set (.inr rfl) _) (fun h => ?_) (fun b hb h => ?_)
    · obtain ⟨v, hg1, hn1⟩ := hig
      exact blk_ne hout hg1 (by decide) h.symm
    · obtain ⟨v, hg1, hn1⟩ := hig
      obtain ⟨cells, hc⟩ := hn1.typed b hb
      exact blk_ne hout hc (by decide) h.symm
  have ho46 : Only w4 (w5.setCell ⟨w4.heap.size, 1, none⟩ (.int .i64 (e + K))) (fun _ => False) := ho5.set (.inl (Nat.le_refl _)) _
  generalize w5.setCell ⟨w4.heap.size, 1, none⟩ (.int .i64 (e + K)) = w6 at *
  have hY6 := (ho46.kept _ hYlt (fun h => h)).trans h2
  have hE6 := (ho46.kept _ hElt (fun h => h)).trans h3
  generalize hZ : sval neg ds = Z at *
  have hfit : Fits ((Int.natAbs Z : Nat) : Int) := by rw [← hZ, sval_abs neg hdg]; exact fits_val hdg (by omega)
  have HZZ := Lib.hid hZ
  clear hZ
  have hX : -2305843009213693952 ≤ e + K ∧ e + K ≤ 2305843009213693952 := by omega
  generalize e + K = X at *
  refine (told_any g og Z X w6 hi6 hfit (hT.only (ho4.trans ho46)) hX.1 hX.2).mono ?_
  rintro en w7 ⟨ho7, hcase⟩
  have hY7 := (ho7.kept _ (blk_lt hY6) (fun h => h)).trans hY6
  have hE7 := (ho7.kept _ (blk_lt hE6) (fun h => h)).trans hE6
  have y0 : w7.cell? ⟨w.heap.size + 1, 0, none⟩ = some (.bool false) := blk_cell hY7 0
  have y1 : w7.cell? ⟨w.heap.size + 1, 1, none⟩ = some (.slice none 0 0) := blk_cell hY7 1
  have y2 : w7.cell? ⟨w.heap.size + 1, 2, none⟩ = some (.int .i64 0) := blk_cell hY7 2
  have e0 : w7.cell? ⟨w.heap.size + 1 + 1, 0, none⟩ = some (.int .i64 0) := blk_cell hE7 0
  have fy0 := blk_frozen hY7 0
  have fy1 := blk_frozen hY7 1
  have fy2 := blk_frozen hY7 2
  have fe0 := blk_frozen hE7 0
  have HST := Lib.hid (stored hY7 hE7)
  have HOW := Lib.hid ((ho4.trans ho46).trans ho7)
  rcases hcase with ⟨hz, rfl⟩ | ⟨hz, t, k, q, a1, a2, a3, a4, ⟨hbad, rfl⟩ | ⟨b1, b2, b3, A7, ds7, c7, rfl, hown, hval, hnm⟩⟩
  · have HZ := Lib.hid hz
    clear hz
    go_wp2_with fail
    obtain ⟨s1, s2, s3⟩ := HST.out (.bool false) (.slice none 0 0) (.int .i64 0) (.int .i64 0)
    refine door_ok rfl _ _ (w.heap.size + 1) (w.heap.size + 1 + 1) _ _ _ 0 _ rfl rfl s1 s2 ?_
    rw [HZ.out]
    exact Ans.zero HOW.out (s3.mono (by rintro i hi (rfl | rfl) <;> omega))
  · refine door_panic rfl _ w7 (w.heap.size + 1) (w.heap.size + 1 + 1) 2 _ rfl rfl hY7 hE7 (fun w' hw' => ?_)
    exact Ans.long hz a1 a2 a3 a4 hbad HOW.out (hw'.mono (by rintro i hi rfl; omega))
  · have HA := Lib.hid (And.intro hz (And.intro a1 (And.intro a2 (And.intro a3 (And.intro a4 (And.intro hown (And.intro hval hnm)))))))
    clear hz a1 a2 a3 a4 hown hval hnm
    go_wp2_with fail
    obtain ⟨s1, s2, s3⟩ := HST.out (.bool (decide (Z < 0))) (.slice A7 ds7.length c7) (.int .i64 (X + t)) (.int .i64 0)
    obtain ⟨g1, g2, g3, g4, g5, g6, g7, g8⟩ := HA.out
    refine door_ok rfl _ _ (w.heap.size + 1) (w.heap.size + 1 + 1) _ _ _ 0 _ rfl rfl s1 s2 ?_
    refine Ans.some_ g1 g2 g3 g4 g5 b1 b2 b3 HOW.out (s3.mono (by rintro i hi (rfl | rfl) <;> omega)) (own_two g6 hY7 hE7 s3) ?_ g7 g8
    have := (ho4.trans ho46).base.size
    exact this
theorem results_sign {fn : Func} {p q : Tmp} (h : fn.results = #[.tmp p, .cell q 32]) (tmps : Array Value) (w : World) (E : Nat) (a : Value) (n : Int)
    (hp : tmps.getD p undef = a) (hq : tmps.getD q undef = .pointer (some ⟨E, 0, none⟩)) (hv : w.cell? ⟨E, 0, none⟩ = some (.int .i64 n)) :
    (results fn tmps).run Tryz.prog w = .ok (.tuple #[a, .int .i64 n]) w := by
  have hp' : tmps[p]?.getD undef = a := by simpa using hp
  have hq' : tmps[q]?.getD undef = .pointer (some ⟨E, 0, none⟩) := by simpa using hq
  simp [results, h, hp', hq', asAddr, go_sem, hv]
theorem sign_panic {fn : Func} {p q : Tmp} (h : fn.results = #[.tmp p, .cell q 32]) (tmps : Array Value) (w : World) (E : Nat) (a : Value) (n : Int) (R : Ending → World → Prop)
    (hp : tmps.getD p undef = a) (hq : tmps.getD q undef = .pointer (some ⟨E, 0, none⟩)) (hE : w.heap[E]? = some (.cells #[.int .i64 0] 32 (0, 0)))
    (hR : ∀ w', Only w w' (fun k => k = E) → R (.returned (.tuple #[a, .int .i64 n])) w') :
    Leaves Tryz.prog fn tmps R [{ target := .fn (.func 25) #[], args := #[.pointer (some ⟨E, 0, none⟩)] }] (.panicking [{ v := .iface 57 (.agg #[.int .i64 n]), recovered := false }]) w := by
  refine leaves_cons (f := 25) (args := #[.pointer (some ⟨E, 0, none⟩)]) (by simp) (by simp [go_sem]) ?_
  refine (caught_some E n 0 [] w (blk_cell hE 0) (blk_frozen hE 0)).mono ?_
  rintro e u' w' ⟨rfl, rfl, rfl⟩
  have hE1 := blk_set (blk_alloc hE (.cells #[.int .i64 n] 57)) 0 (.int .i64 n)
  refine ⟨_, results_sign h tmps _ E _ n hp hq (by simpa using blk_cell hE1 0), hR _ ?_⟩
  exact ((Only.refl w (fun k => k = E)).alloc _).set (.inr rfl) _
theorem sign_door {fn : Func} {p q : Tmp} (h : fn.results = #[.tmp p, .cell q 32]) (tmps : Array Value) (w : World) (E : Nat) (a : Value) (n : Int) (R : Ending → World → Prop)
    (hp : tmps.getD p undef = a) (hq : tmps.getD q undef = .pointer (some ⟨E, 0, none⟩)) (hE : w.cell? ⟨E, 0, none⟩ = some (.int .i64 n))
    (hR : R (.returned (.tuple #[a, .int .i64 n])) w) :
    Leaves Tryz.prog fn tmps R [{ target := .fn (.func 25) #[], args := #[.pointer (some ⟨E, 0, none⟩)] }] .returning w := by
  refine leaves_cons (f := 25) (args := #[.pointer (some ⟨E, 0, none⟩)]) (by simp) (by simp [go_sem]) ?_
  refine (caught_idle ⟨E, 0, none⟩ w).mono ?_
  rintro e u' w' ⟨rfl, rfl, rfl⟩
  exact ⟨_, results_sign h tmps _ E _ n hp hq hE, hR⟩
set_option maxRecDepth 100000 in
set_option maxHeartbeats 4000000 in
theorem sign_bad (neg : Bool) (A : Option Addr) (c : Nat) (ds : List Int) (e : Int) (w : World) (hr : ReadsInt w .i64 A ds.length ds) (hc : ds.length ≤ c) (hl : ds.length < 4611686018427387904) (hv : vB neg ds e = false) :
    Calls Tryz.prog 15 #[.agg #[.bool neg, .slice A ds.length c, .int .i64 e]] w fun en w' => en = .returned (.tuple #[.int .i64 0, .int .i64 7]) ∧ Only w w' (fun _ => False) := by
  have HV := Lib.hid hv
  have HO := Lib.hid (fun a b c : Obj => ((((Only.refl w (fun _ => False)).alloc a).alloc b).alloc c))
  clear hv
  go_enter_defers Tryz.func15, Tryz.ntmps15
  go_wp2_with fail
  obtain ⟨h1, h2, h3⟩ := heap_three w (.cells #[.bool neg, .slice A ds.length c, .int .i64 e] 24) (.cells #[.int .i64 0] 32) (.cells #[.bool neg, .slice A ds.length c, .int .i64 e] 24)
  refine (open1_bad (w.heap.size + 1 + 1) neg A c ds e _ h3 (reads_only hr (HO.out _ _ _) (fun _ _ h => h)) hc hl HV.out).mono ?_
  rintro en w1 ⟨rfl, ho⟩
  refine sign_panic rfl _ w1 (w.heap.size + 1) _ 7 _ rfl rfl ((ho.kept _ (blk_lt h2) (fun h => h)).trans h2) (fun w' hw' => ⟨rfl, ?_⟩)
  exact ((HO.out _ _ _).trans ho).step hw' (by rintro i hi rfl; omega)
set_option maxRecDepth 100000 in
set_option maxHeartbeats 4000000 in
theorem sign_ok (neg : Bool) (A : Option Addr) (c : Nat) (ds : List Int) (e : Int) (w : World) (hr : ReadsInt w .i64 A ds.length ds) (hc : ds.length ≤ c) (hv : vB neg ds e = true) :
    Calls Tryz.prog 15 #[.agg #[.bool neg, .slice A ds.length c, .int .i64 e]] w fun en w' => en = .returned (.tuple #[.int .i64 (sval neg ds).sign, .int .i64 0]) ∧ Only w w' (fun _ => False) := by
  have HV := Lib.hid hv
  have HO := Lib.hid (fun a b c : Obj => ((((Only.refl w (fun _ => False)).alloc a).alloc b).alloc c))
  clear hv
  go_enter_defers Tryz.func15, Tryz.ntmps15
  go_wp2_with fail
  obtain ⟨h1, h2, h3⟩ := heap_three w (.cells #[.bool neg, .slice A ds.length c, .int .i64 e] 24) (.cells #[.int .i64 0] 32) (.cells #[.bool neg, .slice A ds.length c, .int .i64 e] 24)
  have ho3 := HO.out (.cells #[.bool neg, .slice A ds.length c, .int .i64 e] 24) (.cells #[.int .i64 0] 32) (.cells #[.bool neg, .slice A ds.length c, .int .i64 e] 24)
  generalize hw3 : (((w.alloc (.cells #[.bool neg, .slice A ds.length c, .int .i64 e] 24)).alloc (.cells #[.int .i64 0] 32)).alloc (.cells #[.bool neg, .slice A ds.length c, .int .i64 e] 24)) = w3 at *
  clear hw3
  refine (open1_ok (w.heap.size + 1 + 1) neg A c ds e w3 h3 (reads_only hr ho3 (fun _ _ h => h)) hc HV.out).mono ?_
  rintro en w5 ⟨rfl, ho5, g, hout, og, hig, hgB, hogB⟩
  have hE5 := (ho5.kept _ (blk_lt h2) (fun h => h)).trans h2
  have o0 : w5.cell? ⟨w3.heap.size, 0, none⟩ = some (.pointer (some ⟨g, 0, none⟩)) := blk_cell hout 0
  have e0 : w5.cell? ⟨w.heap.size + 1, 0, none⟩ = some (.int .i64 0) := blk_cell hE5 0
  have fe0 := blk_frozen hE5 0
  go_wp2_with fail
  refine (sign_int g og _ w5 hig).mono ?_
  rintro en w6 ⟨rfl, rfl⟩
  go_wp2_with fail
  have hE6 := blk_set hE5 0 (.int .i64 0)
  refine sign_door rfl _ _ (w.heap.size + 1) _ 0 _ rfl rfl (by simpa using blk_cell hE6 0) ⟨rfl, ?_⟩
  exact (ho3.trans ho5).set (.inl (by show w.heap.size ≤ w.heap.size + 1; omega)) _
end Go.Proofs.YtflhdplfkpdejaaGreatFmt
namespace Go.Proofs.YtflhdplfkpdejaaGreatFmt
open Go.RowKit Go.Proofs.YtflhdplfkpdejaaGreatFmtW.PrintWords
theorem Digs.tail {d : Int} {ds : List Int} (h : Digs (d :: ds)) : 0 ≤ d ∧ d < 1073741824 ∧ Digs ds := ⟨(h d List.mem_cons_self).1, (h d List.mem_cons_self).2, fun x hx => h x (List.mem_cons_of_mem _ hx)⟩
theorem val_inj : ∀ (ds es : List Int), Digs ds → Digs es → ds.length = es.length → val ds = val es → ds = es
  | [], [], _, _, _, _ => rfl
  | [], _ :: _, _, _, h, _ => by simp at h
  | _ :: _, [], _, _, h, _ => by simp at h
  | d :: ds, e :: es, h1, h2, h3, h4 => by
    obtain ⟨a, b, c⟩ := h1.tail
    obtain ⟨a', b', c'⟩ := h2.tail
    simp only [val] at h4
    obtain rfl : d = e := by omega
    rw [val_inj ds es c c' (by simpa using h3) (by omega)]
theorem val_low : ∀ (ds : List Int), Nm ds → 0 < ds.length → 2 ^ (30 * (ds.length - 1)) ≤ val ds
  | [], _, h => by simp at h
  | [d], h, _ => by
    have h1 := h.2 (by simp)
    obtain ⟨a, b, _⟩ := h.1.tail
    simp [val] at *
    omega
  | d :: e :: ds, h, _ => by
    obtain ⟨a, b, c⟩ := h.1.tail
    have h1 := val_low (e :: ds) ⟨c, fun _ => by simpa using h.2 (by simp)⟩ (by simp)
    rw [val, show 30 * ((d :: e :: ds).length - 1) = 30 + 30 * ((e :: ds).length - 1) by simp; omega, Int.pow_add]
    have e30 : (2 : Int) ^ 30 = 1073741824 := by decide
    rw [e30]
    generalize (2 : Int) ^ (30 * ((e :: ds).length - 1)) = P at *
    omega
theorem len_le {ds es : List Int} (h1 : Nm ds) (h2 : Nm es) (h : val ds = val es) : ds.length ≤ es.length := by
  by_cases h0 : 0 < ds.length
  · have a := val_low ds h1 h0
    have b := (val_range es h2.1).2
    rw [← h] at b
    have := pow_lt (Int.lt_of_le_of_lt a b)
    omega
  · omega
theorem nm_inj {ds es : List Int} (h1 : Nm ds) (h2 : Nm es) (h : val ds = val es) : ds = es :=
  val_inj ds es h1.1 h2.1 (Nat.le_antisymm (len_le h1 h2 h) (len_le h2 h1 h.symm)) h
theorem val_odd (ds : List Int) (h : ds.getD 0 0 % 2 = 1) : val ds % 2 = 1 := by
  cases ds with
  | nil => simp at h
  | cons d ds =>
    have h : d % 2 = 1 := h
    simp only [val]
    omega
theorem odd_shift {x q : Int} {t : Nat} (h : x = q * 2 ^ t) (hx : x % 2 = 1) : t = 0 ∧ q = x := by
  cases t with
  | zero => simp at h; exact ⟨rfl, h.symm⟩
  | succ t =>
    exfalso
    rw [Int.pow_succ, ← Int.mul_assoc] at h
    omega
theorem blen_digs {ds : List Int} (h : Digs ds) (hl : ds.length ≤ 2000) {k : Nat} (hk : BLen (val ds) k) : k ≤ 60000 := by
  by_cases h0 : 0 < k
  · have a := hk.2 h0
    have b := (val_range ds h).2
    have := pow_lt (Int.lt_of_le_of_lt a b)
    omega
  · omega
theorem sval_neg (neg : Bool) {ds : List Int} (_ : Digs ds) (h0 : 0 < val ds) : decide (sval neg ds < 0) = neg := by
  cases neg <;> simp [sval] <;> omega
theorem sval_neg' (neg : Bool) {ds : List Int} (_ : Digs ds) (h0 : 0 < val ds) : decide (-sval neg ds < 0) = !neg := by
  cases neg <;> simp [sval] <;> omega
def Same1 (w : World) (neg : Bool) (ds : List Int) (e : Int) (en : Ending) (w' : World) : Prop :=
  ∃ v, en = .returned (.tuple #[.agg #[.bool neg, v, .int .i64 e], .int .i64 0]) ∧ w'.ownsRow w.heap.size 3 1 v ds.length (nums .i64 ds)
theorem ans_same {w w' : World} {z e : Int} {en : Ending} {ds : List Int} (h : Ans w z e en w') (hv : ((Int.natAbs z : Nat) : Int) = val ds) (hn : Nm ds) (hl : ds.length ≤ 2000) (hl0 : 0 < ds.length) (ho : ds.getD 0 0 % 2 = 1) :
    Only w w' (fun _ => False) ∧ (if -1048576 ≤ e ∧ e ≤ 1048576 then Same1 w (decide (z < 0)) ds e en w' else en = errNum 2) := by
  obtain ⟨hw, h | h⟩ := h
  · have := val_odd ds ho
    rw [← hv] at this
    omega
  · obtain ⟨hz, t, k, q, a, b, c, d, h⟩ := h
    have hod := val_odd ds ho
    rw [hv] at a
    obtain ⟨rfl, rfl⟩ := odd_shift a hod
    have hk := blen_digs hn.1 hl d
    refine ⟨hw, ?_⟩
    rw [Int.natCast_zero, Int.add_zero] at h
    rcases h with ⟨h1, rfl⟩ | ⟨_, h1, h2, v, es, rfl, hown, hval, hnm⟩
    · rw [if_neg (by omega)]
    · rw [if_pos ⟨h1, h2⟩]
      obtain rfl := nm_inj hnm hn hval
      exact ⟨v, rfl, hown⟩
end Go.Proofs.YtflhdplfkpdejaaGreatFmt
namespace Go.Proofs.YtflhdplfkpdejaaGreatFmt
open Go.RowKit Go.Proofs.YtflhdplfkpdejaaGreatFmtW.PrintWords
theorem zero_cells (k : Nat) : Builtin.zeroCells (Value.int .i64 0).cells k = (List.replicate k (Value.int .i64 0)).toArray := by
  apply Array.ext
  · simp [Builtin.zeroCells, Value.cells]
  · intro i h1 h2
    simp [Builtin.zeroCells, Value.cells, Nat.mod_one]
theorem nums_zeros (k : Nat) : List.replicate k (Value.int .i64 0) = nums .i64 (List.replicate k 0) := by simp [nums]
theorem append_zeros (base : Nat) (v : Value) (n k : Nat) (xs : List Value) (ty : TypeId) (w : World) (h0 : 0 < k) (hk : n + k ≤ 1000000) (hown : w.ownsRow base 3 1 v n xs) (hb : base ≤ w.heap.size) :
    ∃ v' w', (Builtin.append_ #[22, 3] ty #[v, .int .i64 k]).run Tryz.prog w = .ok v' w' ∧ w'.ownsRow base 3 1 v' (n + k) (xs ++ nums .i64 (List.replicate k 0)) ∧ w.grownBy w' v.ownBlock ∧ (v'.ownBlock = v.ownBlock ∨ v'.ownBlock = some w.heap.size) ∧ w'.ownsRow base 3 1 v n xs := by
  have kept : ∀ w' : World, (∀ b, b < w.heap.size → w'.heap[b]? = w.heap[b]?) → w'.ownsRow base 3 1 v n xs := fun w' h => own_move hown (fun b hb => h b (own_lt hown b hb))
  obtain ⟨i, hi, hf⟩ := Option.map_eq_some_iff.1 int3
  simp only [Prod.mk.injEq] at hf
  obtain ⟨hz, hs, hby⟩ := hf
  have hmx : maxLen = 9223372036854775807 := by decide
  have hlen : (xs ++ nums .i64 (List.replicate k 0)).length = (n + k) * 1 := by rw [List.length_append, hown.1]; simp [nums]
  have fresh : ∀ old : Nat, (old = 0 ∧ xs = [] ∨ True) → old < n + k → n ≤ old → (w.drew.alloc (.cells (xs.toArray ++ Builtin.zeroCells (Value.int .i64 0).cells k ++ Builtin.zeroCells (Value.int .i64 0).cells (grownCap w (n + k) old 3 - (n + k))) 3)).ownsRow base 3 1 (.slice (some ⟨w.heap.size, 0, none⟩) (n + k) (grownCap w (n + k) old 3)) (n + k) (xs ++ nums .i64 (List.replicate k 0)) := by
    intro old _ h1 h2
    have hge := grownCap_ge w (n + k) old 3
    refine ⟨hlen, .inr ⟨w.heap.size, _, _, rfl, hb, heap_alloc_new w.drew _, hge, grownCap_le_maxLen w (n + k) old _ (by omega), ?_, ?_⟩⟩
    · have := hown.1
      simp only [Array.size_append, List.size_toArray, size_zeroCells, Value.cells, this]
      simp
      omega
    · simp only [Array.toList_append, List.append_assoc, zero_cells]
      rw [← List.append_assoc, ← hlen, nums_zeros]
      exact List.take_left
  rcases hown.2 with ⟨rfl, rfl⟩ | ⟨g, cap, cur, rfl, hbg, hg, hnc, hcm, hcs, htake⟩
  · obtain rfl : xs = [] := List.eq_nil_of_length_eq_zero (by simpa using hown.1)
    have hr := Lib.run_append_nil_zeros (P := Tryz.prog) w 22 3 ty 3 i _ .i64 .i64 Tryz.underlying22 Tryz.underlying3 hi hz k h0 (by omega) (by omega) (by rw [hby]; omega)
    have hfr := fresh 0 (.inr trivial) (by omega) (by omega)
    simp only [Nat.zero_add, List.nil_append, Array.empty_append] at hfr ⊢
    exact ⟨_, _, hr, hfr, ⟨rfl, rfl, rfl, by simp, fun b hb _ => heap_alloc_old w.drew _ hb⟩, .inr rfl, own_nil _ _ _ _⟩
  · by_cases hroom : n + k ≤ cap
    · have hst := run_storeCells_at Tryz.prog g n 3 (nums .i64 (List.replicate k 0)) 0 cur w hg (by simp [nums]; omega) (by intro u hu; simp only [nums, List.mem_map] at hu; obtain ⟨q, _, rfl⟩ := hu; rfl)
      simp only [Nat.add_zero] at hst
      have hw : IntKind.i64.wrap (k : Int) = k := by rw [IntKind.wrap_i64]; omega
      have hneg : ¬ ((k : Int) < 0) := by omega
      have hk0 : k ≠ 0 := by omega
      have h48i : ¬ (281474976710656 < (k : Int) * 8) := by omega
      refine ⟨.slice (some ⟨g, 0, none⟩) (n + k) cap, w.setRow g (cur.toList.take n ++ nums .i64 (List.replicate k 0) ++ cur.toList.drop (n + (nums .i64 (List.replicate k 0)).length)).toArray, ?_, ?_, ?_, .inl rfl, ?_⟩
      · simp [Builtin.append_, run_underlying Tryz.underlying22, run_underlying Tryz.underlying3, sizeOf, typeInfo, zeroValue, hi, hz, hs, hby, asInt, asIntOf, hw, hneg, hk0, h48i, hroom, Addr.add_lit, zero_cells, nums_zeros, hst]
      · refine ⟨hlen, .inr ⟨g, cap, _, rfl, hbg, setRow_heap w g cur _ 3 _ hg, hroom, hcm, ?_, ?_⟩⟩
        · simp only [List.size_toArray, List.length_append, List.length_take, List.length_drop, Array.length_toList]
          simp [nums]
          omega
        · rw [Nat.mul_one] at htake
          rw [htake, ← hlen]
          exact List.take_left
      · exact ⟨rfl, rfl, rfl, by simp, fun k _ hk => setRow_other w g k _ (fun e => hk (by simp [Value.ownBlock, e]))⟩
      · refine ⟨hown.1, .inr ⟨g, cap, _, rfl, hbg, setRow_heap w g cur _ 3 _ hg, hnc, hcm, ?_, ?_⟩⟩
        · simp only [List.size_toArray, List.length_append, List.length_take, List.length_drop, Array.length_toList]
          simp [nums]
          omega
        · rw [Nat.mul_one] at htake ⊢
          rw [List.append_assoc, htake]
          have : xs.length = n := by have := hown.1; omega
          rw [← this]
          exact List.take_left
    · have hdr : w.drew.ownsRow base 3 1 (.slice (some ⟨g, 0, none⟩) n cap) n xs := ⟨hown.1, .inr ⟨g, cap, cur, rfl, hbg, hg, hnc, hcm, hcs, htake⟩⟩
      have hold : (Builtin.firstCells i.size n (.slice (some ⟨g, 0, none⟩) n cap)).run Tryz.prog w.drew = .ok xs.toArray w.drew := run_firstCells_some (P := Tryz.prog) w.drew i.size n ⟨g, 0, none⟩ n cap xs (by rw [hs]; exact hown.1) (hdr.cells (g := g) rfl)
      have hr := Lib.run_append_grow_zeros (P := Tryz.prog) w 22 3 ty 3 i _ .i64 .i64 Tryz.underlying22 Tryz.underlying3 hi hz (some ⟨g, 0, none⟩) n cap xs hold k h0 (by omega) (by omega) (by omega) (by rw [hby]; omega) (growslice_fits (by omega) (by rw [hby]; omega))
      exact ⟨_, _, hr, fresh cap (.inr trivial) (by omega) hnc, ⟨rfl, rfl, rfl, by simp, fun b hb _ => heap_alloc_old w.drew _ hb⟩, .inr rfl, kept _ (fun b hb => heap_alloc_old w.drew _ hb)⟩
end Go.Proofs.YtflhdplfkpdejaaGreatFmt
namespace Go.Proofs.YtflhdplfkpdejaaGreatFmt
open Go.RowKit Go.Proofs.YtflhdplfkpdejaaGreatFmtW.PrintWords
theorem reads_lit (w : World) (xs : List Int) (hl : xs.length ≤ 1000) : ReadsInt (w.alloc (.cells (nums .i64 xs).toArray 3)) .i64 (some ⟨w.heap.size, 0, none⟩) xs.length xs := by
  obtain ⟨A, c, h1, h2⟩ := own_reads (own_lit w 0 3 .i64 xs (Nat.zero_le _) (by omega))
  cases h1
  exact h2
theorem own_row_some {w : World} {B n : Nat} {v : Value} {xs : List Value} {e : TypeId} (h : w.ownsRow B e 1 v n xs) (hn : 0 < n) : ∃ g cap, v = .slice (some ⟨g, 0, none⟩) n cap ∧ B ≤ g ∧ n ≤ cap := by
  rcases h.2 with ⟨_, h0⟩ | ⟨g, cap, cur, rfl, hb, _, hc, _⟩
  · omega
  · exact ⟨g, cap, rfl, hb, hc⟩
theorem HB_alloc {w w1 : World} (h : Below w.heap.size w w1) (o : Obj) : Below w.heap.size w (w1.alloc o) := h.alloc h.size o
set_option maxRecDepth 100000 in
set_option maxHeartbeats 4000000 in
theorem lent_calls (A : Option Addr) (c : Nat) (ds : List Int) (w : World) (hr : ReadsInt w .i64 A ds.length ds) (hl : ds.length ≤ 100000) :
    Calls Tryz.prog 38 #[.slice A ds.length c] w fun e w' => ∃ g cap, e = .returned (.slice (some ⟨g, 0, none⟩) (ds.length + 3 : Nat) cap) ∧ w'.ownsRow w.heap.size 3 1 (.slice (some ⟨g, 0, none⟩) (ds.length + 3) cap) (ds.length + 3) (nums .i64 (ds ++ [-71, -72, -73])) ∧ Only w w' (fun _ => False) := by
  have HR := Lib.hid hr
  have HL := Lib.hid hl
  clear hl hr
  go_enter Tryz.func38, Tryz.ntmps38
  go_wp2_with (at_builtin; refine print_append_row (w0 := w) w.heap.size rfl _ _ 22 3 .i64 8 rfl Tryz.underlying22 int3 (by decide) (.slice none 0 0) [] ds A ds.length c rfl rfl (own_nil _ _ _ _) HR.out (Below.refl _ _) (Nat.le_refl _) (by have := HL.out; simp; omega) ?_)
  intro v1 w1 hown hB hg hat
  have hba := HB_alloc hB (.cells #[.int .i64 (-71), .int .i64 (-72), .int .i64 (-73)] 3)
  have HO := Lib.hid hown
  clear hown
  go_wp2_with (at_builtin; refine print_append_row (w0 := w) w.heap.size rfl _ _ 22 3 .i64 8 rfl Tryz.underlying22 int3 (by decide) v1 ds [-71, -72, -73] (some ⟨w1.heap.size, 0, none⟩) 3 3 rfl rfl (HO.out.alloc _) (reads_lit w1 [-71, -72, -73] (by decide)) hba (by have := hB.size; simp; omega) (by have := HL.out; simp; omega) ?_)
  intro v2 w2 hown2 hB2 hg2 hat2
  have hown2 : w2.ownsRow w.heap.size 3 1 v2 (ds.length + 3) (nums .i64 (ds ++ [-71, -72, -73])) := by simpa using hown2
  obtain ⟨g, cap, rfl, hgB, hcap⟩ := own_row_some hown2 (by simp)
  clear hg hg2 hat hat2 HR
  have hfin : Only w w2 (fun _ => False) := ⟨hB2.mono (Nat.le_refl _) |> fun h => h.mono (Nat.zero_le _), fun k hk _ => hB2.block k hk⟩
  have HO2 := Lib.hid hown2
  clear hown2 HO hB hba
  go_wp2_with fail
  go_ret
  exact ⟨g, cap, rfl, HO2.out, hfin⟩
end Go.Proofs.YtflhdplfkpdejaaGreatFmt
namespace Go.Proofs.YtflhdplfkpdejaaGreatFmt
open Go.RowKit Go.Proofs.YtflhdplfkpdejaaGreatFmtW.PrintWords
set_option maxRecDepth 100000 in
set_option maxHeartbeats 2000000 in
theorem newInt_neg (x : Int) (w : World) (h : x < 0) (h2 : -9223372036854775808 ≤ x) :
    Calls Tryz.prog 31 #[.int .i64 x] w fun e w' => ∃ g, e = .returned (.pointer (some ⟨g, 0, none⟩)) ∧ New w.heap.size w' g x ∧ Only w w' (fun _ => False) := by
  have h3 : (x == 0) = false := by rw [beq_eq_false_iff_ne]; omega
  have e1 : IntKind.u64.wrap (-(IntKind.u64.wrap x)) = -x := by rw [IntKind.wrap_u64, IntKind.wrap_u64]; omega
  go_enter Tryz.func31, Tryz.ntmps31
  go_wp2
  go_ret
  have hb : Blk (w.alloc (.cells (words [-x]) 89)) w.heap.size [-x] := Blk.new w [-x]
  have hg : ((w.alloc (.cells (words [-x]) 89)).alloc (.cells #[.bool true, .slice (some ⟨w.heap.size, 0, none⟩) 1 1] 76)).heap[w.heap.size + 1]? = some (.cells #[.bool true, .slice (some ⟨w.heap.size, 0, none⟩) 1 1] 76 (0, 0)) := heap_two w _ _
  have en : num (fun i => [-x].getD i 0) 1 = -x := by simp [num]
  refine ⟨_, rfl, ⟨some w.heap.size, ⟨.slice (some ⟨w.heap.size, 0, none⟩) 1 1, ?_, ?_⟩, Nat.le_succ _, fun c hc => by cases hc; exact Nat.le_refl _⟩, ((Only.refl _ _).alloc _).alloc _⟩
  · rw [decide_eq_true h]; exact hg
  · have ea : ((Int.natAbs x : Nat) : Int) = -x := by omega
    rw [ea]
    refine .own w.heap.size 1 [-x] (-x) (blk_alloc hb _) (by simp) (by simp [most]) ⟨fun i hi => ?_, fun _ => ?_⟩ en
    · obtain rfl : i = 0 := by omega
      show 0 ≤ -x ∧ -x < _
      omega
    · show -x ≠ 0
      omega
theorem newInt_all (x : Int) (w : World) (h : -9223372036854775808 ≤ x) (h2 : x < 9223372036854775808) :
    Calls Tryz.prog 31 #[.int .i64 x] w fun e w' => ∃ g, e = .returned (.pointer (some ⟨g, 0, none⟩)) ∧ New w.heap.size w' g x ∧ Only w w' (fun _ => False) := by
  by_cases h0 : x < 0
  · exact newInt_neg x w h0 h
  · exact newInt_any x w (by omega) h2
def IntAns (w : World) (n : Int) (en : Ending) (w' : World) : Prop := Only w w' (fun _ => False) ∧
  ((n = 0 ∧ en = .returned (.agg #[.bool false, .slice none 0 0, .int .i64 0])) ∨
    (n ≠ 0 ∧ ∃ (t : Nat) (q : Int), ((Int.natAbs n : Nat) : Int) = q * 2 ^ t ∧ q % 2 = 1 ∧ 0 < q ∧ t ≤ 64 ∧ ∃ A ds c, en = .returned (.agg #[.bool (decide (n < 0)), .slice A ds.length c, .int .i64 t]) ∧ w'.ownsRow w.heap.size 3 1 (.slice A ds.length c) ds.length (nums .i64 ds) ∧ val ds = q ∧ Nm ds))
theorem own_other_num {w w' : World} {Y base n : Nat} {v : Value} {xs : List Value} {cy : Array Value} (h : w.ownsRow base 3 1 v n xs) (hY : w.heap[Y]? = some (.cells cy 24 (0, 0))) (ho : Only w w' (fun k => k = Y)) : w'.ownsRow base 3 1 v n xs := by
  refine own_move h (fun b hb => ho.kept b (own_lt h b hb) ?_)
  obtain ⟨cells, hc⟩ := own_typed h b hb
  rintro rfl
  exact blk_ne hY hc (by decide) rfl
set_option maxRecDepth 100000 in
set_option maxHeartbeats 4000000 in
theorem int_calls (n : Int) (w : World) (h : -9223372036854775808 ≤ n) (h2 : n < 9223372036854775808) (hT : Tab w) :
    Calls Tryz.prog 9 #[.int .i64 n] w (IntAns w n) := by
  have ho1 := (Only.refl w (fun _ => False)).alloc (.cells #[.bool false, .slice none 0 0, .int .i64 0] 24)
  have hY : (w.alloc (.cells #[.bool false, .slice none 0 0, .int .i64 0] 24)).heap[w.heap.size]? = some (.cells #[.bool false, .slice none 0 0, .int .i64 0] 24 (0, 0)) := by simpa using heap_alloc_new w (.cells #[.bool false, .slice none 0 0, .int .i64 0] 24)
  have HN := Lib.hid (newInt_all n)
  have HH := Lib.hid (And.intro h h2)
  have hsz1 : w.heap.size < (w.alloc (.cells #[.bool false, .slice none 0 0, .int .i64 0] 24)).heap.size := by simp
  clear h h2
  go_enter Tryz.func9, Tryz.ntmps9
  go_wp2_with fail
  generalize w.alloc (.cells #[.bool false, .slice none 0 0, .int .i64 0] 24) = w1 at *
  refine (HN.out w1 HH.out.1 HH.out.2).mono ?_
  rintro en w2 ⟨g, rfl, ⟨o, hi, hgB, hoB⟩, ho2⟩
  have hY2 := (ho2.kept _ (blk_lt hY) (fun h => h)).trans hY
  go_wp2_with fail
  have hfit : Fits ((Int.natAbs n : Nat) : Int) := by
    have h1 := HH.out
    have e : (2 : Int) ^ 64 = 18446744073709551616 := by decide
    exact Fits.of (k := 64) (by rw [e]; omega) (by omega)
  refine (told_any g o n 0 w2 hi hfit (hT.only (ho1.trans ho2)) (by omega) (by omega)).mono ?_
  rintro en w7 ⟨ho7, hcase⟩
  have hY7 := (ho7.kept _ (blk_lt hY2) (fun h => h)).trans hY2
  have y0 : w7.cell? ⟨w.heap.size, 0, none⟩ = some (.bool false) := blk_cell hY7 0
  have y1 : w7.cell? ⟨w.heap.size, 1, none⟩ = some (.slice none 0 0) := blk_cell hY7 1
  have y2 : w7.cell? ⟨w.heap.size, 2, none⟩ = some (.int .i64 0) := blk_cell hY7 2
  have fy0 := blk_frozen hY7 0
  have fy1 := blk_frozen hY7 1
  have fy2 := blk_frozen hY7 2
  have HOW := Lib.hid ((ho1.trans ho2).trans ho7)
  have hst : ∀ a b c : Value, (((w7.setCell ⟨w.heap.size, 0, none⟩ a).setCell ⟨w.heap.size, 1, none⟩ b).setCell ⟨w.heap.size, 2, none⟩ c).heap[w.heap.size]? = some (.cells #[a, b, c] 24 (0, 0)) ∧ Only w7 (((w7.setCell ⟨w.heap.size, 0, none⟩ a).setCell ⟨w.heap.size, 1, none⟩ b).setCell ⟨w.heap.size, 2, none⟩ c) (fun k => k = w.heap.size) := fun a b c =>
    ⟨by simpa using blk_set (blk_set (blk_set hY7 0 a) 1 b) 2 c, (((Only.refl w7 (fun k => k = w.heap.size)).set (.inr rfl) _).set (.inr rfl) _).set (.inr rfl) _⟩
  have HST := Lib.hid hst
  clear hst
  rcases hcase with ⟨hz, rfl⟩ | ⟨hz, t, k, q, a1, a2, a3, a4, hb⟩
  · have HZ := Lib.hid hz
    clear hz
    go_wp2_with fail
    obtain ⟨s1, s3⟩ := HST.out (.bool false) (.slice none 0 0) (.int .i64 0)
    exact bodyPost_ret (results_cell_row rfl _ _ w.heap.size 24 #[.bool false, .slice none 0 0, .int .i64 0] (0, 0) _ rfl s1 Tryz.underlying24 rfl (by kernel_rfl)) rfl ⟨HOW.out.step s3 (by rintro i hi rfl; omega), .inl ⟨HZ.out, rfl⟩⟩
  · have hP : (0 : Int) < 2 ^ t := Int.pow_pos (by omega)
    have hH := HH.out
    have e64 : (2 : Int) ^ 64 = 18446744073709551616 := by decide
    have hqn : q ≤ ((Int.natAbs n : Nat) : Int) := by
      rw [a1]
      have := Int.mul_le_mul_of_nonneg_left (show (1 : Int) ≤ 2 ^ t by omega) (Int.le_of_lt a3)
      omega
    have htn : (2 : Int) ^ t ≤ ((Int.natAbs n : Nat) : Int) := by
      rw [a1]
      have := Int.mul_le_mul_of_nonneg_right (show (1 : Int) ≤ q by omega) (Int.le_of_lt hP)
      omega
    have ht : t < 64 := pow_lt (Int.lt_of_le_of_lt htn (by omega))
    have hk : k ≤ 64 := by
      rcases Nat.eq_zero_or_pos k with h | h
      · omega
      · have := pow_lt (Int.lt_of_le_of_lt (a4.2 h) (show q < 2 ^ 64 by omega))
        omega
    rcases hb with ⟨hbad, rfl⟩ | ⟨b1, b2, b3, A7, ds7, c7, rfl, hown, hval, hnm⟩
    · exact absurd hbad (by omega)
    · have HA := Lib.hid (And.intro hz (And.intro a1 (And.intro a2 (And.intro a3 (And.intro hown (And.intro hval hnm))))))
      clear hz a1 a2 a3 a4 hown hval hnm hP hqn htn hH e64
      go_wp2_with fail
      obtain ⟨s1, s3⟩ := HST.out (.bool (decide (n < 0))) (.slice A7 ds7.length c7) (.int .i64 (t : Int))
      obtain ⟨g1, g2, g3, g4, g6, g7, g8⟩ := HA.out
      refine bodyPost_ret (results_cell_row rfl _ _ w.heap.size 24 #[.bool (decide (n < 0)), .slice A7 ds7.length c7, .int .i64 (t : Int)] (0, 0) _ rfl s1 Tryz.underlying24 rfl (by kernel_rfl)) rfl ⟨HOW.out.step s3 (by rintro i hi rfl; omega), .inr ⟨g1, t, q, g2, g3, g4, by omega, A7, ds7, c7, rfl, own_weaken (own_other_num g6 hY7 s3) ?_, g7, g8⟩⟩
      have := (ho1.trans ho2).base.size
      exact this
theorem digits_calls (A : Option Addr) (c : Nat) (ds : List Int) (w : World) (hr : ReadsInt w .i64 A ds.length ds) (hc : ds.length ≤ c) (hl : ds.length < 4611686018427387904) :
    Calls Tryz.prog 26 #[.slice A ds.length c] w fun en w' => en = .returned (.bool (ds.all digB && decide (ds.length ≤ 2000))) ∧ Only w w' (fun _ => False) := by
  have hd := digits_l0 ds hl (ds.length + 1) 0 (Nat.zero_le _) (by omega)
  exact (F.exact_digits.calls (ds.length + 1) A c ds _ w (kd_ints hr) hc hd).mono fun _ _ ⟨h1, h2⟩ => ⟨h1, Only.of_drawn h2⟩
set_option maxRecDepth 100000 in
set_option maxHeartbeats 4000000 in
theorem make_ok (neg : Bool) (A : Option Addr) (c : Nat) (ds : List Int) (e : Int) (w : World) (hr : ReadsInt w .i64 A ds.length ds) (hc : ds.length ≤ c) (hT : Tab w) (hdg : Digs ds) (hlen : ds.length ≤ 2000) :
    Calls Tryz.prog 7 #[.bool neg, .slice A ds.length c, .int .i64 e] w (Ans w (sval neg ds) (min (max e (-4194304)) 4194304)) := by
  have HO := Lib.hid (fun a b : Obj => ((Only.refl w (fun _ => False)).alloc a).alloc b)
  have HD := Lib.hid (fun w1 (ho : Only w w1 (fun _ => False)) => digits_calls A c ds w1 (reads_only hr ho (fun _ _ h => h)) hc (by omega))
  have HW := Lib.hid (fun w1 (ho : Only w w1 (fun _ => False)) => whole_calls neg A c ds w1 (reads_only hr ho (fun _ _ h => h)) hdg (by omega))
  have HV := Lib.hid (show (ds.all digB && decide (ds.length ≤ 2000)) = true by rw [all_digs.2 hdg, decide_eq_true hlen]; rfl)
  go_enter_defers Tryz.func7, Tryz.ntmps7
  go_wp2_with fail
  have h1 := heap_two' w (.cells #[.bool false, .slice none 0 0, .int .i64 0] 24) (.cells #[.int .i64 0] 32)
  have h2 := heap_two w (.cells #[.bool false, .slice none 0 0, .int .i64 0] 24) (.cells #[.int .i64 0] 32)
  have ho2 := HO.out (.cells #[.bool false, .slice none 0 0, .int .i64 0] 24) (.cells #[.int .i64 0] 32)
  generalize (w.alloc (.cells #[.bool false, .slice none 0 0, .int .i64 0] 24)).alloc (.cells #[.int .i64 0] 32) = w2 at *
  refine (HD.out _ ho2).mono ?_
  rw [HV.out]
  rintro en w3 ⟨rfl, ho3⟩
  go_wp2_with fail
  refine (HW.out _ (ho2.trans ho3)).mono ?_
  rintro en w4 ⟨g, rfl, ⟨o, hi, hgB, hoB⟩, ho4⟩
  have ho24 := ho3.trans ho4
  have hY6 := (ho24.kept _ (blk_lt h1) (fun h => h)).trans h1
  have hE6 := (ho24.kept _ (blk_lt h2) (fun h => h)).trans h2
  have hX : -2305843009213693952 ≤ min (max e (-4194304)) 4194304 ∧ min (max e (-4194304)) 4194304 ≤ 2305843009213693952 := by omega
  have hfit : Fits ((Int.natAbs (sval neg ds) : Nat) : Int) := by rw [sval_abs neg hdg]; exact fits_val hdg (by omega)
  go_wp2_with fail
  have e1 : sval neg ds = if neg = true then -val ds else val ds := rfl
  rw [← e1] at hi
  generalize min (max e (-4194304)) 4194304 = X at *
  generalize sval neg ds = Z at *
  clear e1
  refine (told_any g o Z X w4 hi hfit (hT.only (ho2.trans ho24)) hX.1 hX.2).mono ?_
  rintro en w7 ⟨ho7, hcase⟩
  have hY7 := (ho7.kept _ (blk_lt hY6) (fun h => h)).trans hY6
  have hE7 := (ho7.kept _ (blk_lt hE6) (fun h => h)).trans hE6
  have y0 : w7.cell? ⟨w.heap.size, 0, none⟩ = some (.bool false) := blk_cell hY7 0
  have y1 : w7.cell? ⟨w.heap.size, 1, none⟩ = some (.slice none 0 0) := blk_cell hY7 1
  have y2 : w7.cell? ⟨w.heap.size, 2, none⟩ = some (.int .i64 0) := blk_cell hY7 2
  have e0 : w7.cell? ⟨w.heap.size + 1, 0, none⟩ = some (.int .i64 0) := blk_cell hE7 0
  have fy0 := blk_frozen hY7 0
  have fy1 := blk_frozen hY7 1
  have fy2 := blk_frozen hY7 2
  have fe0 := blk_frozen hE7 0
  have HST := Lib.hid (stored hY7 hE7)
  have HOW := Lib.hid ((ho2.trans ho24).trans ho7)
  rcases hcase with ⟨hz, rfl⟩ | ⟨hz, t, k, q, a1, a2, a3, a4, ⟨hbad, rfl⟩ | ⟨b1, b2, b3, A7, ds7, c7, rfl, hown, hval, hnm⟩⟩
  · have HZ := Lib.hid hz
    clear hz
    go_wp2_with fail
    obtain ⟨s1, s2, s3⟩ := HST.out (.bool false) (.slice none 0 0) (.int .i64 0) (.int .i64 0)
    refine door_ok rfl _ _ (w.heap.size) (w.heap.size + 1) _ _ _ 0 _ rfl rfl s1 s2 ?_
    rw [HZ.out]
    exact Ans.zero HOW.out (s3.mono (by rintro i hi (rfl | rfl) <;> omega))
  · refine door_panic rfl _ w7 (w.heap.size) (w.heap.size + 1) 2 _ rfl rfl hY7 hE7 (fun w' hw' => ?_)
    exact Ans.long hz a1 a2 a3 a4 hbad HOW.out (hw'.mono (by rintro i hi rfl; omega))
  · have HA := Lib.hid (And.intro hz (And.intro a1 (And.intro a2 (And.intro a3 (And.intro a4 (And.intro hown (And.intro hval hnm)))))))
    clear hz a1 a2 a3 a4 hown hval hnm
    go_wp2_with fail
    obtain ⟨s1, s2, s3⟩ := HST.out (.bool (decide (Z < 0))) (.slice A7 ds7.length c7) (.int .i64 (X + t)) (.int .i64 0)
    obtain ⟨g1, g2, g3, g4, g5, g6, g7, g8⟩ := HA.out
    refine door_ok rfl _ _ (w.heap.size) (w.heap.size + 1) _ _ _ 0 _ rfl rfl s1 s2 ?_
    refine Ans.some_ g1 g2 g3 g4 g5 b1 b2 b3 HOW.out (s3.mono (by rintro i hi (rfl | rfl) <;> omega)) (own_two g6 hY7 hE7 s3) ?_ g7 g8
    have := (ho2.trans ho24).base.size
    exact this
end Go.Proofs.YtflhdplfkpdejaaGreatFmt
namespace Go.Proofs.YtflhdplfkpdejaaGreatFmt
open Go.RowKit Go.Proofs.YtflhdplfkpdejaaGreatFmtW.PrintWords
theorem stored1 {w : World} {Y : Nat} {x y z : Value} (hY : w.heap[Y]? = some (.cells #[x, y, z] 24 (0, 0))) (a b c : Value) :
    (((w.setCell ⟨Y, 0, none⟩ a).setCell ⟨Y, 1, none⟩ b).setCell ⟨Y, 2, none⟩ c).heap[Y]? = some (.cells #[a, b, c] 24 (0, 0)) ∧ Only w (((w.setCell ⟨Y, 0, none⟩ a).setCell ⟨Y, 1, none⟩ b).setCell ⟨Y, 2, none⟩ c) (fun k => k = Y) := by
  have h1 := blk_set (blk_set (blk_set hY 0 a) 1 b) 2 c
  refine ⟨?_, ?_⟩
  · simpa using h1
  · exact (((Only.refl w (fun k => k = Y)).set (p := ⟨Y, 0, none⟩) (.inr rfl) a).set (p := ⟨Y, 1, none⟩) (.inr rfl) b).set (p := ⟨Y, 2, none⟩) (.inr rfl) c
theorem results_lent {fn : Func} {p q : Tmp} (h : fn.results = #[.tmp p, .cell q 24]) (tmps : Array Value) (w : World) (Y : Nat) (l a b c : Value)
    (hp : tmps.getD p undef = l) (hq : tmps.getD q undef = .pointer (some ⟨Y, 0, none⟩)) (hg : w.heap[Y]? = some (.cells #[a, b, c] 24 (0, 0))) :
    (results fn tmps).run Tryz.prog w = .ok (.tuple #[l, .agg #[a, b, c]]) w := by
  have hp' : tmps[p]?.getD undef = l := by simpa using hp
  have hq' : tmps[q]?.getD undef = .pointer (some ⟨Y, 0, none⟩) := by simpa using hq
  have h0 : w.cell? ⟨Y, 0, none⟩ = some a := blk_cell hg 0
  have h1 : w.cell? ⟨Y, 1, none⟩ = some b := blk_cell hg 1
  have h2 : w.cell? ⟨Y, 2, none⟩ = some c := blk_cell hg 2
  simp [results, h, hp', hq', asAddr, go_sem, h0, h1, h2]
set_option maxRecDepth 100000 in
set_option maxHeartbeats 4000000 in
theorem lentNum_calls (neg : Bool) (A : Option Addr) (c : Nat) (ds : List Int) (e : Int) (w : World) (hr : ReadsInt w .i64 A ds.length ds) (hl : ds.length ≤ 100000) :
    Calls Tryz.prog 12 #[.agg #[.bool neg, .slice A ds.length c, .int .i64 e]] w fun en w' => ∃ g cap, en = .returned (.tuple #[.slice (some ⟨g, 0, none⟩) (ds.length + 3 : Nat) cap, .agg #[.bool neg, .slice (some ⟨g, 0, none⟩) ds.length cap, .int .i64 e]]) ∧ w'.ownsRow w.heap.size 3 1 (.slice (some ⟨g, 0, none⟩) (ds.length + 3) cap) (ds.length + 3) (nums .i64 (ds ++ [-71, -72, -73])) ∧ Only w w' (fun _ => False) := by
  have HL := Lib.hid hl
  have HR : Hid (∀ W, Only w W (fun _ => False) → ReadsInt W .i64 A ds.length ds) := Lib.hid (fun W h => reads_only hr h (fun _ _ h => h))
  have HO := Lib.hid (fun a b : Obj => (((Only.refl w (fun _ => False)).alloc a).alloc b))
  clear hl hr
  go_enter Tryz.func12, Tryz.ntmps12
  go_wp2_with fail
  have ho2 := HO.out (.cells #[.bool neg, .slice A ds.length c, .int .i64 e] 24) (.cells #[.bool false, .slice none 0 0, .int .i64 0] 24)
  obtain ⟨h1, h2⟩ : ((w.alloc (.cells #[.bool neg, .slice A ds.length c, .int .i64 e] 24)).alloc (.cells #[.bool false, .slice none 0 0, .int .i64 0] 24)).heap[w.heap.size]? = some (.cells #[.bool neg, .slice A ds.length c, .int .i64 e] 24 (0, 0)) ∧ ((w.alloc (.cells #[.bool neg, .slice A ds.length c, .int .i64 e] 24)).alloc (.cells #[.bool false, .slice none 0 0, .int .i64 0] 24)).heap[w.heap.size + 1]? = some (.cells #[.bool false, .slice none 0 0, .int .i64 0] 24 (0, 0)) := ⟨heap_two' w _ _, heap_two w _ _⟩
  generalize hw2 : ((w.alloc (.cells #[.bool neg, .slice A ds.length c, .int .i64 e] 24)).alloc (.cells #[.bool false, .slice none 0 0, .int .i64 0] 24)) = w2 at *
  clear hw2
  refine (lent_calls A c ds w2 (HR.out _ ho2) HL.out).mono ?_
  rintro en w3 ⟨g, cap, rfl, hown, ho3⟩
  have k1 := (ho3.kept _ (blk_lt h1) (fun h => h)).trans h1
  have k2 := (ho3.kept _ (blk_lt h2) (fun h => h)).trans h2
  have c0 : w3.cell? ⟨w.heap.size, 0, none⟩ = some (.bool neg) := blk_cell k1 0
  have c1 : w3.cell? ⟨w.heap.size, 1, none⟩ = some (.slice A ds.length c) := blk_cell k1 1
  have c2 : w3.cell? ⟨w.heap.size, 2, none⟩ = some (.int .i64 e) := blk_cell k1 2
  have d0 : w3.cell? ⟨w.heap.size + 1, 0, none⟩ = some (.bool false) := blk_cell k2 0
  have d1 : w3.cell? ⟨w.heap.size + 1, 1, none⟩ = some (.slice none 0 0) := blk_cell k2 1
  have d2 : w3.cell? ⟨w.heap.size + 1, 2, none⟩ = some (.int .i64 0) := blk_cell k2 2
  have f0 := blk_frozen k2 0
  have f1 := blk_frozen k2 1
  have f2 := blk_frozen k2 2
  have hcap : ds.length ≤ cap := by
    obtain ⟨_, _, h, _, hc⟩ := own_row_some hown (by omega)
    cases h
    omega
  have HOW := Lib.hid hown
  have HK := Lib.hid (And.intro k2 (And.intro ho3 ho2))
  clear hown ho2 h1 h2 k1 k2
  go_wp2_with fail
  go_still_tail 12, (by kernel_rfl)
  change wpList _ _ _ _ _ w3.drew
  go_wp2_with fail
  obtain ⟨hK2, hO3, hO2⟩ := HK.out
  obtain ⟨hs, hw⟩ := stored1 hK2 (.bool neg) (.slice (some ⟨g, 0, none⟩) ds.length cap) (.int .i64 e)
  generalize (((w3.setCell ⟨w.heap.size + 1, 0, none⟩ (.bool neg)).setCell ⟨w.heap.size + 1, 1, none⟩ (.slice (some ⟨g, 0, none⟩) ds.length cap)).setCell ⟨w.heap.size + 1, 2, none⟩ (.int .i64 e)) = w9 at *
  replace hw := hw.drew
  refine bodyPost_ret (results_lent rfl _ _ (w.heap.size + 1) _ (.bool neg) (.slice (some ⟨g, 0, none⟩) ds.length cap) (.int .i64 e) rfl rfl hs) rfl ?_
  clear hs d0 d1 d2 f0 f1 f2 c0 c1 c2
  refine ⟨g, cap, rfl, own_weaken (own_other_num HOW.out hK2 hw) hO2.base.size, ?_⟩
  refine (hO2.trans hO3).step hw ?_
  rintro i hi rfl
  omega
end Go.Proofs.YtflhdplfkpdejaaGreatFmt
namespace Go.Proofs.YtflhdplfkpdejaaGreatFmt
open Go.RowKit Go.Proofs.YtflhdplfkpdejaaGreatFmtW.PrintWords
theorem add64_run (x y c : Int) (hx : 0 ≤ x) (hy : 0 ≤ y) (h0 : 0 ≤ c) (h1 : c ≤ 1) (w : World) :
    (callFunc 139 #[.int .u64 x, .int .u64 y, .int .u64 c]).run Tryz.prog w = .ok (.value (.tuple #[.int .u64 ((x + y + c) % 18446744073709551616), .int .u64 ((x + y + c) / 18446744073709551616)])) w := by
  rw [run_callFunc_extern Tryz.func139 (by kernel_rfl) (by kernel_rfl) (by kernel_rfl) (e := add64Entry) (by kernel_rfl), run_add64 x y c hx hy h0 h1]
  rfl
theorem sub64_run (x y c : Int) (hx : 0 ≤ x) (hx2 : x < 18446744073709551616) (hy : 0 ≤ y) (hy2 : y < 18446744073709551616) (h0 : 0 ≤ c) (h1 : c ≤ 1) (w : World) :
    (callFunc 137 #[.int .u64 x, .int .u64 y, .int .u64 c]).run Tryz.prog w = .ok (.value (.tuple #[.int .u64 ((x - y - c) % 18446744073709551616), .int .u64 (if x < y + c then 1 else 0)])) w := by
  obtain ⟨a, rfl⟩ : ∃ a : Nat, x = a := ⟨x.toNat, by omega⟩
  obtain ⟨b, rfl⟩ : ∃ b : Nat, y = b := ⟨y.toNat, by omega⟩
  obtain ⟨d, rfl⟩ : ∃ d : Nat, c = d := ⟨c.toNat, by omega⟩
  rw [run_callFunc_extern Tryz.func137 (by kernel_rfl) (by kernel_rfl) (by kernel_rfl) (e := sub64Entry) (by kernel_rfl), run_sub64 a b d (by omega)]
  have e1 : ((((a + 18446744073709551616 - b - d) % 18446744073709551616 : Nat)) : Int) = ((a : Int) - b - d) % 18446744073709551616 := by omega
  have e2 : (((if a < b + d then 1 else 0 : Nat)) : Int) = if (a : Int) < b + d then 1 else 0 := by
    by_cases h : a < b + d
    · rw [if_pos h, if_pos (by omega)]; rfl
    · rw [if_neg h, if_neg (by omega)]; rfl
  rw [e1, e2]
  rfl
set_option maxRecDepth 100000 in
theorem add_any (x y c : Int) (w : World) (hx : 0 ≤ x) (hy : 0 ≤ y) (h0 : 0 ≤ c) (h1 : c ≤ 1) :
    Calls Tryz.prog 103 #[.int .u64 x, .int .u64 y, .int .u64 c] w fun e w' => e = .returned (.tuple #[.int .u64 ((x + y + c) % 18446744073709551616), .int .u64 ((x + y + c) / 18446744073709551616)]) ∧ w' = w := by
  have h := fun w => add64_run x y c hx hy h0 h1 w
  go_enter Tryz.func103, Tryz.ntmps103
  go_wp2
  go_ret2
  exact ⟨rfl, rfl⟩
set_option maxRecDepth 100000 in
theorem sub_any (x y c : Int) (w : World) (hx : 0 ≤ x) (hx2 : x < 18446744073709551616) (hy : 0 ≤ y) (hy2 : y < 18446744073709551616) (h0 : 0 ≤ c) (h1 : c ≤ 1) :
    Calls Tryz.prog 99 #[.int .u64 x, .int .u64 y, .int .u64 c] w fun e w' => e = .returned (.tuple #[.int .u64 ((x - y - c) % 18446744073709551616), .int .u64 (if x < y + c then 1 else 0)]) ∧ w' = w := by
  have h := fun w => sub64_run x y c hx hx2 hy hy2 h0 h1 w
  generalize (if x < y + c then (1 : Int) else 0) = b at *
  go_enter Tryz.func99, Tryz.ntmps99
  go_wp2
  go_ret2
  exact ⟨rfl, rfl⟩
end Go.Proofs.YtflhdplfkpdejaaGreatFmt
namespace Go.Proofs.YtflhdplfkpdejaaGreatFmt
open Go.RowKit Go.Proofs.YtflhdplfkpdejaaGreatFmtW.PrintWords
set_option maxRecDepth 100000 in
set_option maxHeartbeats 4000000 in
theorem mul64_any (x y : Nat) (hx : x < 18446744073709551616) (hy : y < 18446744073709551616) (w : World) :
    Calls Tryz.prog 187 #[.int .u64 x, .int .u64 y] w fun e w' => e = .returned (.tuple #[.int .u64 ((x * y / 18446744073709551616 : Nat) : Int), .int .u64 ((x * y % 18446744073709551616 : Nat) : Int)]) ∧ w' = w := by
  obtain ⟨bd, bt, bw, hhi⟩ := Lib.mul64_hi x y hx hy
  have ba := Lib.half_mul_le (a := x / 4294967296) (b := y / 4294967296) (by omega) (by omega)
  have bb := Lib.half_mul_le (a := x / 4294967296) (b := y % 4294967296) (by omega) (by omega)
  have bc := Lib.half_mul_le (a := x % 4294967296) (b := y / 4294967296) (by omega) (by omega)
  have ba' : x / 4294967296 * (y / 4294967296) < 18446744073709551616 := by omega
  have bb' : x / 4294967296 * (y % 4294967296) < 18446744073709551616 := by omega
  have bc' : x % 4294967296 * (y / 4294967296) < 18446744073709551616 := by omega
  have bh1 : x / 4294967296 * (y / 4294967296) + (x / 4294967296 * (y % 4294967296) + x % 4294967296 * (y % 4294967296) / 4294967296) / 4294967296 < 18446744073709551616 := by omega
  have bq : x * y / 18446744073709551616 < 18446744073709551616 := Nat.div_lt_of_lt_mul (Nat.mul_lt_mul'' hx hy)
  have bh := hhi ▸ bq
  go_enter Tryz.func187, Tryz.ntmps187
  go_wp2_with fail
  simp only [Mul64.maskN x hx, Mul64.maskN y hy, Mul64.divN, Mul64.mulN, Mul64.addN, Mul64.wrapN _ bd, Mul64.wrapN _ bb', Mul64.wrapN _ bt, Mul64.maskN _ bt, Mul64.wrapN _ bc', Mul64.wrapN _ bw, Mul64.wrapN _ ba', Mul64.wrapN _ bh1, Mul64.wrapN _ bh, Mul64.wrapM (x * y)]
  rw [hhi]
  go_ret2
  exact ⟨rfl, rfl⟩
theorem mul_any (x y : Nat) (hx : x < 18446744073709551616) (hy : y < 18446744073709551616) (w : World) :
    Calls Tryz.prog 168 #[.int .u64 x, .int .u64 y] w fun e w' => e = .returned (.tuple #[.int .u64 ((x * y / 18446744073709551616 : Nat) : Int), .int .u64 ((x * y % 18446744073709551616 : Nat) : Int)]) ∧ w' = w := by
  go_enter Tryz.func168, Tryz.ntmps168
  go_wp2_with (go_at_call 187; refine (mul64_any x y hx hy _).mono ?_; rintro e w' ⟨rfl, rfl⟩)
  go_ret2
  exact ⟨rfl, rfl⟩
theorem bitLen_top : ∀ (k x : Nat), k ≤ 64 → x < 2 ^ k → Lib.bitLen x ≤ k
  | 0, x, _, h => by
    obtain rfl : x = 0 := by simpa using h
    decide
  | k + 1, x, hk, h => by
    by_cases h0 : x = 0
    · subst h0
      exact Nat.le_trans (by decide : Lib.bitLen 0 ≤ 0) (Nat.zero_le _)
    · rw [Lib.bitLen_half x h0 (Nat.lt_of_lt_of_le h (Nat.pow_le_pow_right (by omega) hk))]
      have := bitLen_top k (x / 2) (by omega) (by rw [Nat.pow_succ] at h; omega)
      omega
theorem lz64_any (x : Int) (w : World) (h0 : 0 ≤ x) (h1 : x ≤ 18446744073709551615) :
    Calls Tryz.prog 185 #[.int .u64 x] w fun e w' => e = .returned (.int .i64 (64 - (Lib.bitLen x.toNat : Int))) ∧ w' = w := by
  have hb : Lib.bitLen x.toNat ≤ 64 := bitLen_top 64 _ (Nat.le_refl _) (by omega)
  go_enter Tryz.func185, Tryz.ntmps185
  go_wp2_with (go_at_call 125; refine (len64_any x _ h0 h1).mono ?_; rintro e w' ⟨rfl, rfl⟩)
  go_ret
  exact ⟨rfl, rfl⟩
end Go.Proofs.YtflhdplfkpdejaaGreatFmt
namespace Go.Proofs.YtflhdplfkpdejaaGreatFmt
open Go.RowKit Go.Proofs.YtflhdplfkpdejaaGreatFmtW.PrintWords
theorem Blk.zeros {b : Nat} : ∀ (n o : Nat) (w : World) (zs : List Int), Blk w b zs → o + n ≤ zs.length → ∃ ys, Blk (w.setCells b o (List.replicate n (.int .u64 0))) b ys ∧ ys.length = zs.length ∧ (∀ j, o ≤ j → j < o + n → ys.getD j 0 = 0) ∧ (∀ j, j < o ∨ o + n ≤ j → ys.getD j 0 = zs.getD j 0) ∧ Only w (w.setCells b o (List.replicate n (.int .u64 0))) (fun k => k = b)
  | 0, o, w, zs, h, _ => ⟨zs, h, rfl, fun j h1 h2 => by omega, fun _ _ => rfl, Only.refl _ _⟩
  | n + 1, o, w, zs, h, hl => by
    obtain ⟨ys, h1, h2, h3, h4, h5⟩ := Blk.zeros n (o + 1) _ _ (h.set o 0) (by simp; omega)
    refine ⟨ys, h1, by simpa using h2, fun j a c => ?_, fun j a => ?_, ((Only.refl w (fun k => k = b)).set (.inr rfl) _).trans h5⟩
    · by_cases e : j = o
      · subst e
        rw [h4 j (.inl (by omega))]
        simp only [List.getD, List.getElem?_set]
        rw [if_pos trivial, if_pos (by omega)]; rfl
      · exact h3 j (by omega) (by omega)
    · rw [h4 j (by omega)]
      simp only [List.getD, List.getElem?_set]
      rw [if_neg (by omega)]
theorem clear_words (b n c : Nat) (ty : TypeId) (zs : List Int) (w : World) (hb : Blk w b zs) (hn : 0 < n) (hl : n ≤ zs.length) : (Builtin.clear_ #[74] ty #[.slice (some ⟨b, 0, none⟩) n c]).run Tryz.prog w = .ok (.tuple #[]) (w.setCells b 0 (List.replicate n (.int .u64 0))) := by
  refine Lib.run_clear_slice w 74 89 ty (.int .u64 0) Tryz.underlying74 (fun w => ?_) rfl rfl b 0 n c hn (fun j hj => ?_) (fun j hj => ?_)
  · have h : (Tryz.prog.info? 89).map (·.zero) = some (some (.int .u64 0)) := by kernel_rfl
    obtain ⟨i, hi, hz⟩ := Option.map_eq_some_iff.1 h
    simp [zeroValue, typeInfo, hi, hz]
  · rw [Nat.zero_add, hb.cell j (by omega)]; rfl
  · rw [Nat.zero_add]; exact blk_frozen hb j
set_option maxRecDepth 100000 in
set_option maxHeartbeats 4000000 in
theorem lsh_big (bx m c q r : Nat) (xs : List Int) (w : World) (hx : Blk w bx xs) (hm : 0 < m) (hmx : m ≤ xs.length) (hm2 : m + q + 5 ≤ most) (hw : Wd (fun i => xs.getD i 0) m) (hq : 0 < q) (hr : 0 < r) (hr2 : r < 64) :
    Calls Tryz.prog 60 #[.slice none 0 0, .slice (some ⟨bx, 0, none⟩) m c, .int .u64 ((64 * q + r : Nat) : Int)] w (Got w none (num (fun i => xs.getD i 0) m * 2 ^ (64 * q + r))) := by
  have h1 : (((64 * q + r : Nat) : Int) == 0) = false := by rw [beq_eq_false_iff_ne]; omega
  have h2 : ((m : Int) == 0) = false := by rw [beq_eq_false_iff_ne]; omega
  have h3 : ((64 * q + r : Nat) : Int) / 64 = q := by omega
  have h4 : ((64 * q + r : Nat) : Int) % 64 = r := by omega
  have h5 : ((r : Int) == 0) = false := by rw [beq_eq_false_iff_ne]; omega
  have hmm : most = 274877906944 := rfl
  have hm3 : m + q + 5 ≤ 274877906944 := hm2
  have h6 : (m : Int) + q - m = q := by omega
  have h7 : (m : Int) + q + 1 = ((m + q + 1 : Nat) : Int) := by omega
  have hmk : ∀ w, Calls Tryz.prog 93 #[.slice none 0 0, .int .i64 ((m : Int) + q + 1)] w fun e w' => ∃ b zs, e = .returned (.slice (some ⟨b, 0, none⟩) (m + q + 1) zs.length) ∧ Blk w' b zs ∧ m + q + 1 ≤ zs.length ∧ zs.length ≤ most ∧ Only w w' (fun _ => False) ∧ b = w.heap.size := fun w => by
    rw [h7]
    refine (make_any (.slice none 0 0) none (m + q + 1) w .nil (by omega) (by omega)).mono ?_
    rintro e w' ⟨b, zs, h1, h2, h3, h4, h5, h6⟩
    refine ⟨b, zs, h1, h2, h3, h4, h5, ?_⟩
    rcases h6 with ⟨h, _⟩ | h
    · cases h
    · exact h
  have hen := Tryz.lshVU_enters
  have HX := Lib.hid hmm
  clear h7 hmm
  generalize hS : ((64 * q + r : Nat) : Int) = S at h1 h3 h4
  go_enter Tryz.func60, Tryz.ntmps60
  go_wp2_with fail
  refine (hmk w).mono ?_
  rintro e w1 ⟨b, zs, rfl, hb, hnz, hzm, ho, rfl⟩
  have hx1 : ∀ i, i < m → w1.cell? ⟨bx, 0 + i, none⟩ = some (.int .u64 (xs.getD i 0)) := fun i hi => ((ho.blk hx (fun h => h)).cell (0 + i) (by omega)).trans (by rw [Nat.zero_add])
  have hne : bx ≠ w.heap.size := by have := blk_lt hx; omega
  have h8 : (zs.length : Int) - q = ((zs.length - q : Nat) : Int) := by omega
  go_wp2_with fail
  have hmm := HX.out
  refine (lshVU_any w.heap.size q (zs.length - q) bx 0 c m r zs (fun i => xs.getD i 0) w1 hm hr hr2 hb (by omega) (by omega) hx1 (.inl hne)).mono ?_
  rintro e w2 ⟨he, ho2, ys, hy, hyl, hout, hy0, hyj⟩
  obtain ⟨cy, hcy⟩ : ∃ cy, cy = xs.getD (m - 1) 0 / 2 ^ (64 - r) := ⟨_, rfl⟩
  have he : e = .returned (.int .u64 cy) := by rw [hcy]; exact he
  subst he
  have HCY := Lib.hid hcy
  clear hcy
  have cz := hy.cell (m + q) (by omega)
  have fz := blk_frozen hy (m + q)
  have hy2 := hy.set (m + q) cy
  have hl2 : (ys.set (m + q) cy).length = zs.length := by simpa using hyl
  have hcl : ∀ ty, (Builtin.clear_ #[74] ty #[.slice (some ⟨w.heap.size, 0, none⟩) q zs.length]).run Tryz.prog (w2.setCell ⟨w.heap.size, m + q, none⟩ (.int .u64 cy)) = .ok (.tuple #[]) ((w2.setCell ⟨w.heap.size, m + q, none⟩ (.int .u64 cy)).setCells w.heap.size 0 (List.replicate q (.int .u64 0))) := fun ty => clear_words w.heap.size q zs.length ty _ _ hy2 hq (by omega)
  obtain ⟨vs, hv1, hv2, hv3, hv4, hv5⟩ := Blk.zeros q 0 _ _ hy2 (by omega)
  clear hmm
  go_wp2_with fail
  have hmm := HX.out
  have hcy := HCY.out
  have hcar := (hw (m - 1) (by omega))
  have hq : (2 : Int) ^ (64 - r) * 2 ^ r = 18446744073709551616 := by rw [two_pow_cast, two_pow_cast, ← Int.natCast_mul, pow_64 r hr2]; rfl
  have at_s : ∀ j, q ≤ j → vs.getD j 0 = if j = m + q then cy else ys.getD j 0 := by
    intro j hj
    rw [hv4 j (.inr (by omega))]
    simp only [List.getD, List.getElem?_set]
    by_cases h : j = m + q
    · subst h; rw [if_pos rfl, if_pos (by omega), if_pos rfl]; rfl
    · rw [if_neg (by omega), if_neg h]
  have wy : ∀ j, j < m → 0 ≤ ys.getD (q + j) 0 ∧ ys.getD (q + j) 0 < 18446744073709551616 := by
    intro j hj
    have r : ∀ x : Int, 0 ≤ IntKind.u64.wrap x ∧ IntKind.u64.wrap x < 18446744073709551616 := fun x => by rw [IntKind.wrap_u64]; omega
    by_cases h0 : j = 0
    · subst h0; rw [Nat.add_zero, hy0]; exact r _
    · rw [hyj j (by omega) hj]; exact r _
  have cm : 0 ≤ xs.getD (m - 1) 0 / 2 ^ (64 - r) ∧ xs.getD (m - 1) 0 / 2 ^ (64 - r) < 18446744073709551616 := ⟨Int.ediv_nonneg hcar.1 (Int.le_of_lt (Int.pow_pos (by omega))), Int.lt_of_le_of_lt (Int.ediv_le_self _ hcar.1) hcar.2⟩
  rw [← hcy] at cm
  have hn := norm_got w.heap.size (m + q + 1) _ _ hv1 (by rw [hv2, hl2]; exact hnz) (by rw [hv2, hl2]; exact hzm) (fun j hj => by
    show 0 ≤ vs.getD j 0 ∧ vs.getD j 0 < 18446744073709551616
    by_cases h0 : j < q
    · rw [hv3 j (Nat.zero_le _) (by omega)]; omega
    · rw [at_s j (by omega)]
      split
      · exact cm
      · have := wy (j - q) (by omega)
        rw [show q + (j - q) = j by omega] at this
        exact this)
  rw [hv2, hl2] at hn
  clear hcy
  refine hn.mono ?_
  rintro e w3 ⟨v, rfl, hv, ho3⟩
  go_wp2_with fail
  go_ret
  refine ⟨v, some w.heap.size, rfl, ?_, ?_, .inr ⟨_, rfl, Nat.le_refl _⟩⟩
  · have e : num (fun i => vs.getD i 0) (m + q + 1) = num (fun i => xs.getD i 0) m * 2 ^ (64 * q + r) := by
      rw [show m + q + 1 = q + (m + 1) by omega, num_add, num_zero q (fun i hi => hv3 i (Nat.zero_le _) (by omega)), Int.zero_add]
      obtain ⟨k, rfl⟩ : ∃ k, m = k + 1 := ⟨m - 1, by omega⟩
      have a := num_shl (fun i => xs.getD i 0) (fun i => ys.getD (q + i) 0) r k hr2 hw hy0 (fun j a b => hyj j a b)
      rw [show ∀ g : Nat → Int, num g (k + 1 + 1) = num g (k + 1) + g (k + 1) * 2 ^ (64 * (k + 1)) from fun _ => rfl, num_congr (f := fun i => vs.getD (q + i) 0) (g := fun i => ys.getD (q + i) 0) (k + 1) (fun j hj => by show vs.getD (q + j) 0 = _; rw [at_s (q + j) (by omega), if_neg (by omega)])]
      show (_ + vs.getD (q + (k + 1)) 0 * _) * _ = _
      rw [at_s (q + (k + 1)) (by omega), if_pos (by omega), HCY.out]
      rw [Int.pow_add, Int.mul_comm (2 ^ (64 * q)) (2 ^ r), ← Int.mul_assoc, ← a]
      rfl
    rw [← e]; exact hv
  · refine ((((ho.mono (fun _ _ h => h.elim)).step ho2 ?_).set (.inl (Nat.le_refl _)) _).step hv5 ?_).step ho3 (fun _ _ h => h.elim)
    · rintro i hi rfl; omega
    · rintro i hi rfl; omega
end Go.Proofs.YtflhdplfkpdejaaGreatFmt
