/- Part 20 of the walk: NumA NumOpen LawMi LawMj. -/
import Derived.Test.YtbmmaabjeejjkaaGreatFmtPart19
import Derived.Test.YtbmmaabjeejjkaaGreatFmtPart12
import Derived.Test.YtbmmaabjeejjkaaGreatFmtPart17
import Derived.Lib.SmallJoins
import Derived.ChangeSlices
import Derived.ProofKit
namespace Go.Proofs.YtbmmaabjeejjkaaGreatFmt
open Go.RowKit Go.Proofs.YtbmmaabjeejjkaaGreatFmtW.PrintWords
def lowd (xs : List Int) (k : Nat) : List Int := (xs.take k).map (· % 1073741824)
theorem lowd_len {xs : List Int} {k : Nat} (h : k ≤ xs.length) : (lowd xs k).length = k := by unfold lowd; rw [List.length_map, List.length_take]; omega
theorem lowd_snoc {xs : List Int} {k : Nat} (h : k < xs.length) : lowd xs k ++ [xs.getD k 0 % 1073741824] = lowd xs (k + 1) := by
  unfold lowd
  rw [List.take_add_one, List.map_append, List.getElem?_eq_getElem h]
  simp [List.getD, h]
theorem lowd_digs (xs : List Int) (k : Nat) : Digs (lowd xs k) := by
  intro d hd
  unfold lowd at hd
  obtain ⟨x, _, rfl⟩ := List.mem_map.1 hd
  omega
theorem own_some {w : World} {B n : Nat} {v : Value} {ds : List Int} (h : w.ownsRow B 3 1 v n (nums .i64 ds)) (hn : n = ds.length) : ∃ A c, v = .slice A ds.length c ∧ ReadsInt w .i64 A ds.length ds ∧ ds.length ≤ c := by
  subst hn
  by_cases h0 : 0 < ds.length
  · exact own_read1 h h0
  · have e0 : ds.length = 0 := by omega
    have e1 : ds = [] := List.length_eq_zero_iff.1 e0
    rcases h.2 with ⟨rfl, _⟩ | ⟨g, cap, cur, rfl, hb, _, hc, _⟩
    · exact ⟨none, 0, by rw [e0], ⟨rfl, by rw [e0]; simp, fun h => absurd h h0⟩, by omega⟩
    · exact ⟨_, cap, rfl, ⟨rfl, by rw [e0]; simp, fun h => absurd h h0⟩, hc⟩
theorem Ans.num2 {w w' : World} {z e : Int} {en : Ending} {k : Nat} (h : Ans w z e en w') (hz : (Int.natAbs z : Int) < 2 ^ k) (hk : k ≤ 60000) (he0 : -1048576 ≤ e) (he1 : e + k ≤ 1048576) :
    ∃ (neg : Bool) (A : Option Addr) (ds : List Int) (c : Nat) (z' e' : Int), en = .returned (.tuple #[.agg #[.bool neg, .slice A ds.length c, .int .i64 e'], .int .i64 0]) ∧ (∀ (S : Nat → Prop) W2, (∀ k, S k → k < w.heap.size) → Only w' W2 S → NumV W2 (.agg #[.bool neg, .slice A ds.length c, .int .i64 e']) z' e') ∧ Only w w' (fun _ => False) ∧ ((z = 0 ∧ z' = 0 ∧ e' = 0) ∨ (z' ≠ 0 ∧ ∃ t : Nat, z = z' * 2 ^ t ∧ e' = e + t ∧ t < k)) := by
  obtain ⟨v, z', e', he, hN, ho, hc⟩ := h.num hz hk he0 he1
  obtain ⟨neg, A, ds, c, rfl, h1, h2, h3, h4⟩ := hN
  refine ⟨neg, A, ds, c, z', e', he, fun S W2 hY hW => ⟨neg, A, ds, c, rfl, ?_, h2, h3, h4⟩, ho, hc⟩
  have pick : ∀ (en1 : Ending) (v2 : Value) (n m : Int) (b : Bool), en1 = .returned (.tuple #[.agg #[.bool b, v2, .int .i64 n], .int .i64 m]) → en = en1 → v2 = .slice A ds.length c := by
    rintro en1 v2 n m b rfl h
    rw [he] at h
    injection h with h
    injection h with h
    have h0 := congrArg (fun a : Array Value => a.getD 0 undef) h
    injection (show Value.agg _ = Value.agg _ from h0) with h1
    exact (congrArg (fun a : Array Value => a.getD 1 undef) h1).symm
  obtain ⟨_, ⟨_, h5⟩ | ⟨_, t, j, q, _, _, _, _, ⟨_, h5⟩ | ⟨_, _, _, v2, ds2, h5, hown, _, _⟩⟩⟩ := h
  · have h6 := pick _ (.slice none 0 0) 0 0 false rfl h5
    injection h6 with h7 h8 h9
    subst h7
    exact ⟨h1.1, h1.2.1, fun h => by omega⟩
  · have h6 := pick _ (.slice none 0 0) 0 2 false rfl h5
    injection h6 with h7 h8 h9
    subst h7
    exact ⟨h1.1, h1.2.1, fun h => by omega⟩
  · have e3 := pick _ v2 _ _ _ rfl h5
    subst e3
    refine reads_only h1 hW (fun ad hA hS => ?_)
    have hb := hY _ hS
    rcases hown.2 with ⟨h0, _⟩ | ⟨g, cap, cur, h0, hbg, _⟩
    · injection h0 with h7; rw [h7] at hA; cases hA
    · injection h0 with h7; rw [h7] at hA; cases hA
      simp at hb; omega
def Made (w : World) (mx : Int) (nd : Nat) (w' : World) (v : Value) : Prop := ∃ z' e', (∀ (S : Nat → Prop) W2, (∀ k, S k → k < w.heap.size) → Only w' W2 S → NumV W2 v z' e') ∧ Only w w' (fun _ => False) ∧ Bits (30 * nd) z' ∧ -mx ≤ e' ∧ e' ≤ mx + 30 * nd
theorem made_of {w wr W W' : World} {neg : Bool} {xs : List Int} {k nd : Nat} {e mx : Int} {en : Ending} (hk1 : k ≤ nd) (hk2 : k ≤ xs.length) (hnd : nd ≤ 2000) (hmx0 : 0 < mx) (hmx1 : mx ≤ 200000) (hoR : Only w wr (fun _ => False)) (hW : Only wr W (fun _ => False)) (h : Ans W (sval neg (lowd xs k)) (min (max (Int.tmod e mx) (-4194304)) 4194304) en W') :
    ∃ (neg1 : Bool) (A2 : Option Addr) (ds1 : List Int) (c1 : Nat) (e1 : Int), en = .returned (.tuple #[.agg #[.bool neg1, .slice A2 ds1.length c1, .int .i64 e1], .int .i64 0]) ∧ Only wr W' (fun _ => False) ∧ ∀ (S : Nat → Prop) W2, (∀ k, S k → w.heap.size ≤ k ∧ k < W.heap.size) → Only W' W2 S → Made w mx nd W2 (.agg #[.bool neg1, .slice A2 ds1.length c1, .int .i64 e1]) := by
  have hv := val_range _ (lowd_digs xs k)
  rw [lowd_len hk2] at hv
  have hn : (Int.natAbs (sval neg (lowd xs k)) : Int) = val (lowd xs k) := by unfold sval; split <;> omega
  have t1 := Int.tmod_lt_of_pos e hmx0
  have t0 : -mx < Int.tmod e mx := by
    have := Int.lt_tmod_of_pos e hmx0
    omega
  rw [show min (max (Int.tmod e mx) (-4194304)) 4194304 = Int.tmod e mx by omega] at h
  obtain ⟨neg1, A2, ds1, c1, z', e', rfl, hN, ho, hc⟩ := h.num2 (k := 30 * k) (by rw [hn]; exact hv.2) (by omega) (by omega) (by omega)
  refine ⟨neg1, A2, ds1, c1, e', rfl, hW.trans ho, fun S W2 hS hW2 => ⟨z', e', fun S2 W3 hS2 hW3 => hN (fun k => S k ∨ S2 k) W3 (fun k h => by
      have h9 := (hoR.trans hW).base.size
      rcases h with h | h
      · exact (hS k h).2
      · have := hS2 k h; omega) ((hW2.mono (fun _ _ h => .inl h)).trans (hW3.mono (fun _ _ h => .inr h))), ((hoR.trans hW).trans ho).step hW2 (fun i hi h => by have := (hS i h).1; omega), ?_, ?_, ?_⟩⟩
  · unfold Bits
    have hp : (2 : Int) ^ (30 * k) ≤ 2 ^ (30 * nd) := by exact_mod_cast Nat.pow_le_pow_right (by omega : 2 > 0) (by omega : 30 * k ≤ 30 * nd)
    refine Int.lt_of_lt_of_le ?_ hp
    rcases hc with ⟨_, rfl, _⟩ | ⟨_, t, hz, _⟩
    · exact Int.pow_pos (by omega)
    · have hz2 := congrArg (fun x : Int => (Int.natAbs x : Int)) hz
      rw [natAbs_pow, hn] at hz2
      have h3 := Int.mul_le_mul_of_nonneg_left (show (1 : Int) ≤ 2 ^ t from Int.pow_pos (by omega)) (show (0 : Int) ≤ Int.natAbs z' by omega)
      omega
  · rcases hc with ⟨_, _, rfl⟩ | ⟨_, t, _, rfl, _⟩ <;> omega
  · rcases hc with ⟨_, _, rfl⟩ | ⟨_, t, _, rfl, _⟩ <;> omega
theorem made_ret {W : World} {R X : Nat} {x y z a b c : Value} (hR : W.heap[R]? = some (.cells #[x, y, z] 24 (0, 0))) (hX : W.heap[X]? = some (.cells #[a, b, c] 24 (0, 0))) :
    W.cell? ⟨X, 0, none⟩ = some a ∧ W.cell? ⟨X, 1, none⟩ = some b ∧ W.cell? ⟨X, 2, none⟩ = some c ∧ W.cell? ⟨R, 0, none⟩ = some x ∧ W.cell? ⟨R, 1, none⟩ = some y ∧ W.cell? ⟨R, 2, none⟩ = some z ∧ W.frozen? ⟨R, 0, none⟩ = false ∧ W.frozen? ⟨R, 1, none⟩ = false ∧ W.frozen? ⟨R, 2, none⟩ = false ∧
    (((W.setCell ⟨R, 0, none⟩ a).setCell ⟨R, 1, none⟩ b).setCell ⟨R, 2, none⟩ c).heap[R]? = some (.cells #[a, b, c] 24 (0, 0)) ∧ Only W (((W.setCell ⟨R, 0, none⟩ a).setCell ⟨R, 1, none⟩ b).setCell ⟨R, 2, none⟩ c) (fun k => k = R) :=
  ⟨blk_cell hX 0, blk_cell hX 1, blk_cell hX 2, blk_cell hR 0, blk_cell hR 1, blk_cell hR 2, blk_frozen hR 0, blk_frozen hR 1, blk_frozen hR 2, by simpa using blk_set (blk_set (blk_set hR 0 a) 1 b) 2 c, (((Only.refl W (fun k => k = R)).set (.inr rfl) _).set (.inr rfl) _).set (.inr rfl) _⟩
theorem made_a {w wM : World} {mx : Int} {nd B R : Nat} {neg1 : Bool} {A2 : Option Addr} {ds1 : List Int} {q1 : Nat} {f1 : Int} (hRM : wM.heap[R]? = some (.cells #[.bool false, .slice none 0 0, .int .i64 0] 24 (0, 0))) (hm : ∀ (S : Nat → Prop) W2, (∀ k, S k → w.heap.size ≤ k ∧ k < B) → Only wM W2 S → Made w mx nd W2 (.agg #[.bool neg1, .slice A2 ds1.length q1, .int .i64 f1])) (hR0 : w.heap.size ≤ R) (hRB : R < B) :
    ∃ WN, WN = wM.alloc (.cells #[.bool neg1, .slice A2 ds1.length q1, .int .i64 f1] 24) ∧
    WN.cell? ⟨wM.heap.size, 0, none⟩ = some (.bool neg1) ∧ WN.cell? ⟨wM.heap.size, 1, none⟩ = some (.slice A2 ds1.length q1) ∧ WN.cell? ⟨wM.heap.size, 2, none⟩ = some (.int .i64 f1) ∧ WN.cell? ⟨R, 0, none⟩ = some (.bool false) ∧ WN.cell? ⟨R, 1, none⟩ = some (.slice none 0 0) ∧ WN.cell? ⟨R, 2, none⟩ = some (.int .i64 0) ∧ WN.frozen? ⟨R, 0, none⟩ = false ∧ WN.frozen? ⟨R, 1, none⟩ = false ∧ WN.frozen? ⟨R, 2, none⟩ = false ∧
    (((WN.setCell ⟨R, 0, none⟩ (.bool neg1)).setCell ⟨R, 1, none⟩ (.slice A2 ds1.length q1)).setCell ⟨R, 2, none⟩ (.int .i64 f1)).heap[R]? = some (.cells #[.bool neg1, .slice A2 ds1.length q1, .int .i64 f1] 24 (0, 0)) ∧ Made w mx nd (((WN.setCell ⟨R, 0, none⟩ (.bool neg1)).setCell ⟨R, 1, none⟩ (.slice A2 ds1.length q1)).setCell ⟨R, 2, none⟩ (.int .i64 f1)) (.agg #[.bool neg1, .slice A2 ds1.length q1, .int .i64 f1]) := by
  have hXN := heap_alloc_new wM (.cells #[.bool neg1, .slice A2 ds1.length q1, .int .i64 f1] 24)
  have hRN := blk_alloc hRM (.cells #[.bool neg1, .slice A2 ds1.length q1, .int .i64 f1] 24)
  have hoN : Only wM (wM.alloc (.cells #[.bool neg1, .slice A2 ds1.length q1, .int .i64 f1] 24)) (fun _ => False) := (Only.refl wM _).alloc _
  obtain ⟨t0, t1, t2, t3, t4, t5, t6, t7, t8, t9, t10⟩ := made_ret hRN hXN
  exact ⟨_, rfl, t0, t1, t2, t3, t4, t5, t6, t7, t8, t9, hm (fun k => k = R) _ (by rintro k rfl; omega) ((hoN.mono (fun _ _ h => h.elim)).trans t10)⟩
theorem made_b {w wM : World} {mx : Int} {nd B R : Nat} {neg1 : Bool} {A2 : Option Addr} {ds1 : List Int} {q1 : Nat} {f1 : Int} (hRM : wM.heap[R]? = some (.cells #[.bool false, .slice none 0 0, .int .i64 0] 24 (0, 0))) {X : Nat} {x y z : Value} (hXM : wM.heap[X]? = some (.cells #[x, y, z] 24 (0, 0))) (hm : ∀ (S : Nat → Prop) W2, (∀ k, S k → w.heap.size ≤ k ∧ k < B) → Only wM W2 S → Made w mx nd W2 (.agg #[.bool neg1, .slice A2 ds1.length q1, .int .i64 f1])) (hR0 : w.heap.size ≤ R) (hRB : R < X) (hXB : X < B) (hX0 : w.heap.size ≤ X) :
    ∃ WN, WN = ((wM.setCell ⟨X, 0, none⟩ (.bool neg1)).setCell ⟨X, 1, none⟩ (.slice A2 ds1.length q1)).setCell ⟨X, 2, none⟩ (.int .i64 f1) ∧
    WN.cell? ⟨X, 0, none⟩ = some (.bool neg1) ∧ WN.cell? ⟨X, 1, none⟩ = some (.slice A2 ds1.length q1) ∧ WN.cell? ⟨X, 2, none⟩ = some (.int .i64 f1) ∧ WN.cell? ⟨R, 0, none⟩ = some (.bool false) ∧ WN.cell? ⟨R, 1, none⟩ = some (.slice none 0 0) ∧ WN.cell? ⟨R, 2, none⟩ = some (.int .i64 0) ∧ WN.frozen? ⟨R, 0, none⟩ = false ∧ WN.frozen? ⟨R, 1, none⟩ = false ∧ WN.frozen? ⟨R, 2, none⟩ = false ∧
    (((WN.setCell ⟨R, 0, none⟩ (.bool neg1)).setCell ⟨R, 1, none⟩ (.slice A2 ds1.length q1)).setCell ⟨R, 2, none⟩ (.int .i64 f1)).heap[R]? = some (.cells #[.bool neg1, .slice A2 ds1.length q1, .int .i64 f1] 24 (0, 0)) ∧ Made w mx nd (((WN.setCell ⟨R, 0, none⟩ (.bool neg1)).setCell ⟨R, 1, none⟩ (.slice A2 ds1.length q1)).setCell ⟨R, 2, none⟩ (.int .i64 f1)) (.agg #[.bool neg1, .slice A2 ds1.length q1, .int .i64 f1]) := by
  have hne : R ≠ X := by omega
  have hXN := blk_set (blk_set (blk_set hXM 0 (.bool neg1)) 1 (.slice A2 ds1.length q1)) 2 (.int .i64 f1)
  have hXN : (((wM.setCell ⟨X, 0, none⟩ (.bool neg1)).setCell ⟨X, 1, none⟩ (.slice A2 ds1.length q1)).setCell ⟨X, 2, none⟩ (.int .i64 f1)).heap[X]? = some (.cells #[.bool neg1, .slice A2 ds1.length q1, .int .i64 f1] 24 (0, 0)) := by simpa using hXN
  have hRN := blk_far (blk_far (blk_far hRM (p := ⟨X, 0, none⟩) hne (.bool neg1)) (p := ⟨X, 1, none⟩) hne (.slice A2 ds1.length q1)) (p := ⟨X, 2, none⟩) hne (.int .i64 f1)
  have hoN : Only wM (((wM.setCell ⟨X, 0, none⟩ (.bool neg1)).setCell ⟨X, 1, none⟩ (.slice A2 ds1.length q1)).setCell ⟨X, 2, none⟩ (.int .i64 f1)) (fun k => k = X ∨ k = R) := (((Only.refl wM (fun k => k = X ∨ k = R)).set (.inr (.inl rfl)) _).set (.inr (.inl rfl)) _).set (.inr (.inl rfl)) _
  obtain ⟨t0, t1, t2, t3, t4, t5, t6, t7, t8, t9, t10⟩ := made_ret hRN hXN
  exact ⟨_, rfl, t0, t1, t2, t3, t4, t5, t6, t7, t8, t9, hm (fun k => k = X ∨ k = R) _ (by rintro k (rfl | rfl) <;> omega) (hoN.trans (t10.mono (fun _ _ h => .inr h)))⟩
set_option maxRecDepth 100000 in
set_option maxHeartbeats 8000000 in
theorem num_calls (neg : Bool) (A : Option Addr) (c : Nat) (xs : List Int) (e mx : Int) (nd : Nat) (w : World) (hr : ReadsInt w .i64 A xs.length xs) (hc : xs.length ≤ c) (hT : Tab w) (hnd : nd ≤ 2000) (hmx0 : 0 < mx) (hmx1 : mx ≤ 200000) :
    Calls Tryz.prog 12 #[.agg #[.bool neg, .slice A xs.length c, .int .i64 e], .int .i64 (nd : Int), .int .i64 mx] w fun en w' => ∃ v z' e', en = .returned v ∧ (∀ (S : Nat → Prop) W2, (∀ k, S k → k < w.heap.size) → Only w' W2 S → NumV W2 v z' e') ∧ Only w w' (fun _ => False) ∧ Bits (30 * nd) z' ∧ -mx ≤ e' ∧ e' ≤ mx + 30 * nd := by
  have hb := heap_two' w (.cells #[.bool neg, .slice A xs.length c, .int .i64 e] 24) (.cells #[.bool false, .slice none 0 0, .int .i64 0] 24)
  have hR := heap_two w (.cells #[.bool neg, .slice A xs.length c, .int .i64 e] 24) (.cells #[.bool false, .slice none 0 0, .int .i64 0] 24)
  have ho := ((Only.refl w (fun _ => False)).alloc (.cells #[.bool neg, .slice A xs.length c, .int .i64 e] 24)).alloc (.cells #[.bool false, .slice none 0 0, .int .i64 0] 24)
  have HR := Lib.hid (And.intro hr (And.intro hc hT))
  go_enter Tryz.func12, Tryz.ntmps12
  go_wp2_with fail
  generalize (w.alloc (.cells #[.bool neg, .slice A xs.length c, .int .i64 e] 24)).alloc (.cells #[.bool false, .slice none 0 0, .int .i64 0] 24) = w2 at *
  have hl1 := blk_lt hb
  have hl2 := blk_lt hR
  have HB := Lib.hid (And.intro hb (And.intro hR ho))
  clear hb hR ho
  go_loopw [7, 8] (fun l i wr => ∃ k : Nat, k ≤ nd ∧ k ≤ xs.length ∧ i = .int .i64 k ∧ Below w2.heap.size w2 wr ∧ wr.ownsRow w2.heap.size 3 1 l k (nums .i64 (lowd xs k)))
    (fun _ i _ => nd - (intOf i).toNat)
  case atStart => exact ⟨0, Nat.zero_le _, Nat.zero_le _, rfl, Below.refl _ _, own_nil _ _ _ _⟩
  case round =>
    obtain ⟨k, hk1, hk2, rfl, hB, hown⟩ := hrel
    have hbr := (hB.block _ hl1).trans HB.out.1
    have c0 : wr.cell? ⟨w.heap.size, 0, none⟩ = some (.bool neg) := blk_cell hbr 0
    have c1 : wr.cell? ⟨w.heap.size, 1, none⟩ = some (.slice A xs.length c) := blk_cell hbr 1
    have c2 : wr.cell? ⟨w.heap.size, 2, none⟩ = some (.int .i64 e) := blk_cell hbr 2
    have HO := Lib.hid hown
    clear hown hbr
    by_cases hgo : k < nd ∧ k < xs.length
    · obtain ⟨hlt1, hlt2⟩ := hgo
      have i1 : (k : Int) < nd := by omega
      have i2 : (k : Int) < xs.length := by omega
      have i1d : decide (k < nd) = true := by rw [decide_eq_true_eq]; exact hlt1
      have i2d : decide (k < xs.length) = true := by rw [decide_eq_true_eq]; exact hlt2
      have hcell : ∃ ad, A = some ad ∧ wr.cell? (ad.add k) = some (.int .i64 (xs.getD k 0)) := by
        obtain ⟨ad, h1, h2⟩ := (reads_only HR.out.1 (HB.out.2.2.trans (Only.of_below hB)) (fun _ _ h => h)).2.2 (by omega)
        exact ⟨ad, h1, h2 _ hlt2⟩
      obtain ⟨ad, hA, hcl⟩ := hcell
      subst hA
      obtain ⟨x, hx⟩ : ∃ x, xs.getD k 0 = x := ⟨_, rfl⟩
      rw [hx] at hcl
      have hand : bits .and .i64 x 1073741823 = x % 1073741824 := Flt.i64_and_mask x 30 (by omega) 1073741823 (by decide)
      have HX := Lib.hid hx
      clear hx
      have hown' : wr.ownsRow w2.heap.size 3 1 u7 (lowd xs k).length (nums .i64 (lowd xs k)) := by rw [lowd_len hk2]; exact HO.out
      obtain ⟨A1, cp, hv7, _⟩ := own_some HO.out (lowd_len hk2).symm
      subst hv7
      have HW := Lib.hid (And.intro hown' hB)
      clear hown'
      go_wp2_with (at_builtin; refine print_append_num (w0 := w2) w2.heap.size rfl (.tmp 23) (.tmp 30) 22 3 .i64 8 rfl Tryz.underlying22 int3 (by decide) (.slice A1 (lowd xs k).length cp) (lowd xs k) (x % 1073741824) rfl rfl HW.out.1 HW.out.2 ?_ ?_ ?_)
      · exact hB.size
      · rw [lowd_len hk2]; omega
      intro v1 w1 hown1 hB1 hg1 hat1
      rw [lowd_len hk2, ← HX.out] at hown1
      have HO1 := Lib.hid hown1
      clear hown1 hg1 hat1 HW
      go_wp2_with fail
      go_roundw
      case rel =>
        refine ⟨k + 1, by omega, by omega, by go_num, hB1, ?_⟩
        have := HO1.out
        rw [lowd_snoc hlt2] at this
        exact this
      case measure => simp [intOf]; omega
    · by_cases h2 : k < xs.length
      · have i1d : decide (k < nd) = false := by rw [decide_eq_false_iff_not]; omega
        have i2d : decide (k < xs.length) = true := by rw [decide_eq_true_eq]; exact h2
        go_wp2_with fail
        obtain ⟨A1, cp, hv7, hr1, hc1⟩ := own_some HO.out (lowd_len hk2).symm
        subst hv7
        have hmx9 : ¬ mx = 0 := by omega
        have m1 : ¬ w.heap.size = wr.heap.size := by have := hB.size; omega
        have hbA := blk_alloc ((hB.block _ hl1).trans HB.out.1) (.cells #[.bool false, .slice none 0 0, .int .i64 0] 24)
        have a0 : (wr.alloc (.cells #[.bool false, .slice none 0 0, .int .i64 0] 24)).cell? ⟨w.heap.size, 0, none⟩ = some (.bool neg) := blk_cell hbA 0
        have a2 : (wr.alloc (.cells #[.bool false, .slice none 0 0, .int .i64 0] 24)).cell? ⟨w.heap.size, 2, none⟩ = some (.int .i64 e) := blk_cell hbA 2
        clear hbA
        have hoR : Only w wr (fun _ => False) := HB.out.2.2.trans (Only.of_below hB)
        have HMR := Lib.hid (fun W (hW : Only wr W (fun _ => False)) => make_ok neg A1 cp (lowd xs k) (Int.tmod e mx) W (reads_only hr1 hW (fun _ _ h => h)) hc1 (HR.out.2.2.only (hoR.trans hW)) (lowd_digs xs k) (by rw [lowd_len hk2]; omega))
        have HA : Hid (∀ W en W', Only wr W (fun _ => False) → Ans W (sval neg (lowd xs k)) (min (max (Int.tmod e mx) (-4194304)) 4194304) en W' → ∃ (neg1 : Bool) (A2 : Option Addr) (ds1 : List Int) (c1 : Nat) (e1 : Int), en = .returned (.tuple #[.agg #[.bool neg1, .slice A2 ds1.length c1, .int .i64 e1], .int .i64 0]) ∧ Only wr W' (fun _ => False) ∧ ∀ (S : Nat → Prop) W2, (∀ k, S k → w.heap.size ≤ k ∧ k < W.heap.size) → Only W' W2 S → Made w mx nd W2 (.agg #[.bool neg1, .slice A2 ds1.length c1, .int .i64 e1])) := Lib.hid (fun W en W' hW h => made_of hk1 hk2 hnd hmx0 hmx1 hoR hW h)
        clear HO
        go_region_law (go_simp; go_at_call 21; first | (have HM1 := HMR.out _ (Only.refl wr (fun _ => False)).drew; refine HM1.mono ?_; rintro en wM hAns; obtain ⟨neg1, A2, ds1, q1, f1, rfl, hoM, hmade⟩ := HA.out _ _ _ (Only.refl wr (fun _ => False)).drew hAns) | (have HM1 := HMR.out _ ((Only.refl wr (fun _ => False)).alloc (.cells #[.bool false, .slice none 0 0, .int .i64 0] 24)).drew; refine HM1.mono ?_; rintro en wM hAns; have hX := (hAns.1.kept _ (blk_lt (heap_alloc_new wr (.cells #[.bool false, .slice none 0 0, .int .i64 0] 24))) (fun h => h)).trans (heap_alloc_new wr (.cells #[.bool false, .slice none 0 0, .int .i64 0] 24)); have x0 := blk_cell hX 0; have x1 := blk_cell hX 1; have x2 := blk_cell hX 2; have fx0 := blk_frozen hX 0; have fx1 := blk_frozen hX 1; have fx2 := blk_frozen hX 2; have hXM := hX; clear hX; obtain ⟨neg1, A2, ds1, q1, f1, rfl, hoM, hmade⟩ := HA.out _ _ _ ((Only.refl wr (fun _ => False)).alloc (.cells #[.bool false, .slice none 0 0, .int .i64 0] 24)).drew hAns))
        all_goals
          have hRM := (hoM.kept _ (Nat.lt_of_lt_of_le hl2 hB.size) (fun h => h)).trans ((hB.block _ hl2).trans HB.out.2.1)
          have m3 : w.heap.size + 1 < wM.heap.size := blk_lt hRM
          have m4 : w2.heap.size ≤ wr.heap.size := hB.size
          first
            | (obtain ⟨WN, hW, t0, t1, t2, t3, t4, t5, t6, t7, t8, t9, t10⟩ := made_a (q1 := q1) (f1 := f1) hRM hmade (by omega) (by show w.heap.size + 1 < wr.heap.size; omega)
               rw [← hW]; clear hW)
            | (obtain ⟨WN, hW, t0, t1, t2, t3, t4, t5, t6, t7, t8, t9, t10⟩ := made_b (q1 := q1) (f1 := f1) (X := wr.heap.size) hRM hXM hmade (by omega) (by omega) (by simp) (by omega)
               rw [← hW]; clear hW)
          have HMM := Lib.hid t10
          clear hmade HMR HA m3 m4 hRM hoM hAns HB HR c0 c1 c2 a0 a2 t10 hr1 hoR hr hB hc1
          go_wp2_with fail
          refine bodyPost_ret (results_cell_row rfl _ _ (w.heap.size + 1) 24 #[.bool neg1, .slice A2 ds1.length q1, .int .i64 f1] (0, 0) _ rfl t9 Tryz.underlying24 rfl (by kernel_rfl)) rfl ?_
          obtain ⟨z', e', h1, h2, h3⟩ := HMM.out
          exact ⟨_, z', e', rfl, h1, h2, h3⟩
      · have i2d : decide (k < xs.length) = false := by rw [decide_eq_false_iff_not]; omega
        go_wp2_with fail
        obtain ⟨A1, cp, hv7, hr1, hc1⟩ := own_some HO.out (lowd_len hk2).symm
        subst hv7
        have hmx9 : ¬ mx = 0 := by omega
        have m1 : ¬ w.heap.size = wr.heap.size := by have := hB.size; omega
        have hbA := blk_alloc ((hB.block _ hl1).trans HB.out.1) (.cells #[.bool false, .slice none 0 0, .int .i64 0] 24)
        have a0 : (wr.alloc (.cells #[.bool false, .slice none 0 0, .int .i64 0] 24)).cell? ⟨w.heap.size, 0, none⟩ = some (.bool neg) := blk_cell hbA 0
        have a2 : (wr.alloc (.cells #[.bool false, .slice none 0 0, .int .i64 0] 24)).cell? ⟨w.heap.size, 2, none⟩ = some (.int .i64 e) := blk_cell hbA 2
        clear hbA
        have hoR : Only w wr (fun _ => False) := HB.out.2.2.trans (Only.of_below hB)
        have HMR := Lib.hid (fun W (hW : Only wr W (fun _ => False)) => make_ok neg A1 cp (lowd xs k) (Int.tmod e mx) W (reads_only hr1 hW (fun _ _ h => h)) hc1 (HR.out.2.2.only (hoR.trans hW)) (lowd_digs xs k) (by rw [lowd_len hk2]; omega))
        have HA : Hid (∀ W en W', Only wr W (fun _ => False) → Ans W (sval neg (lowd xs k)) (min (max (Int.tmod e mx) (-4194304)) 4194304) en W' → ∃ (neg1 : Bool) (A2 : Option Addr) (ds1 : List Int) (c1 : Nat) (e1 : Int), en = .returned (.tuple #[.agg #[.bool neg1, .slice A2 ds1.length c1, .int .i64 e1], .int .i64 0]) ∧ Only wr W' (fun _ => False) ∧ ∀ (S : Nat → Prop) W2, (∀ k, S k → w.heap.size ≤ k ∧ k < W.heap.size) → Only W' W2 S → Made w mx nd W2 (.agg #[.bool neg1, .slice A2 ds1.length c1, .int .i64 e1])) := Lib.hid (fun W en W' hW h => made_of hk1 hk2 hnd hmx0 hmx1 hoR hW h)
        clear HO
        go_region_law (go_simp; go_at_call 21; first | (have HM1 := HMR.out _ (Only.refl wr (fun _ => False)).drew; refine HM1.mono ?_; rintro en wM hAns; obtain ⟨neg1, A2, ds1, q1, f1, rfl, hoM, hmade⟩ := HA.out _ _ _ (Only.refl wr (fun _ => False)).drew hAns) | (have HM1 := HMR.out _ ((Only.refl wr (fun _ => False)).alloc (.cells #[.bool false, .slice none 0 0, .int .i64 0] 24)).drew; refine HM1.mono ?_; rintro en wM hAns; have hX := (hAns.1.kept _ (blk_lt (heap_alloc_new wr (.cells #[.bool false, .slice none 0 0, .int .i64 0] 24))) (fun h => h)).trans (heap_alloc_new wr (.cells #[.bool false, .slice none 0 0, .int .i64 0] 24)); have x0 := blk_cell hX 0; have x1 := blk_cell hX 1; have x2 := blk_cell hX 2; have fx0 := blk_frozen hX 0; have fx1 := blk_frozen hX 1; have fx2 := blk_frozen hX 2; have hXM := hX; clear hX; obtain ⟨neg1, A2, ds1, q1, f1, rfl, hoM, hmade⟩ := HA.out _ _ _ ((Only.refl wr (fun _ => False)).alloc (.cells #[.bool false, .slice none 0 0, .int .i64 0] 24)).drew hAns))
        all_goals
          have hRM := (hoM.kept _ (Nat.lt_of_lt_of_le hl2 hB.size) (fun h => h)).trans ((hB.block _ hl2).trans HB.out.2.1)
          have m3 : w.heap.size + 1 < wM.heap.size := blk_lt hRM
          have m4 : w2.heap.size ≤ wr.heap.size := hB.size
          first
            | (obtain ⟨WN, hW, t0, t1, t2, t3, t4, t5, t6, t7, t8, t9, t10⟩ := made_a (q1 := q1) (f1 := f1) hRM hmade (by omega) (by show w.heap.size + 1 < wr.heap.size; omega)
               rw [← hW]; clear hW)
            | (obtain ⟨WN, hW, t0, t1, t2, t3, t4, t5, t6, t7, t8, t9, t10⟩ := made_b (q1 := q1) (f1 := f1) (X := wr.heap.size) hRM hXM hmade (by omega) (by omega) (by simp) (by omega)
               rw [← hW]; clear hW)
          have HMM := Lib.hid t10
          clear hmade HMR HA m3 m4 hRM hoM hAns HB HR c0 c1 c2 a0 a2 t10 hr1 hoR hr hB hc1
          go_wp2_with fail
          refine bodyPost_ret (results_cell_row rfl _ _ (w.heap.size + 1) 24 #[.bool neg1, .slice A2 ds1.length q1, .int .i64 f1] (0, 0) _ rfl t9 Tryz.underlying24 rfl (by kernel_rfl)) rfl ?_
          obtain ⟨z', e', h1, h2, h3⟩ := HMM.out
          exact ⟨_, z', e', rfl, h1, h2, h3⟩
end Go.Proofs.YtbmmaabjeejjkaaGreatFmt
namespace Go.Proofs.YtbmmaabjeejjkaaGreatFmt
open Go.RowKit Go.Proofs.YtbmmaabjeejjkaaGreatFmtW.PrintWords Go.ChangeShapes Go.ChangeAt
set_option maxRecDepth 100000 in
theorem num_open {H : Type} {enc : TypeId × Value → H} {W : World} {b0 : Nat} {v : Value} {d : DataW H} {p : List MemPlace} (hval : Value.okWide Tryz.prog W .any b0 24 v) (h : DataW.Trod enc Tryz.prog W 0 (fun _ => true) true 24 v d p) :
    ∃ neg A c ds e, v = .agg #[.bool neg, .slice A ds.length c, .int .i64 e] ∧ ReadsInt W .i64 A ds.length ds ∧ ds.length ≤ c ∧ (0 < ds.length → ∀ ad, A = some ad → ad.block < W.heap.size) ∧
      (∀ (W' : World) (sp : Nat → Bool), Below W.heap.size W W' → (∀ q ∈ p, sp q.block = true) → DataW.Trod enc Tryz.prog W' 0 sp true 24 v d p) := by
  obtain ⟨u0, u1, u2, y0, y1, y2, n, rfl, rfl, rfl, t0, t1, t2⟩ := Joins.open_agg3 Tryz.underlying24 (by kernel_rfl) (by kernel_rfl) hval h
  obtain ⟨neg, e0, rfl⟩ := DataW.trod_bool Tryz.underlying4 t0
  obtain ⟨e, e2, rfl, hwf⟩ := DataW.trod_int Tryz.underlying3 t2
  have e0 : u0 = .bool neg := by simpa using e0
  have e2 : u2 = .int .i64 e := by simpa using e2
  subst e0 e2
  rcases open_ints Tryz.underlying22 Tryz.underlying3 (by kernel_rfl) t1 with ⟨e1, rfl⟩ | ⟨a, len, cap, zs, e1, hb, hl, hm, hz, rfl, hcell, hw⟩
  · have e1 : u1 = .slice none 0 0 := by simpa using e1
    subst e1
    refine ⟨neg, none, 0, [], e, rfl, ⟨rfl, by simp, fun h => absurd h (by simp)⟩, Nat.le_refl _, fun h => absurd h (by simp), fun W' sp hB hp => ?_⟩
    exact Joins.shut_agg3 (y0 := (.lit (.bool neg), [])) (y1 := (.nil, [])) (y2 := (.lit (.int .i64 e), [])) Tryz.underlying24 (by kernel_rfl) (by kernel_rfl) ⟨1, by simp [DataW.trod, Tryz.underlying4]⟩ ⟨1, by simp [DataW.trod, Tryz.underlying22]⟩ ⟨1, trod_int_mk 0 Tryz.underlying3 hwf⟩
  · have e1 : u1 = .slice (some a) len cap := by simpa using e1
    subst e1
    rw [if_pos rfl] at hz
    have htl : (zs.take len).length = len := by rw [List.length_take]; omega
    refine ⟨neg, some a, cap, zs.take len, e, by rw [htl], ⟨rfl, ?_, fun h0 => ⟨a, rfl, fun j hj => ?_⟩⟩, by omega, fun h0 ad h => ?_, fun W' sp hB hp => ?_⟩
    · rw [htl]
      have : maxLen = 9223372036854775807 := by decide
      omega
    · have hj : j < len := by omega
      rw [hcell j (by omega)]
      simp [List.getD, hj]
    · cases h
      have := World.block_lt_of_cell? W _ (hcell 0 (by omega))
      have hbl : (a.add 0).block = a.block := by unfold Addr.add; split <;> rfl
      rwa [hbl] at this
    · have hlt : 0 < zs.length → a.block < W.heap.size := fun h0 => by
        have := World.block_lt_of_cell? W _ (hcell 0 h0)
        have hbl : (a.add 0).block = a.block := by unfold Addr.add; split <;> rfl
        rwa [hbl] at this
      have hsp : zs.length = (if sp a.block then cap else len) := by
        by_cases h0 : 0 < zs.length
        · have hpl : sp a.block = true := hp (.cell a.block (a.off + 0)) (by
            have hm : MemPlace.cell a.block (a.off + 0) ∈ MemPlace.row a zs.length := MemPlace.mem_row.2 ⟨0, h0, rfl⟩
            exact List.mem_append_right _ (List.mem_append_left _ hm))
          rw [if_pos hpl]
          exact hz
        · split <;> omega
      exact Joins.shut_agg3 (y0 := (.lit (.bool neg), [])) (y1 := (.slice (lits .i64 (zs.take len)) (lits .i64 (zs.drop len)), MemPlace.row a zs.length)) (y2 := (.lit (.int .i64 e), [])) Tryz.underlying24 (by kernel_rfl) (by kernel_rfl) ⟨1, by simp [DataW.trod, Tryz.underlying4]⟩
        ⟨2, shut_ints 0 Tryz.underlying22 Tryz.underlying3 (by kernel_rfl) hb hl hm hsp (fun i hi => by
          have hbl : (a.add i).block = a.block := by unfold Addr.add; split <;> rfl
          have hk : W'.heap[(a.add i).block]? = W.heap[(a.add i).block]? := by rw [hbl]; exact hB.block _ (hlt (by omega))
          exact (World.cell?_of_block hk).trans (hcell i hi)) hw⟩ ⟨1, trod_int_mk 0 Tryz.underlying3 hwf⟩
end Go.Proofs.YtbmmaabjeejjkaaGreatFmt
namespace Go.Proofs.YtbmmaabjeejjkaaGreatFmt
open Go.RowKit Go.Proofs.YtbmmaabjeejjkaaGreatFmtW.PrintWords
theorem NumV.odd {w : World} {v : Value} {z e : Int} (h : NumV w v z e) : (z = 0 ∧ e = 0) ∨ z % 2 = 1 := by
  obtain ⟨neg, A, ds, c, _, _, _, h4, rfl⟩ := h
  by_cases h0 : ds.length = 0
  · obtain ⟨_, rfl⟩ := vB_none h4 h0
    have : ds = [] := List.length_eq_zero_iff.1 h0
    subst this
    left; constructor
    · unfold sval; simp [val]
    · rfl
  · right
    obtain ⟨_, _, h5, _⟩ := vB_some h4 h0
    have : val ds % 2 = 1 := by
      cases ds with
      | nil => simp at h0
      | cons d l =>
        have h6 : d % 2 = 1 := h5
        rw [val]; omega
    unfold sval; split <;> omega
theorem neg_num (v : Value) (z e : Int) (w : World) (h : NumV w v z e) (hT : Tab w) :
    Calls Tryz.prog 5 #[v] w fun en w' => ∃ v', en = .returned (.tuple #[v', .int .i64 0]) ∧ NumV w' v' (-z) e ∧ Only w w' (fun _ => False) := by
  have hodd := h.odd
  obtain ⟨⟨k, hk1, hk⟩, he0, he1⟩ := h.range
  obtain ⟨neg, A, ds, c, rfl, h1, h2, h3, rfl⟩ := h
  refine (neg_ok neg A c ds e w h1 h2 hT h3).mono ?_
  rintro en w' hA
  obtain ⟨ho, ⟨hz, rfl⟩ | ⟨hz, t, j, q, a1, a2, a3, a4, hc⟩⟩ := hA
  · rcases hodd with ⟨h5, rfl⟩ | h5
    · rw [h5]
      exact ⟨_, rfl, numV_zero _, ho⟩
    · omega
  · have ht : t = 0 := by
      rcases Nat.eq_zero_or_pos t with h | h
      · exact h
      · exfalso
        obtain ⟨u, rfl⟩ : ∃ u, t = u + 1 := ⟨t - 1, by omega⟩
        rw [Int.pow_succ, ← Int.mul_assoc] at a1
        rcases hodd with ⟨h5, _⟩ | h5
        · omega
        · rw [Int.natAbs_neg] at a1; omega
    subst ht
    rw [Int.pow_zero, Int.mul_one, Int.natAbs_neg] at a1
    have hj : j ≤ 60000 := by
      rcases Nat.eq_zero_or_pos j with h | h
      · omega
      · have := pow_lt (a := j - 1) (b := k) (by have := a4.2 h; omega)
        omega
    rcases hc with ⟨hbad, _⟩ | ⟨b1, b2, b3, v, ds2, rfl, hown, hval, hnm⟩
    · omega
    · have hl : 0 < ds2.length := by
        rcases Nat.eq_zero_or_pos ds2.length with h | h
        · rw [List.length_eq_zero_iff.1 h] at hval
          simp [val] at hval
          omega
        · exact h
      obtain ⟨A2, c2, rfl, hr, hc⟩ := own_read1 hown hl
      have hv := vB_num (decide (-sval neg ds < 0)) ds2 (e + (0 : Nat)) q j hval hnm a2 a3 hj a4.1 b2 b3
      rw [show e + ((0 : Nat) : Int) = e by omega] at hv
      refine ⟨_, by rw [show e + ((0 : Nat) : Int) = e by omega], ⟨_, A2, ds2, c2, rfl, hr, hc, hv, ?_⟩, ho⟩
      unfold sval at a1 ⊢
      rw [hval]
      split <;> split at a1 <;> simp_all <;> omega
set_option maxRecDepth 100000 in
set_option maxHeartbeats 4000000 in
theorem num_one (neg : Bool) (A : Option Addr) (c : Nat) (xs : List Int) (e : Int) (w : World) (hr : ReadsInt w .i64 A xs.length xs) (hc : xs.length ≤ c) (hT : Tab w) :
    Calls Tryz.prog 4 #[.agg #[.bool neg, .slice A xs.length c, .int .i64 e]] w fun en w' => ∃ v z' e', en = .returned v ∧ NumV w' v z' e' ∧ Only w w' (fun _ => False) ∧ Bits 600 z' ∧ -1300 ≤ e' ∧ e' ≤ 1900 := by
  have ho := ((Only.refl w (fun _ => False)).alloc (.cells #[.bool neg, .slice A xs.length c, .int .i64 e] 24)).alloc (.cells #[.bool false, .slice none 0 0, .int .i64 0] 24)
  have hR := heap_two w (.cells #[.bool neg, .slice A xs.length c, .int .i64 e] 24) (.cells #[.bool false, .slice none 0 0, .int .i64 0] 24)
  have hsz : ((w.alloc (.cells #[.bool neg, .slice A xs.length c, .int .i64 e] 24)).alloc (.cells #[.bool false, .slice none 0 0, .int .i64 0] 24)).heap.size = w.heap.size + 1 + 1 := by simp
  have HN := Lib.hid (num_calls neg A c xs e 1300 20 _ (reads_only hr ho (fun _ _ h => h)) hc (hT.only ho) (by decide) (by decide) (by decide))
  have HO := Lib.hid (And.intro ho (And.intro hR hsz))
  clear hr hT ho hR hsz
  go_enter Tryz.func4, Tryz.ntmps4
  go_wp2_with fail
  refine HN.out.mono ?_
  rintro en w' ⟨v, z', e', rfl, h1, h2, h3, h4, h5⟩
  obtain ⟨neg1, A1, ds1, c1, rfl, _⟩ := h1 (fun _ => False) w' (fun _ h => h.elim) (Only.refl _ _)
  obtain ⟨ho, hR, hsz⟩ := HO.out
  have hRM := (h2.kept _ (blk_lt hR) (fun h => h)).trans hR
  have r0 := blk_cell hRM 0
  have r1 := blk_cell hRM 1
  have r2 := blk_cell hRM 2
  have f0 := blk_frozen hRM 0
  have f1 := blk_frozen hRM 1
  have f2 := blk_frozen hRM 2
  have t9 : (((w'.setCell ⟨w.heap.size + 1, 0, none⟩ (.bool neg1)).setCell ⟨w.heap.size + 1, 1, none⟩ (.slice A1 ds1.length c1)).setCell ⟨w.heap.size + 1, 2, none⟩ (.int .i64 e')).heap[w.heap.size + 1]? = some (.cells #[.bool neg1, .slice A1 ds1.length c1, .int .i64 e'] 24 (0, 0)) := by simpa using blk_set (blk_set (blk_set hRM 0 (.bool neg1)) 1 (.slice A1 ds1.length c1)) 2 (.int .i64 e')
  have hoS : Only w' (((w'.setCell ⟨w.heap.size + 1, 0, none⟩ (.bool neg1)).setCell ⟨w.heap.size + 1, 1, none⟩ (.slice A1 ds1.length c1)).setCell ⟨w.heap.size + 1, 2, none⟩ (.int .i64 e')) (fun k => k = w.heap.size + 1) := (((Only.refl w' (fun k => k = w.heap.size + 1)).set (.inr rfl) _).set (.inr rfl) _).set (.inr rfl) _
  have HF := Lib.hid (And.intro (h1 _ _ (by rintro k rfl; omega) hoS) (And.intro ((ho.trans h2).step hoS (by rintro i hi rfl; omega)) (And.intro h3 (And.intro h4 h5))))
  clear h1 h2 h3 h4 h5 HN HO ho hR hsz hRM hoS
  go_wp2_with fail
  refine bodyPost_ret (results_cell_row rfl _ _ (w.heap.size + 1) 24 #[.bool neg1, .slice A1 ds1.length c1, .int .i64 e'] (0, 0) _ rfl t9 Tryz.underlying24 rfl (by kernel_rfl)) rfl ?_
  obtain ⟨h1, h2, h3, h4, h5⟩ := HF.out
  exact ⟨_, z', e', rfl, h1, h2, h3, h4, by omega⟩
end Go.Proofs.YtbmmaabjeejjkaaGreatFmt
namespace Go.Proofs.YtbmmaabjeejjkaaGreatFmt
open Go.RowKit Go.Proofs.YtbmmaabjeejjkaaGreatFmtW.PrintWords
set_option maxRecDepth 100000 in
set_option maxHeartbeats 8000000 in
theorem mirrors_walk (na nb : Bool) (A B : Option Addr) (c d : Nat) (xs ys : List Int) (e f wv wy : Int) (w : World) (hr : ReadsInt w .i64 A xs.length xs) (hc : xs.length ≤ c) (hr' : ReadsInt w .i64 B ys.length ys) (hc' : ys.length ≤ d) (hT : Tab w) :
    Calls Tryz.prog 3 #[.agg #[.bool na, .slice A xs.length c, .int .i64 e], .agg #[.bool nb, .slice B ys.length d, .int .i64 f], .int .i64 wv, .int .i64 wy] w fun en w' => en = .returned (.bool true) ∧ Only w w' (fun _ => False) := by
  obtain ⟨q, hq, hq2⟩ : ∃ q, bits .and .i64 wv 1 = q ∧ (q = 0 ∨ q = 1) := ⟨_, rfl, by rw [Flt.i64_and_mask wv 1 (by omega) 1 (by decide)]; omega⟩
  obtain ⟨p, hp, hp2⟩ : ∃ p, bits .and .i64 wy 65535 = p ∧ 0 ≤ p ∧ p < 65536 := ⟨_, rfl, by rw [Flt.i64_and_mask wy 16 (by omega) 65535 (by decide)]; omega⟩
  have ho1 := ((Only.refl w (fun _ => False)).alloc (.cells #[.bool na, .slice A xs.length c, .int .i64 e] 24)).alloc (.cells #[.bool nb, .slice B ys.length d, .int .i64 f] 24)
  have hX := heap_two' w (.cells #[.bool na, .slice A xs.length c, .int .i64 e] 24) (.cells #[.bool nb, .slice B ys.length d, .int .i64 f] 24)
  have hY := heap_two w (.cells #[.bool na, .slice A xs.length c, .int .i64 e] 24) (.cells #[.bool nb, .slice B ys.length d, .int .i64 f] 24)
  have HR := Lib.hid (And.intro hr (And.intro hc (And.intro hr' (And.intro hc' hT))))
  clear hr hc hr' hc' hT
  go_enter Tryz.func3, Tryz.ntmps3
  go_wp2_with fail
  generalize (w.alloc (.cells #[.bool na, .slice A xs.length c, .int .i64 e] 24)).alloc (.cells #[.bool nb, .slice B ys.length d, .int .i64 f] 24) = w1 at *
  refine (num_one na A c xs e w1 (reads_only HR.out.1 ho1 (fun _ _ h => h)) HR.out.2.1 (HR.out.2.2.2.2.only ho1)).mono ?_
  rintro en w2 ⟨va, z1, e1, rfl, hva, ho12, hb1, he1⟩
  obtain ⟨na1, A1, ds1, c1, rfl, _⟩ := id hva
  have hva := hva.only (w' := w2.alloc (.cells #[.bool na1, .slice A1 ds1.length c1, .int .i64 e1] 24)) ((Only.refl w2 _).alloc _)
  have hXa := heap_alloc_new w2 (.cells #[.bool na1, .slice A1 ds1.length c1, .int .i64 e1] 24)
  have ho3 := (ho1.trans ho12).alloc (.cells #[.bool na1, .slice A1 ds1.length c1, .int .i64 e1] 24)
  have hY3 := blk_alloc ((ho12.kept _ (blk_lt hY) (fun h => h)).trans hY) (.cells #[.bool na1, .slice A1 ds1.length c1, .int .i64 e1] 24)
  have y0 := blk_cell hY3 0
  have y1 := blk_cell hY3 1
  have y2 := blk_cell hY3 2
  clear hX hY ho12 ho1
  have hT3 : Tab (w2.alloc (.cells #[.bool na1, .slice A1 ds1.length c1, .int .i64 e1] 24)) := HR.out.2.2.2.2.only ho3
  have hr3 := reads_only HR.out.2.2.1 ho3 (fun _ _ h => h)
  obtain ⟨wd, hwd, hwd2⟩ : ∃ wd, 32 + 32 * q = wd ∧ (wd = 64 ∨ wd = 32) := ⟨_, rfl, by omega⟩
  obtain ⟨n, hn, hn2⟩ : ∃ n, p % 3 = n ∧ (n = 0 ∨ n = 1 ∨ n = 2) := ⟨_, rfl, by omega⟩
  go_wp2_with fail
  have n0 : 0 ≤ n := by omega
  have n3 : n ≤ 2 := by omega
  have HWN := Lib.hid (And.intro hwd2 hn2)
  clear hwd hn hwd2 hn2 hq hq2 hp hp2
  have ka : ∀ W, Only (w2.alloc (.cells #[.bool na1, .slice A1 ds1.length c1, .int .i64 e1] 24)) W (fun _ => False) → NumV W (.agg #[.bool na1, .slice A1 ds1.length c1, .int .i64 e1]) z1 e1 ∧ W.cell? ⟨w2.heap.size, 0, none⟩ = some (.bool na1) ∧ W.cell? ⟨w2.heap.size, 1, none⟩ = some (.slice A1 ds1.length c1) ∧ W.cell? ⟨w2.heap.size, 2, none⟩ = some (.int .i64 e1) := fun W h => by
    have hh := (h.kept _ (blk_lt hXa) (fun h => h)).trans hXa
    exact ⟨hva.only h, blk_cell hh 0, blk_cell hh 1, blk_cell hh 2⟩
  have HA := Lib.hid ka
  clear ka hva hXa hY3
  generalize hXn : w2.heap.size = Xa at *
  generalize w2.alloc (.cells #[.bool na1, .slice A1 ds1.length c1, .int .i64 e1] 24) = w3 at *
  refine (num_one nb B d ys f w3 hr3 HR.out.2.2.2.1 hT3).mono ?_
  rintro en w4 ⟨vb, z2, e2, rfl, hvb, ho34, hb2, he2⟩
  obtain ⟨nb1, B1, ds2, c2, rfl, _⟩ := id hvb
  have hvb := hvb.only (w' := w4.alloc (.cells #[.bool nb1, .slice B1 ds2.length c2, .int .i64 e2] 24)) ((Only.refl w4 _).alloc _)
  have hXb := heap_alloc_new w4 (.cells #[.bool nb1, .slice B1 ds2.length c2, .int .i64 e2] 24)
  have ho35 := ho34.alloc (.cells #[.bool nb1, .slice B1 ds2.length c2, .int .i64 e2] 24)
  have ho5 := ho3.trans ho35
  have kb : ∀ W, Only (w4.alloc (.cells #[.bool nb1, .slice B1 ds2.length c2, .int .i64 e2] 24)) W (fun _ => False) → NumV W (.agg #[.bool nb1, .slice B1 ds2.length c2, .int .i64 e2]) z2 e2 ∧ W.cell? ⟨w4.heap.size, 0, none⟩ = some (.bool nb1) ∧ W.cell? ⟨w4.heap.size, 1, none⟩ = some (.slice B1 ds2.length c2) ∧ W.cell? ⟨w4.heap.size, 2, none⟩ = some (.int .i64 e2) := fun W h => by
    have hh := (h.kept _ (blk_lt hXb) (fun h => h)).trans hXb
    exact ⟨hvb.only h, blk_cell hh 0, blk_cell hh 1, blk_cell hh 2⟩
  have HB := Lib.hid kb
  clear y0 y1 y2 hr3 hT3 kb hvb hXb ho34
  obtain ⟨hva, a0, a1, a2⟩ := HA.out _ ho35
  go_wp2_with fail
  generalize hXn2 : w4.heap.size = Xb at *
  generalize w4.alloc (.cells #[.bool nb1, .slice B1 ds2.length c2, .int .i64 e2] 24) = w5 at *
  refine (neg_num _ z1 e1 w5 hva (HR.out.2.2.2.2.only ho5)).mono ?_
  rintro en w6 ⟨vm, rfl, hvm, ho56⟩
  obtain ⟨nm1, M1, ds3, c3, rfl, _⟩ := id hvm
  have hvm := hvm.only (w' := w6.alloc (.cells #[.bool nm1, .slice M1 ds3.length c3, .int .i64 e1] 24)) ((Only.refl w6 _).alloc _)
  have hXm := heap_alloc_new w6 (.cells #[.bool nm1, .slice M1 ds3.length c3, .int .i64 e1] 24)
  have ho57 := ho56.alloc (.cells #[.bool nm1, .slice M1 ds3.length c3, .int .i64 e1] 24)
  have km : ∀ W, Only (w6.alloc (.cells #[.bool nm1, .slice M1 ds3.length c3, .int .i64 e1] 24)) W (fun _ => False) → NumV W (.agg #[.bool nm1, .slice M1 ds3.length c3, .int .i64 e1]) (-z1) e1 ∧ W.cell? ⟨w6.heap.size, 0, none⟩ = some (.bool nm1) ∧ W.cell? ⟨w6.heap.size, 1, none⟩ = some (.slice M1 ds3.length c3) ∧ W.cell? ⟨w6.heap.size, 2, none⟩ = some (.int .i64 e1) := fun W h => by
    have hh := (h.kept _ (blk_lt hXm) (fun h => h)).trans hXm
    exact ⟨hvm.only h, blk_cell hh 0, blk_cell hh 1, blk_cell hh 2⟩
  have HM := Lib.hid km
  clear a0 a1 a2 km hvm hXm ho56 hva
  obtain ⟨hva, a0, a1, a2⟩ := HA.out _ (ho35.trans ho57)
  go_wp2_with fail
  generalize hXn3 : w6.heap.size = Xm at *
  generalize w6.alloc (.cells #[.bool nm1, .slice M1 ds3.length c3, .int .i64 e1] 24) = w7 at *
  refine (round_num _ z1 e1 wd n w7 HWN.out.1 HWN.out.2 hva).mono ?_
  rintro en w8 ⟨⟨cp, op, hsp, rfl⟩, ho78⟩
  obtain ⟨hvm, m0, m1, m2⟩ := HM.out _ ho78
  clear a0 a1 a2 hva
  go_wp2_with fail
  obtain ⟨n', hn'⟩ : ∃ n', -n % 3 = n' := ⟨_, rfl⟩
  rw [hn']
  have hnn : (n = 0 ∧ n' = 0) ∨ (n = 1 ∧ n' = 2) ∨ (n = 2 ∧ n' = 1) := by have := HWN.out.2; omega
  clear hn'
  refine (round_num _ (-z1) e1 wd n' w8 HWN.out.1 (by omega) hvm).mono ?_
  rintro en w9 ⟨⟨cq, oq, hsq, rfl⟩, ho89⟩
  have ho59 := (ho57.trans ho78).trans ho89
  obtain ⟨hoo, hsame⟩ := mirrored HWN.out.1 hnn hsp hsq
  subst hoo
  clear m0 m1 m2 hvm hnn
  obtain ⟨hvb, b0, b1, b2⟩ := HB.out _ ho59
  go_wp2_with fail
  refine (round_num _ z2 e2 wd n w9 HWN.out.1 HWN.out.2 hvb).mono ?_
  rintro en w10 ⟨⟨cr, or1, hsr, rfl⟩, ho910⟩
  clear b0 b1 b2 hvb
  obtain ⟨hvb, b0, b1, b2⟩ := HB.out _ (ho59.trans ho910)
  obtain ⟨hva, a0, a1, a2⟩ := HA.out _ (ho35.trans (ho59.trans ho910))
  go_wp2_with fail
  refine (cmp_num _ _ z1 e1 z2 e2 w10 hva hvb).mono ?_
  rintro en w11 ⟨rfl, ho1011⟩
  have ho11 := (ho5.trans (ho59.trans ho910)).trans ho1011
  have hTT := HR.out.2.2.2.2.only ho11
  obtain ⟨S, hS⟩ : ∃ S, S = sumZ z1 e1 (-z2) e2 := ⟨_, rfl⟩
  rw [← hS]
  obtain ⟨ip, iq, ir⟩ : Flt.I64 cp ∧ Flt.I64 cq ∧ Flt.I64 cr := by
    obtain ⟨r1, l1, _, rfl⟩ := hsp
    obtain ⟨r2, l2, _, rfl⟩ := hsq
    obtain ⟨r3, l3, _, rfl⟩ := hsr
    exact ⟨pat_I _ _ _ HWN.out.1 l1, pat_I _ _ _ HWN.out.1 l2, pat_I _ _ _ HWN.out.1 l3⟩
  have ineg : Flt.I64 (Flt.nneg cp wd) := by
    obtain ⟨r1, l1, _, rfl⟩ := hsp
    exact (nneg_pat _ _ _ HWN.out.1 l1).2.2
  have HNG := Lib.hid (neg_any cp wd ip)
  have hsm := same_any (Flt.nneg cp wd) cq wd ineg iq
  rw [hsame] at hsm
  have HSM := Lib.hid hsm
  have HLP : Hid (S ≤ 0 → Tells 11 #[.int .i64 cr, .int .i64 cp, .int .i64 wd] (.bool false)) := Lib.hid (fun h => by
    have := less_any cr cp wd ir ip
    rw [ordered_ HWN.out.1 hsp hsr (by rw [← hS]; exact h)] at this
    exact this)
  have HLQ : Hid (0 ≤ S → Tells 11 #[.int .i64 cp, .int .i64 cr, .int .i64 wd] (.bool false)) := Lib.hid (fun h => by
    have := less_any cp cr wd ip ir
    rw [ordered_ HWN.out.1 hsr hsp (sum_flip (by rw [← hS]; exact h))] at this
    exact this)
  clear a0 a1 a2 b0 b1 b2 hva hvb hsp hsq hsr hsame hsm ineg ip iq ir hS ho59 ho57 ho35 ho5 ho3 ho78 ho89 ho910 ho1011 HA HB HM HR hb1 he1 hb2 he2 HWN n0 n3
  generalize Flt.nneg cp wd = gp at *
  have HO := Lib.hid ho11
  clear ho11
  go_wp2_with fail
  refine (alive_calls _ hTT).mono ?_
  rintro en w12 ⟨rfl, ho⟩
  replace HO := Lib.hid (HO.out.trans ho)
  clear ho hTT
  go_wp2_with fail
  refine (HNG.out _).mono ?_
  rintro en w13 ⟨rfl, hb⟩
  replace HO := Lib.hid (HO.out.trans (Only.of_below hb))
  clear hb HNG
  go_wp2_with fail
  refine (HSM.out _).mono ?_
  rintro en w14 ⟨rfl, hb⟩
  replace HO := Lib.hid (HO.out.trans (Only.of_below hb))
  clear hb HSM
  rcases Int.lt_trichotomy S 0 with h | h | h
  · rw [show S.sign = -1 from Int.sign_eq_neg_one_of_neg h]
    have HL := HLP.out (by omega)
    go_wp2_with fail
    refine (HL _).mono ?_
    rintro en w15 ⟨rfl, hb⟩
    replace HO := Lib.hid (HO.out.trans (Only.of_below hb))
    clear hb HL
    go_wp2_with fail
    go_ret
    exact ⟨rfl, HO.out⟩
  · rw [show S.sign = 0 by rw [h]; rfl]
    have HL := Lib.hid (HLP.out (by omega))
    have HL2 := Lib.hid (HLQ.out (by omega))
    go_wp2_with fail
    refine (HL.out _).mono ?_
    rintro en w15 ⟨rfl, hb⟩
    replace HO := Lib.hid (HO.out.trans (Only.of_below hb))
    clear hb HL
    go_wp2_with fail
    refine (HL2.out _).mono ?_
    rintro en w16 ⟨rfl, hb⟩
    replace HO := Lib.hid (HO.out.trans (Only.of_below hb))
    clear hb HL2
    go_wp2_with fail
    go_ret
    exact ⟨rfl, HO.out⟩
  · rw [show S.sign = 1 from Int.sign_eq_one_of_pos h]
    have HL2 := Lib.hid (HLQ.out (by omega))
    go_wp2_with fail
    refine (HL2.out _).mono ?_
    rintro en w16 ⟨rfl, hb⟩
    replace HO := Lib.hid (HO.out.trans (Only.of_below hb))
    clear hb HL2
    go_wp2_with fail
    go_ret
    exact ⟨rfl, HO.out⟩
end Go.Proofs.YtbmmaabjeejjkaaGreatFmt
