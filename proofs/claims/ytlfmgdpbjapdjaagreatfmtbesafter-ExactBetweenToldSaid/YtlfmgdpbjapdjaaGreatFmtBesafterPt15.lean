/- Part 15 of the walk: NatY IntK ExM ExN ExQ RndM. -/
import Derived.Test.YtlfmgdpbjapdjaaGreatFmtBesafterPt14
import Derived.Test.YtlfmgdpbjapdjaaGreatFmtBesafterPt04
import Derived.Laws.EntriesVeiled
import Derived.Test.YtlfmgdpbjapdjaaGreatFmtBesafterPt13
import Derived.Test.YtlfmgdpbjapdjaaGreatFmtBesafterPt10
import Derived.Deep.DeepCutAuto
namespace Go.Proofs.YtlfmgdpbjapdjaaGreatFmtBesafter
open Go.RowKit Go.Proofs.YtlfmgdpbjapdjaaGreatFmtBesafterW.PrintWords
set_option maxRecDepth 100000 in
set_option maxHeartbeats 4000000 in
theorem sub_gt (bx bv m n : Nat) (xs vs : List Int) (w : World) (hx : Blk w bx xs) (hv : Blk w bv vs) (hn : 0 < n) (hmn : n < m) (hnx : m ≤ xs.length) (hnv : n ≤ vs.length) (hm : m ≤ 16777217) (hlx : xs.length ≤ most) (hwx : Wd (fun i => xs.getD i 0) m) (hwv : Wd (fun i => vs.getD i 0) n) (hle : num (fun i => vs.getD i 0) n ≤ num (fun i => xs.getD i 0) m) :
    Calls Tryz.prog 85 #[.slice none 0 0, .slice (some ⟨bx, 0, none⟩) m xs.length, .slice (some ⟨bv, 0, none⟩) n vs.length] w (Got w none (num (fun i => xs.getD i 0) m - num (fun i => vs.getD i 0) n)) := by
  have hmm : most = 274877906944 := rfl
  have hlt := blk_lt hx
  have h0 : ¬ (m : Int) < n := by omega
  have h1 : ((m : Int) == 0) = false := by rw [beq_eq_false_iff_ne]; omega
  have h2 : ((n : Int) == 0) = false := by rw [beq_eq_false_iff_ne]; omega
  have q0 : (0 : Int) ≤ n := by omega
  have q1 : (n : Int) ≤ xs.length := by omega
  have q2 : (n : Int) ≤ vs.length := by omega
  have hmk := Lib.hid (make_new none 0 0 m w (by omega) (by omega) (by omega))
  have hen := Tryz.subVV_enters
  go_enter Tryz.func85, Tryz.ntmps85
  go_wp2_with fail
  refine hmk.out.mono ?_
  rintro e w1 ⟨rfl, hw1⟩
  have ho : Only w w1 (fun _ => False) := by rw [hw1]; exact (Only.refl _ _).alloc _
  have hb : Blk w1 w.heap.size (zeros (m + 4)) := by rw [hw1]; exact Blk.new w _
  obtain ⟨b, hbe⟩ : ∃ b, w.heap.size = b := ⟨_, rfl⟩
  rw [hbe] at hb ⊢
  obtain ⟨zs, hzs, hzl⟩ : ∃ zs, zeros (m + 4) = zs ∧ zs.length = m + 4 := ⟨_, rfl, by simp [zeros]⟩
  rw [hzs] at hb
  have hbx : b ≠ bx := by omega
  have q3 : (n : Int) ≤ m + 4 := by omega
  have hx1 : Blk w1 bx xs := ho.blk hx (fun h => h)
  have hv1 : Blk w1 bv vs := ho.blk hv (fun h => h)
  have HC := Lib.hid (subVV_any b (m + 4) bx xs.length bv vs.length n zs xs vs w1.drew hb hx1 hv1 (by omega) (by omega) hnv (by omega) (fun i hi => hwx i (by omega)) hwv)
  have HB := Lib.hid (And.intro hx1 (And.intro ho (And.intro hbx (And.intro hwx (And.intro hle hzl)))))
  clear hmk hx hv hb hv1 hx1 ho hw1 hzs hle hwx hwv
  go_upto_region 10 with (fail)
  go_still_tail 9, (by kernel_rfl)
  change wpList _ _ _ _ _ w1.drew
  go_wp2_with fail
  refine HC.out.mono ?_
  rintro e w2 ⟨d, rfl, hd0, hd1, ho2, ys, hy, hyl, hout, hwd, hnum⟩
  obtain ⟨hx1, ho, _, hwx, hle, hzl⟩ := HB.out
  have ho12 : Only w w2 (fun _ => False) := (ho.drew.step ho2 (by rintro i hi rfl; omega))
  have hx2 : Blk w2 bx xs := ho2.blk (show Blk w1.drew bx xs from hx1) (fun h => hbx h.symm)
  have HN := Lib.hid (And.intro hnum (And.intro hwd (And.intro ho12 (And.intro hd0 hd1))))
  have HV := Lib.hid (subVW_any b n (m + 4 - n) bx n (xs.length - n) (m - n) ys xs d w2.drew (by omega) hy hx2 hbx (by omega) (by omega) (by omega) (by omega) (by omega) (by omega) (fun i hi => hwx (n + i) (by omega)) hd0 hd1)
  clear hnum hwd ho12 hd0 hd1 HC ho hx1 hle
  have hltI : (m : Int) > n := by omega
  have r1 : (n : Int) ≤ m := by omega
  have r2 : (m : Int) ≤ m + 4 := by omega
  have r3 : ¬ m + 4 = n := by omega
  have r4 : ¬ xs.length = n := by omega
  go_upto_region 12 with (fail)
  go_still_tail 7, (by kernel_rfl)
  change wpList _ _ _ _ _ w2.drew
  go_wp2_with fail
  refine HV.out.mono ?_
  rintro e w3 ⟨c, rfl, hc0, hc1, ho3, ys3, hy3, hyl3, hout3, hwd3, hnum3⟩
  obtain ⟨hnum, hwd, ho12, _, _⟩ := HN.out
  obtain ⟨_, _, _, _, hle, _⟩ := HB.out
  have hlo : ∀ i, i < n → ys3.getD i 0 = ys.getD i 0 := fun i hi => hout3 i (by omega)
  have hW : Wd (fun i => ys3.getD i 0) m := fun i hi => by
    by_cases h : i < n
    · show 0 ≤ ys3.getD i 0 ∧ ys3.getD i 0 < _
      rw [hlo i h]; exact hwd i h
    · have := hwd3 (i - n) (by omega)
      simp only [show n + (i - n) = i by omega] at this
      exact this
  have htot : num (fun i => ys3.getD i 0) m + -1 * c * 2 ^ (64 * m) = num (fun i => xs.getD i 0) m - num (fun i => vs.getD i 0) n := by
    have e1 : m = n + (m - n) := by omega
    have a1 := num_add (fun i => ys3.getD i 0) n (m - n)
    have a2 := num_add (fun i => xs.getD i 0) n (m - n)
    rw [← e1] at a1 a2
    rw [a1, a2, num_congr n hlo]
    have e2 : (2 : Int) ^ (64 * m) = 2 ^ (64 * (m - n)) * 2 ^ (64 * n) := by rw [← Int.pow_add]; congr 1; omega
    rw [e2, ← Int.mul_assoc]
    generalize (2 : Int) ^ (64 * (m - n)) = P at *
    generalize (2 : Int) ^ (64 * n) = Q at *
    have e3 := congrArg (· * Q) hnum3
    simp only [Int.add_mul] at e3
    have e4 : -1 * d * Q = - (d * Q) := by rw [Int.neg_one_mul, Int.neg_mul]
    omega
  have hc : c = 0 := by
    have r := (num_range m hW).2
    have hp : (0 : Int) < 2 ^ (64 * m) := Int.pow_pos (by omega)
    rcases (show c = 0 ∨ c = 1 by omega) with h | h
    · exact h
    · rw [h] at htot; omega
  subst hc
  have hE := norm_end (o := none) (w := w) (n := m) (x := num (fun i => xs.getD i 0) m - num (fun i => vs.getD i 0) n) hy3 (by omega) (by omega) hW (by rw [← htot]; omega) ((ho12.mono (fun _ _ h => h.elim)).drew.step ho3 (by rintro i hi rfl; omega)) (.inr (by omega))
  rw [hyl3, hyl, hzl] at hE
  have HE := Lib.hid hE
  clear hE hnum3 hwd3 hout3 hlo hnum hwd ho12 ho3 htot hW hle
  go_wp2_with fail
  refine HE.out.mono ?_
  rintro e w4 hG
  obtain ⟨v, o', rfl, hv⟩ := id hG
  go_wp2_with fail
  go_ret
  exact hG
set_option maxRecDepth 100000 in
set_option maxHeartbeats 4000000 in
theorem add_left (z : Value) (o : Option Nat) (bx m : Nat) (B : Option Addr) (d : Nat) (xs : List Int) (w : World) (hz : Room w z o) (hx : Blk w bx xs) (hm : 0 < m) (hmx : m ≤ xs.length) (hm2 : m + 4 ≤ most) (hr : Nrm xs m) :
    Calls Tryz.prog 87 #[z, .slice (some ⟨bx, 0, none⟩) m xs.length, .slice B 0 d] w (Got w o (num (fun i => xs.getD i 0) m)) := by
  have h0 : ¬ (m : Int) < 0 := by omega
  have h1 : ((m : Int) == 0) = false := by rw [beq_eq_false_iff_ne]; omega
  have HS := Lib.hid (set_got z o bx m xs.length xs w hz hx hm hmx hm2 hr)
  clear hz hx hr
  go_enter Tryz.func87, Tryz.ntmps87
  go_wp2_with fail
  refine HS.out.mono ?_
  rintro e w4 hG
  obtain ⟨v, o', rfl, hv⟩ := id hG
  go_wp2_with fail
  go_ret
  exact hG
set_option maxRecDepth 100000 in
set_option maxHeartbeats 4000000 in
theorem sub_left (z : Value) (o : Option Nat) (bx m : Nat) (B : Option Addr) (d : Nat) (xs : List Int) (w : World) (hz : Room w z o) (hx : Blk w bx xs) (hm : 0 < m) (hmx : m ≤ xs.length) (hm2 : m + 4 ≤ most) (hr : Nrm xs m) :
    Calls Tryz.prog 85 #[z, .slice (some ⟨bx, 0, none⟩) m xs.length, .slice B 0 d] w (Got w o (num (fun i => xs.getD i 0) m)) := by
  have h0 : ¬ (m : Int) < 0 := by omega
  have h1 : ((m : Int) == 0) = false := by rw [beq_eq_false_iff_ne]; omega
  have HS := Lib.hid (set_got z o bx m xs.length xs w hz hx hm hmx hm2 hr)
  clear hz hx hr
  go_enter Tryz.func85, Tryz.ntmps85
  go_wp2_with fail
  refine HS.out.mono ?_
  rintro e w4 hG
  obtain ⟨v, o', rfl, hv⟩ := id hG
  go_wp2_with fail
  go_ret
  exact hG
set_option maxRecDepth 100000 in
set_option maxHeartbeats 4000000 in
theorem add_none (A B : Option Addr) (c d : Nat) (w : World) :
    Calls Tryz.prog 87 #[.slice none 0 0, .slice A 0 c, .slice B 0 d] w (Got w none 0) := by
  have ho := Only.refl w (fun k => (none : Option Nat) = some k)
  go_enter Tryz.func87, Tryz.ntmps87
  go_wp2_with fail
  go_ret
  exact ⟨_, none, rfl, .nil, ho, .inl rfl⟩
set_option maxRecDepth 100000 in
set_option maxHeartbeats 4000000 in
theorem sub_none (A B : Option Addr) (c d : Nat) (w : World) :
    Calls Tryz.prog 85 #[.slice none 0 0, .slice A 0 c, .slice B 0 d] w (Got w none 0) := by
  have ho := Only.refl w (fun k => (none : Option Nat) = some k)
  go_enter Tryz.func85, Tryz.ntmps85
  go_wp2_with fail
  go_ret
  exact ⟨_, none, rfl, .nil, ho, .inl rfl⟩
set_option maxRecDepth 100000 in
set_option maxHeartbeats 4000000 in
theorem add_swap (z x y : Value) (A B : Option Addr) (m n c d : Nat) (r : Int) (w : World) (hx : x = .slice A m c) (hy : y = .slice B n d) (hlt : m < n) (h : Calls Tryz.prog 87 #[z, y, x] w (Got w none r)) :
    Calls Tryz.prog 87 #[z, x, y] w (Got w none r) := by
  have h0 : (m : Int) < n := by omega
  have HS := Lib.hid h
  clear h
  subst hx hy
  go_enter Tryz.func87, Tryz.ntmps87
  go_wp2_with fail
  refine HS.out.mono ?_
  rintro e w4 hG
  obtain ⟨v, o', rfl, hv⟩ := id hG
  go_wp2_with fail
  go_ret
  exact hG
theorem add_nat (vx : Value) (ox : Option Nat) (x : Int) (vy : Value) (oy : Option Nat) (y : Int) (w : World) (hx : IsNat w vx ox x) (hy : IsNat w vy oy y) (hfx : Fits x) (hfy : Fits y) :
    Calls Tryz.prog 87 #[.slice none 0 0, vx, vy] w (Got w none (x + y)) := by
  have hmm : most = 274877906944 := rfl
  rcases hx.cases_ with ⟨rfl, A, c, rfl⟩ | ⟨hp, b, n, ys, rfl, rfl, hb, hn, hny, hym, hr, rfl⟩
  · rcases hy.cases_ with ⟨rfl, B, d, rfl⟩ | ⟨hp', b', n', ys', rfl, rfl, hb', hn', hny', hym', hr', rfl⟩
    · exact add_none A B c d w
    · have := hr'.short hfy
      rw [Int.zero_add]
      exact add_swap _ _ _ _ _ _ _ _ _ _ w rfl rfl hn' (add_left _ _ b' n' A c ys' w .nil hb' hn' hny' (by omega) hr')
  · have hs := hr.short hfx
    rcases hy.cases_ with ⟨rfl, B, d, rfl⟩ | ⟨hp', b', n', ys', rfl, rfl, hb', hn', hny', hym', hr', rfl⟩
    · rw [Int.add_zero]
      exact add_left _ _ b n B d ys w .nil hb hn hny (by omega) hr
    · have hs' := hr'.short hfy
      by_cases h : n' ≤ n
      · exact add_ge _ none b b' n n' ys ys' w .nil hb hb' (by simp) hn' h hny hny' hs hym hr.1 hr'.1
      · rw [Int.add_comm]
        exact add_swap _ _ _ _ _ _ _ _ _ _ w rfl rfl (by omega) (add_ge _ none b' b n' n ys' ys w .nil hb' hb (by simp) hn (by omega) hny' hny hs' hym' hr'.1 hr.1)
theorem sub_nat (vx : Value) (ox : Option Nat) (x : Int) (vy : Value) (oy : Option Nat) (y : Int) (w : World) (hx : IsNat w vx ox x) (hy : IsNat w vy oy y) (hfx : Fits x) (hle : y ≤ x) :
    Calls Tryz.prog 85 #[.slice none 0 0, vx, vy] w (Got w none (x - y)) := by
  have hmm : most = 274877906944 := rfl
  rcases hx.cases_ with ⟨rfl, A, c, rfl⟩ | ⟨hp, b, n, ys, rfl, rfl, hb, hn, hny, hym, hr, rfl⟩
  · rcases hy.cases_ with ⟨rfl, B, d, rfl⟩ | ⟨hp', _⟩
    · exact sub_none A B c d w
    · omega
  · have hs := hr.short hfx
    rcases hy.cases_ with ⟨rfl, B, d, rfl⟩ | ⟨hp', b', n', ys', rfl, rfl, hb', hn', hny', hym', hr', rfl⟩
    · rw [Int.sub_zero]
      exact sub_left _ _ b n B d ys w .nil hb hn hny (by omega) hr
    · rcases Nat.lt_trichotomy n' n with h | h | h
      · exact sub_gt b b' n n' ys ys' w hb hb' hn' h hny hny' hs hym hr.1 hr'.1 hle
      · subst h
        exact sub_same _ none b b' n' ys ys' w .nil hb hb' hn hny hny' hs hr hr' hle
      · have := nrm_lt h hr hr'
        omega
set_option maxRecDepth 100000 in
set_option maxHeartbeats 4000000 in
theorem cmp_short (A B : Option Addr) (m n c d : Nat) (w : World) (h : m < n) :
    Calls Tryz.prog 93 #[.slice A m c, .slice B n d] w fun e w' => e = .returned (.int .i64 (-1)) ∧ w = w' := by
  have h1 : ((m : Int) != n) = true := by rw [bne_iff_ne]; omega
  have h2 : (m : Int) < n := by omega
  go_enter Tryz.func93, Tryz.ntmps93
  go_wp2_with fail
  go_ret
  exact ⟨rfl, rfl⟩
set_option maxRecDepth 100000 in
set_option maxHeartbeats 4000000 in
theorem cmp_long (A B : Option Addr) (m n c d : Nat) (w : World) (h : n < m) :
    Calls Tryz.prog 93 #[.slice A m c, .slice B n d] w fun e w' => e = .returned (.int .i64 1) ∧ w = w' := by
  have h1 : ((m : Int) != n) = true := by rw [bne_iff_ne]; omega
  have h2 : ¬ (m : Int) < n := by omega
  have h3 : (n : Int) < m := by omega
  go_enter Tryz.func93, Tryz.ntmps93
  go_wp2_with fail
  go_ret
  exact ⟨rfl, rfl⟩
set_option maxRecDepth 100000 in
set_option maxHeartbeats 4000000 in
theorem cmp_none (A B : Option Addr) (c d : Nat) (w : World) :
    Calls Tryz.prog 93 #[.slice A 0 c, .slice B 0 d] w fun e w' => e = .returned (.int .i64 0) ∧ w = w' := by
  go_enter Tryz.func93, Tryz.ntmps93
  go_wp2_with fail
  go_ret
  exact ⟨rfl, rfl⟩
theorem cmp_nat (vx : Value) (ox : Option Nat) (x : Int) (vy : Value) (oy : Option Nat) (y : Int) (w : World) (hx : IsNat w vx ox x) (hy : IsNat w vy oy y) :
    Calls Tryz.prog 93 #[vx, vy] w fun e w' => e = .returned (.int .i64 (ord x y)) ∧ ∃ d, w' = w.drewN d := by
  have hmm : most = 274877906944 := rfl
  have same : ∀ (r : Int) (e : Ending) (w' : World), ord x y = r → (e = .returned (.int .i64 r) ∧ w = w') → e = .returned (.int .i64 (ord x y)) ∧ ∃ d, w' = w.drewN d := by
    rintro r e w' h ⟨rfl, rfl⟩
    exact ⟨by rw [h], 0, rfl⟩
  rcases hx.cases_ with ⟨rfl, A, c, rfl⟩ | ⟨hp, b, n, ys, rfl, rfl, hb, hn, hny, hym, hr, rfl⟩
  · rcases hy.cases_ with ⟨rfl, B, d, rfl⟩ | ⟨hp', b', n', ys', rfl, rfl, hb', hn', hny', hym', hr', rfl⟩
    · exact (cmp_none A B c d w).mono fun e w' => same _ e w' (ord_eq rfl)
    · exact (cmp_short _ _ _ _ _ _ w hn').mono fun e w' => same _ e w' (ord_lt hp')
  · rcases hy.cases_ with ⟨rfl, B, d, rfl⟩ | ⟨hp', b', n', ys', rfl, rfl, hb', hn', hny', hym', hr', rfl⟩
    · exact (cmp_long _ _ _ _ _ _ w hn).mono fun e w' => same _ e w' (ord_gt hp)
    · rcases Nat.lt_trichotomy n' n with h | h | h
      · exact (cmp_long _ _ _ _ _ _ w h).mono fun e w' => same _ e w' (ord_gt (nrm_lt h hr' hr))
      · subst h
        exact cmp_words b ys.length b' ys'.length n' ys ys' w hb hb' hn (by omega) hny hny' hr.1 hr'.1
      · exact (cmp_short _ _ _ _ _ _ w h).mono fun e w' => same _ e w' (ord_lt (nrm_lt h hr hr'))
theorem got_slice {w1 : World} {v : Value} {o : Option Nat} {x : Int} (h : IsNat w1 v o x) : ∃ A n c, v = .slice A n c ∧ (0 < n ↔ 0 < x) := by
  rcases h.cases_ with ⟨rfl, A, c, rfl⟩ | ⟨hp, b, n, ys, rfl, rfl, hb, hn, _⟩
  · exact ⟨A, 0, c, rfl, by omega⟩
  · exact ⟨_, n, _, rfl, ⟨fun _ => hp, fun _ => hn⟩⟩
theorem unlike_ {x y : Int} (h : decide (y < 0) = !decide (x < 0)) : (x < 0 ∧ 0 ≤ y) ∨ (0 ≤ x ∧ y < 0) := by
  by_cases h1 : x < 0 <;> by_cases h2 : y < 0 <;> simp [h1, h2] at h <;> omega
theorem IsNat.none_ {w : World} {v : Value} {o : Option Nat} {x : Int} (h : IsNat w v o x) (ho : o = none) : v = .slice none 0 0 := by
  cases h with
  | nil => rfl
  | own => cases ho
theorem put_sum {w W w1 : World} {g : Nat} {o' : Option Nat} {z r x : Int} {v : Value} {n : Nat} {s b : Bool} (hoW : Only w W (fun _ => False)) (hz : IsInt W g none z) (hv : IsNat w1 v o' x) (ho : Only W.drew w1 (fun k => (none : Option Nat) = some k)) (hoo : o' = none ∨ ∃ b, o' = some b ∧ W.drew.heap.size ≤ b) (hn : 0 < n ↔ 0 < x) (hx : x = Int.natAbs r) (hs : 0 < x → decide (r < 0) = s) (hb : (0 < n ∧ b = s) ∨ (¬ 0 < n ∧ b = false)) :
    Put w ((w1.setCell ⟨g, 1, none⟩ v).setCell ⟨g, 0, none⟩ (.bool b)) g none r := by
  have h := Put.from_drew (r := r) hz (o' := o') (by rw [← hx]; exact hv) ho hoo
  have hd : decide (r < 0) = b := by
    rcases hb with ⟨h1, rfl⟩ | ⟨h1, rfl⟩
    · exact hs (hn.1 h1)
    · have : ¬ 0 < x := fun h => h1 (hn.2 h)
      rw [decide_eq_false_iff_not]; omega
  rw [hd] at h
  exact h.after hoW
set_option maxRecDepth 100000 in
set_option maxHeartbeats 4000000 in
theorem add_like (gz gx gy : Nat) (ox oy : Option Nat) (z x y : Int) (w : World) (hz : IsInt w gz none z) (hx : IsInt w gx ox x) (hy : IsInt w gy oy y) (hfx : Fits (Int.natAbs x)) (hfy : Fits (Int.natAbs y)) (hs : decide (x < 0) = decide (y < 0)) :
    Calls Tryz.prog 71 #[.pointer (some ⟨gz, 0, none⟩), .pointer (some ⟨gx, 0, none⟩), .pointer (some ⟨gy, 0, none⟩)] w fun e w' => e = .returned (.pointer (some ⟨gz, 0, none⟩)) ∧ Put w w' gz none (x + y) := by
  have hn1 : ∀ n, Only w (w.drewN n) (fun _ => False) := fun n => (Only.refl w (fun _ => False)).drewN n
  have T : ∀ n, Only w (w.drewN n) (fun _ => False) ∧ IsInt (w.drewN n) gz none z ∧ IsInt (w.drewN n) gx ox x ∧ IsInt (w.drewN n) gy oy y := fun n => ⟨hn1 n, hz.only (hn1 n) (fun h => h) (fun _ _ h => h), hx.only (hn1 n) (fun h => h) (fun _ _ h => h), hy.only (hn1 n) (fun h => h) (fun _ _ h => h)⟩
  obtain ⟨sx, hsx⟩ : ∃ sx, decide (x < 0) = sx := ⟨_, rfl⟩
  have d0 : w.cell? ⟨gx, 0, none⟩ = some (.bool sx) := by
    obtain ⟨vx, hgx, hnx⟩ := hx
    rw [← hsx]
    exact blk_cell hgx 0
  have e0 : w.cell? ⟨gy, 0, none⟩ = some (.bool sx) := by
    obtain ⟨vy, hgy, hny⟩ := hy
    have := blk_cell hgy 0
    rw [← hs, hsx] at this
    exact this
  have HT := Lib.hid T
  have HL := Lib.hid (And.intro hfx (And.intro hfy (And.intro hs hsx)))
  clear T hz hx hy hn1 hfx hfy hs
  skip
  clear hsx
  go_enter Tryz.func71, Tryz.ntmps71
  go_wp2_with fail
  go_quiet (fail)
  go_wp2_with fail
  clear d0 e0
  obtain ⟨hoW, hz, hx, hy⟩ := HT.out nq
  generalize w.drewN nq = W at *
  obtain ⟨vz, hgz, hnz⟩ := id hz
  obtain ⟨vx, hgx, hnx⟩ := id hx
  obtain ⟨vy, hgy, hny⟩ := id hy
  have hvz := hnz.none_ rfl
  subst hvz
  have c1 : W.cell? ⟨gz, 1, none⟩ = some (.slice none 0 0) := blk_cell hgz 1
  have d1 : W.cell? ⟨gx, 1, none⟩ = some vx := blk_cell hgx 1
  have e1 : W.cell? ⟨gy, 1, none⟩ = some vy := blk_cell hgy 1
  have HSU := Lib.hid (add_nat vx ox (Int.natAbs x) vy oy (Int.natAbs y) W.drew hnx.drew hny.drew HL.out.1 HL.out.2.1)
  have K : ∀ w1, Only W.drew w1 (fun k => (none : Option Nat) = some k) → w1.cell? ⟨gz, 1, none⟩ = some (.slice none 0 0) ∧ w1.frozen? ⟨gz, 1, none⟩ = false ∧ w1.frozen? ⟨gz, 0, none⟩ = false ∧ w1.cell? ⟨gz, 0, none⟩ = some (.bool (decide (z < 0))) := fun w1 ho => by
    have h := blk_held hnz hgz ho
    exact ⟨blk_cell h 1, blk_frozen h 1, blk_frozen h 0, blk_cell h 0⟩
  have HK := Lib.hid K
  clear K
  go_region_law (go_simp; go_at_call 87; refine HSU.out.mono ?_; rintro e w1 ⟨v, o', rfl, hv, ho, hoo⟩; obtain ⟨A, n, c, rfl, hnd⟩ := got_slice hv; obtain ⟨k1, k2, k3, k4⟩ := HK.out _ ho)
  all_goals
    have HF := Lib.hid (fun b hb => put_sum (r := x + y) (s := sx) (b := b) hoW hz hv ho hoo hnd (by have := HL.out.2.2.1; rw [decide_eq_decide] at this; omega) (fun h => by have h1 := HL.out.2.2.1; have h2 := HL.out.2.2.2; rw [decide_eq_decide] at h1; rw [← h2, decide_eq_decide]; omega) hb)
    clear hv ho hoo hoW hz hx hy hgz hgx hgy hnz hnx hny c1 d1 e1 HT HK HSU
    go_wp2_with fail
    all_goals
      go_ret
      exact ⟨rfl, HF.out _ (by first | exact .inl ⟨by omega, rfl⟩ | exact .inr ⟨by omega, rfl⟩)⟩
set_option maxRecDepth 100000 in
set_option maxHeartbeats 4000000 in
theorem add_great (gz gx gy : Nat) (ox oy : Option Nat) (z x y : Int) (w : World) (hz : IsInt w gz none z) (hx : IsInt w gx ox x) (hy : IsInt w gy oy y) (hfx : Fits (Int.natAbs x)) (hfy : Fits (Int.natAbs y)) (hs : decide (y < 0) = !decide (x < 0) ∧ Int.natAbs y ≤ Int.natAbs x) :
    Calls Tryz.prog 71 #[.pointer (some ⟨gz, 0, none⟩), .pointer (some ⟨gx, 0, none⟩), .pointer (some ⟨gy, 0, none⟩)] w fun e w' => e = .returned (.pointer (some ⟨gz, 0, none⟩)) ∧ Put w w' gz none (x + y) := by
  have hn1 : ∀ n, Only w (w.drewN n) (fun _ => False) := fun n => (Only.refl w (fun _ => False)).drewN n
  have T : ∀ n, Only w (w.drewN n) (fun _ => False) ∧ IsInt (w.drewN n) gz none z ∧ IsInt (w.drewN n) gx ox x ∧ IsInt (w.drewN n) gy oy y := fun n => ⟨hn1 n, hz.only (hn1 n) (fun h => h) (fun _ _ h => h), hx.only (hn1 n) (fun h => h) (fun _ _ h => h), hy.only (hn1 n) (fun h => h) (fun _ _ h => h)⟩
  obtain ⟨sx, hsx⟩ : ∃ sx, decide (x < 0) = sx := ⟨_, rfl⟩
  have d0 : w.cell? ⟨gx, 0, none⟩ = some (.bool sx) := by
    obtain ⟨vx, hgx, hnx⟩ := hx
    rw [← hsx]
    exact blk_cell hgx 0
  have e0 : w.cell? ⟨gy, 0, none⟩ = some (.bool !sx) := by
    obtain ⟨vy, hgy, hny⟩ := hy
    have := blk_cell hgy 0
    rw [hs.1, hsx] at this
    exact this
  have HT := Lib.hid T
  have HL := Lib.hid (And.intro hfx (And.intro hfy (And.intro hs hsx)))
  clear T hz hx hy hn1 hfx hfy hs
  skip
  clear hsx
  go_enter Tryz.func71, Tryz.ntmps71
  go_wp2_with fail
  go_quiet (fail)
  go_wp2_with fail
  clear d0 e0
  obtain ⟨hoW, hz, hx, hy⟩ := HT.out nq
  generalize w.drewN nq = W at *
  obtain ⟨vz, hgz, hnz⟩ := id hz
  obtain ⟨vx, hgx, hnx⟩ := id hx
  obtain ⟨vy, hgy, hny⟩ := id hy
  have hvz := hnz.none_ rfl
  subst hvz
  have c1 : W.cell? ⟨gz, 1, none⟩ = some (.slice none 0 0) := blk_cell hgz 1
  have d1 : W.cell? ⟨gx, 1, none⟩ = some vx := blk_cell hgx 1
  have e1 : W.cell? ⟨gy, 1, none⟩ = some vy := blk_cell hgy 1
  have HCM := Lib.hid (fun n => cmp_nat vx ox (Int.natAbs x) vy oy (Int.natAbs y) (W.drewN n) (hnx.only ((Only.refl W (fun _ => False)).drewN n) (fun _ _ h => h)) (hny.only ((Only.refl W (fun _ => False)).drewN n) (fun _ _ h => h)))
  obtain ⟨oc, hoc, hge⟩ : ∃ oc, ord (Int.natAbs x) (Int.natAbs y) = oc ∧ decide (oc ≥ 0) = true := ⟨_, rfl, by have := HL.out.2.2.1.2; unfold ord; split; omega; split <;> rfl⟩
  rw [hoc] at HCM
  clear hoc
  go_quiet ((go_at_call 93; exact Calls.quiet_of (HCM.out _)))
  go_wp2_with fail
  have hoW2 := hoW.drewN nq
  have hn2 := (Only.refl W (fun _ => False)).drewN nq
  have hz := hz.only hn2 (fun h => h) (fun _ _ h => h)
  have hx := hx.only hn2 (fun h => h) (fun _ _ h => h)
  have hy := hy.only hn2 (fun h => h) (fun _ _ h => h)
  clear c1 d1 e1 hn2 hnx hny hnz hgx hgy hgz hoW HCM
  have hoW := hoW2
  clear hoW2
  generalize W.drewN nq = W at *
  obtain ⟨vz, hgz, hnz⟩ := id hz
  obtain ⟨vx, hgx, hnx⟩ := id hx
  obtain ⟨vy, hgy, hny⟩ := id hy
  have hvz := hnz.none_ rfl
  subst hvz
  have c1 : W.cell? ⟨gz, 1, none⟩ = some (.slice none 0 0) := blk_cell hgz 1
  have d1 : W.cell? ⟨gx, 1, none⟩ = some vx := blk_cell hgx 1
  have e1 : W.cell? ⟨gy, 1, none⟩ = some vy := blk_cell hgy 1
  have HSU := Lib.hid (sub_nat vx ox (Int.natAbs x) vy oy (Int.natAbs y) W.drew hnx.drew hny.drew HL.out.1 (by have := HL.out.2.2.1.2; omega))
  have K : ∀ w1, Only W.drew w1 (fun k => (none : Option Nat) = some k) → w1.cell? ⟨gz, 1, none⟩ = some (.slice none 0 0) ∧ w1.frozen? ⟨gz, 1, none⟩ = false ∧ w1.frozen? ⟨gz, 0, none⟩ = false ∧ w1.cell? ⟨gz, 0, none⟩ = some (.bool (decide (z < 0))) := fun w1 ho => by
    have h := blk_held hnz hgz ho
    exact ⟨blk_cell h 1, blk_frozen h 1, blk_frozen h 0, blk_cell h 0⟩
  have HK := Lib.hid K
  clear K
  go_region_law (go_simp; go_at_call 85; refine HSU.out.mono ?_; rintro e w1 ⟨v, o', rfl, hv, ho, hoo⟩; obtain ⟨A, n, c, rfl, hnd⟩ := got_slice hv; obtain ⟨k1, k2, k3, k4⟩ := HK.out _ ho)
  all_goals
    have HF := Lib.hid (fun b hb => put_sum (r := x + y) (s := sx) (b := b) hoW hz hv ho hoo hnd (by have h1 := unlike_ HL.out.2.2.1.1; have h3 := HL.out.2.2.1.2; omega) (fun h => by have h1 := unlike_ HL.out.2.2.1.1; have h3 := HL.out.2.2.1.2; have h2 := HL.out.2.2.2; rw [← h2, decide_eq_decide]; omega) hb)
    clear hv ho hoo hoW hz hx hy hgz hgx hgy hnz hnx hny c1 d1 e1 HT HK HSU
    go_wp2_with fail
    all_goals
      go_ret
      exact ⟨rfl, HF.out _ (by first | exact .inl ⟨by omega, rfl⟩ | exact .inr ⟨by omega, rfl⟩)⟩
set_option maxRecDepth 100000 in
set_option maxHeartbeats 4000000 in
theorem add_less (gz gx gy : Nat) (ox oy : Option Nat) (z x y : Int) (w : World) (hz : IsInt w gz none z) (hx : IsInt w gx ox x) (hy : IsInt w gy oy y) (hfx : Fits (Int.natAbs x)) (hfy : Fits (Int.natAbs y)) (hs : decide (y < 0) = !decide (x < 0) ∧ Int.natAbs x < Int.natAbs y) :
    Calls Tryz.prog 71 #[.pointer (some ⟨gz, 0, none⟩), .pointer (some ⟨gx, 0, none⟩), .pointer (some ⟨gy, 0, none⟩)] w fun e w' => e = .returned (.pointer (some ⟨gz, 0, none⟩)) ∧ Put w w' gz none (x + y) := by
  have hn1 : ∀ n, Only w (w.drewN n) (fun _ => False) := fun n => (Only.refl w (fun _ => False)).drewN n
  have T : ∀ n, Only w (w.drewN n) (fun _ => False) ∧ IsInt (w.drewN n) gz none z ∧ IsInt (w.drewN n) gx ox x ∧ IsInt (w.drewN n) gy oy y := fun n => ⟨hn1 n, hz.only (hn1 n) (fun h => h) (fun _ _ h => h), hx.only (hn1 n) (fun h => h) (fun _ _ h => h), hy.only (hn1 n) (fun h => h) (fun _ _ h => h)⟩
  obtain ⟨sx, hsx⟩ : ∃ sx, decide (x < 0) = sx := ⟨_, rfl⟩
  have d0 : w.cell? ⟨gx, 0, none⟩ = some (.bool sx) := by
    obtain ⟨vx, hgx, hnx⟩ := hx
    rw [← hsx]
    exact blk_cell hgx 0
  have e0 : w.cell? ⟨gy, 0, none⟩ = some (.bool !sx) := by
    obtain ⟨vy, hgy, hny⟩ := hy
    have := blk_cell hgy 0
    rw [hs.1, hsx] at this
    exact this
  have HT := Lib.hid T
  have HL := Lib.hid (And.intro hfx (And.intro hfy (And.intro hs hsx)))
  clear T hz hx hy hn1 hfx hfy hs
  skip
  clear hsx
  go_enter Tryz.func71, Tryz.ntmps71
  go_wp2_with fail
  go_quiet (fail)
  go_wp2_with fail
  clear d0 e0
  obtain ⟨hoW, hz, hx, hy⟩ := HT.out nq
  generalize w.drewN nq = W at *
  obtain ⟨vz, hgz, hnz⟩ := id hz
  obtain ⟨vx, hgx, hnx⟩ := id hx
  obtain ⟨vy, hgy, hny⟩ := id hy
  have hvz := hnz.none_ rfl
  subst hvz
  have c1 : W.cell? ⟨gz, 1, none⟩ = some (.slice none 0 0) := blk_cell hgz 1
  have d1 : W.cell? ⟨gx, 1, none⟩ = some vx := blk_cell hgx 1
  have e1 : W.cell? ⟨gy, 1, none⟩ = some vy := blk_cell hgy 1
  have HCM := Lib.hid (fun n => cmp_nat vx ox (Int.natAbs x) vy oy (Int.natAbs y) (W.drewN n) (hnx.only ((Only.refl W (fun _ => False)).drewN n) (fun _ _ h => h)) (hny.only ((Only.refl W (fun _ => False)).drewN n) (fun _ _ h => h)))
  obtain ⟨oc, hoc, hge⟩ : ∃ oc, ord (Int.natAbs x) (Int.natAbs y) = oc ∧ decide (oc ≥ 0) = false := ⟨_, rfl, by have := HL.out.2.2.1.2; unfold ord; rw [if_pos (by omega)]; rfl⟩
  rw [hoc] at HCM
  clear hoc
  go_quiet ((go_at_call 93; exact Calls.quiet_of (HCM.out _)))
  go_wp2_with fail
  have hoW2 := hoW.drewN nq
  have hn2 := (Only.refl W (fun _ => False)).drewN nq
  have hz := hz.only hn2 (fun h => h) (fun _ _ h => h)
  have hx := hx.only hn2 (fun h => h) (fun _ _ h => h)
  have hy := hy.only hn2 (fun h => h) (fun _ _ h => h)
  clear c1 d1 e1 hn2 hnx hny hnz hgx hgy hgz hoW HCM
  have hoW := hoW2
  clear hoW2
  generalize W.drewN nq = W at *
  obtain ⟨vz, hgz, hnz⟩ := id hz
  obtain ⟨vx, hgx, hnx⟩ := id hx
  obtain ⟨vy, hgy, hny⟩ := id hy
  have hvz := hnz.none_ rfl
  subst hvz
  have c1 : W.cell? ⟨gz, 1, none⟩ = some (.slice none 0 0) := blk_cell hgz 1
  have d1 : W.cell? ⟨gx, 1, none⟩ = some vx := blk_cell hgx 1
  have e1 : W.cell? ⟨gy, 1, none⟩ = some vy := blk_cell hgy 1
  have HSU := Lib.hid (sub_nat vy oy (Int.natAbs y) vx ox (Int.natAbs x) W.drew hny.drew hnx.drew HL.out.2.1 (by have := HL.out.2.2.1.2; omega))
  have K : ∀ w1, Only W.drew w1 (fun k => (none : Option Nat) = some k) → w1.cell? ⟨gz, 1, none⟩ = some (.slice none 0 0) ∧ w1.frozen? ⟨gz, 1, none⟩ = false ∧ w1.frozen? ⟨gz, 0, none⟩ = false ∧ w1.cell? ⟨gz, 0, none⟩ = some (.bool (decide (z < 0))) := fun w1 ho => by
    have h := blk_held hnz hgz ho
    exact ⟨blk_cell h 1, blk_frozen h 1, blk_frozen h 0, blk_cell h 0⟩
  have HK := Lib.hid K
  clear K
  go_region_law (go_simp; go_at_call 85; refine HSU.out.mono ?_; rintro e w1 ⟨v, o', rfl, hv, ho, hoo⟩; obtain ⟨A, n, c, rfl, hnd⟩ := got_slice hv; obtain ⟨k1, k2, k3, k4⟩ := HK.out _ ho)
  all_goals
    have HF := Lib.hid (fun b hb => put_sum (r := x + y) (s := !sx) (b := b) hoW hz hv ho hoo hnd (by have h1 := unlike_ HL.out.2.2.1.1; have h3 := HL.out.2.2.1.2; omega) (fun h => by have h1 := HL.out.2.2.1; have h2 := HL.out.2.2.2; have h4 := unlike_ h1.1; rw [← h2, ← h1.1, decide_eq_decide]; omega) hb)
    clear hv ho hoo hoW hz hx hy hgz hgx hgy hnz hnx hny c1 d1 e1 HT HK HSU
    go_wp2_with fail
    all_goals
      go_ret
      exact ⟨rfl, HF.out _ (by first | exact .inl ⟨by omega, rfl⟩ | exact .inr ⟨by omega, rfl⟩)⟩
theorem add_int (gz gx gy : Nat) (ox oy : Option Nat) (z x y : Int) (w : World) (hz : IsInt w gz none z) (hx : IsInt w gx ox x) (hy : IsInt w gy oy y) (hfx : Fits (Int.natAbs x)) (hfy : Fits (Int.natAbs y)) :
    Calls Tryz.prog 71 #[.pointer (some ⟨gz, 0, none⟩), .pointer (some ⟨gx, 0, none⟩), .pointer (some ⟨gy, 0, none⟩)] w fun e w' => e = .returned (.pointer (some ⟨gz, 0, none⟩)) ∧ Put w w' gz none (x + y) := by
  by_cases hs : decide (x < 0) = decide (y < 0)
  · exact add_like gz gx gy ox oy z x y w hz hx hy hfx hfy hs
  · have h2 : decide (y < 0) = !decide (x < 0) := by cases h : decide (x < 0) <;> cases h' : decide (y < 0) <;> simp_all
    by_cases hl : Int.natAbs y ≤ Int.natAbs x
    · exact add_great gz gx gy ox oy z x y w hz hx hy hfx hfy ⟨h2, hl⟩
    · exact add_less gz gx gy ox oy z x y w hz hx hy hfx hfy ⟨h2, by omega⟩
theorem plus_31 (b g g' : Nat) (o o' : Option Nat) (W : World) (hb : W.heap[b]? = some (.cells #[.pointer (some ⟨g, 0, none⟩), .int .i64 0, .pointer (some ⟨g', 0, none⟩), .int .i64 0] 44 (0, 0))) (hi : IsInt W g o (-3)) (hi' : IsInt W g' o' 1) :
    Calls Tryz.prog 37 #[.slice (some ⟨b, 0, none⟩) 2 2] W fun en w' => ∃ k, en = .returned (.agg #[.pointer (some ⟨k, 0, none⟩), .int .i64 0]) ∧ New W.heap.size w' k (-2) ∧ Only W w' (fun _ => False) := by
  refine plus2_up b g g' o o' (-3) 1 0 0 1 (-2) W hb hi hi' (by decide) (by decide) (by decide) (by decide) (by decide) ?_ ?_
  · intro V gz ho hz _
    exact lsh0_int gz g' o' 1 V hz (hi'.only ho (fun h => h) (fun _ _ h => h)) (Fits.of (k := 2) (by decide) (by decide)) (by decide)
  · intro V gz gy oy ho hz hy _
    exact add_int gz g gy o oy 0 (-3) 1 V hz (hi.only ho (fun h => h) (fun _ _ h => h)) hy (Fits.of (k := 2) (by decide) (by decide)) (Fits.of (k := 2) (by decide) (by decide))
theorem add_31 (A A' : Option Addr) (c c' : Nat) (w : World) (hr : ReadsInt w .i64 A 1 [3]) (hc : 1 ≤ c) (hr' : ReadsInt w .i64 A' 1 [1]) (hc' : 1 ≤ c') (hT : Tab w) :
    Calls Tryz.prog 17 #[.agg #[.bool true, .slice A 1 c, .int .i64 0], .agg #[.bool false, .slice A' 1 c', .int .i64 0]] w (Ans w (-2) 0) := by
  refine add_of true false A A' c c' [3] [1] 0 0 (-2) 0 w hr hc (by decide) hr' hc' (by decide) hT (Fits.of (k := 2) (by decide) (by decide)) (by decide) (by decide) ?_
  intro W b g g' o o' _ hb hi hi'
  exact plus_31 b g g' o o' W hb hi hi'
set_option maxRecDepth 100000 in
set_option maxHeartbeats 8000000 in
theorem ways_calls (w : World) : Calls Tryz.prog 40 #[] w fun e w' => e = .returned (.agg #[.func (.func 77) #[] #[], .func (.func 78) #[] #[], .func (.func 80) #[] #[]]) ∧ Only w w' (fun _ => False) := by
  go_enter Tryz.func40, Tryz.ntmps40
  go_wp2_with fail
  refine bodyPost_ret (results_cell_row rfl _ _ w.heap.size 79 _ (0, 0) _ rfl (by simpa using heap_alloc_new w (.cells #[.func (.func 77) #[] #[], .func (.func 78) #[] #[], .func (.func 80) #[] #[]] 79)) Tryz.underlying79 rfl (by kernel_rfl)) rfl ?_
  exact ⟨rfl, (Only.refl _ _).alloc _⟩
theorem near_calls (b wd : Int) (ab : Bool) (w : World) : Calls Tryz.prog 77 #[.int .i64 b, .int .i64 wd, .bool ab] w fun e w' => e = .returned (.int .i64 b) ∧ w' = w := by
  go_enter Tryz.func77, Tryz.ntmps77
  go_wp2_with fail
  go_ret
  exact ⟨rfl, rfl⟩
end Go.Proofs.YtlfmgdpbjapdjaaGreatFmtBesafter
namespace Go.Proofs.YtlfmgdpbjapdjaaGreatFmtBesafter
open Go.RowKit Go.Proofs.YtlfmgdpbjapdjaaGreatFmtBesafterW.PrintWords Go.Proofs.YtlfmgdpbjapdjaaGreatFmtBesafterW.PrintLast
set_option linter.unusedVariables false in
set_option linter.unusedSimpArgs false in
set_option maxRecDepth 100000 in
set_option maxHeartbeats 8000000 in
theorem to_lit (gq : Nat) (oq : Option Nat) (w : World) (hq : IsInt w gq oq 12297829382473034410) :
    Calls Tryz.prog 39 #[.agg #[.pointer (some ⟨gq, 0, none⟩), .int .i64 (-65), .bool true], .int .i64 64, .agg #[.func (.func 77) #[] #[]]] w fun en w' => en = .returned (.tuple #[.int .i64 4599676419421066581, .bool true]) ∧ Only w w' (fun _ => False) := by
  obtain ⟨wA, hwA, h1, h2, hoA, hsA⟩ : ∃ wA, wA = ((w.alloc (.cells #[.pointer (some ⟨gq, 0, none⟩), .int .i64 (-65), .bool true] 46)).alloc (.cells #[.func (.func 77) #[] #[]] 78)) ∧ wA.heap[w.heap.size]? = some (.cells #[.pointer (some ⟨gq, 0, none⟩), .int .i64 (-65), .bool true] 46 (0, 0)) ∧ wA.heap[w.heap.size + 1]? = some (.cells #[.func (.func 77) #[] #[]] 78 (0, 0)) ∧ Only w wA (fun _ => False) ∧ w.heap.size + 1 < wA.heap.size :=
    ⟨_, rfl, heap_two' w _ _, heap_two w _ _, ((Only.refl w (fun _ => False)).alloc _).alloc _, by simp⟩
  have hqA := hq.only hoA (fun h => h) (fun _ _ h => h)
  obtain ⟨wB, hwB, hA, hB, hoB⟩ : ∃ wB, wB = (wA.alloc (.cells #[.bool false, .slice none 0 0] 87)).alloc (.cells #[.bool false, .slice none 0 0] 87) ∧ IsInt wB wA.heap.size none 0 ∧ IsInt wB (wA.heap.size + 1) none 0 ∧ Only wA wB (fun _ => False) :=
    ⟨_, rfl, (isInt_alloc wA).alloc_ _, by simpa using isInt_alloc (wA.alloc (.cells #[.bool false, .slice none 0 0] 87)), ((Only.refl wA (fun _ => False)).alloc _).alloc _⟩
  have hbx : ∀ W, Only wA W (fun _ => False) → W.cell? ⟨w.heap.size, 0, none⟩ = some (.pointer (some ⟨gq, 0, none⟩)) ∧ W.cell? ⟨w.heap.size, 1, none⟩ = some (.int .i64 (-65)) ∧ W.cell? ⟨w.heap.size, 2, none⟩ = some (.bool true) ∧ W.cell? ⟨w.heap.size + 1, 0, none⟩ = some (.func (.func 77) #[] #[]) := fun W hW => by
    have a := (hW.kept _ (blk_lt h1) (fun h => h)).trans h1
    have b := (hW.kept _ (blk_lt h2) (fun h => h)).trans h2
    exact ⟨blk_cell a 0, blk_cell a 1, blk_cell a 2, blk_cell b 0⟩
  have HBX := Lib.hid hbx
  have hQn : ((Int.natAbs 12297829382473034410 : Nat) : Int) = 12297829382473034410 := natAbs_nonneg (by decide)
  have hFq : Fits ((Int.natAbs 12297829382473034410 : Nat) : Int) := by rw [hQn]; exact Fits.of (k := 64) (by decide +kernel) (by decide)
  have hFq2 : Fits (12297829382473034410 * 2 ^ 1 : Int) := Fits.of (k := 66) (by decide +kernel) (by decide)
  have HQ := Lib.hid (And.intro hqA (And.intro hFq (And.intro hFq2 hQn)))
  have HO := Lib.hid hoA
  have hlq : gq < wA.heap.size := hqA.lt
  have HLQ := Lib.hid hlq
  have HSA := Lib.hid hsA
  clear hbx hqA hFq hFq2 hQn hoA hlq hsA h1 h2 hq
  go_enter Tryz.func39, Tryz.ntmps39
  go_upto_region 1 with (fail)
  rw [← hwA]
  clear hwA
  obtain ⟨c0, c1, c2, d0⟩ := HBX.out _ (((Only.refl wA (fun _ => False)).alloc (.cells #[.bool false, .slice none 0 0] 87)).alloc (.cells #[.bool false, .slice none 0 0] 87))
  go_wp2_with fail
  rw [← hwB]
  clear hwB c0 c1 c2 d0
  refine (abs_int (wA.heap.size + 1) gq none oq 0 12297829382473034410 wB hB (HQ.out.1.only hoB (fun h => h) (fun _ _ h => h)) HQ.out.2.1 (by have := HLQ.out; omega)).mono ?_
  rintro en wC ⟨rfl, hP⟩
  have hAC : IsInt wC wA.heap.size none 0 := by
    obtain ⟨_, _, ho, _⟩ := hP
    exact hA.keep hB ho (by omega) (fun b h => by cases h)
  rw [HQ.out.2.2.2] at hP
  obtain ⟨⟨oB, hBC, _, _⟩, hoC⟩ := New.put (B := wA.heap.size) rfl hoB (Nat.le_succ _) (fun b h => by cases h) hP
  clear hP hA hB hoB
  obtain ⟨c0, c1, c2, d0⟩ := HBX.out wC hoC
  go_wp2_with fail
  refine (lsh_int wA.heap.size (wA.heap.size + 1) none oB 0 12297829382473034410 1 wC hAC hBC HQ.out.2.1 (by decide) (by decide)).mono ?_
  rintro en wD ⟨rfl, hP⟩
  obtain ⟨⟨oA, hAD, _, hoAb⟩, hoD⟩ := New.put (B := wA.heap.size) rfl hoC (Nat.le_refl _) (fun b h => by cases h) hP
  clear hP hBC hAC hoC c0 c1 c2 d0
  obtain ⟨c0, c1, c2, d0⟩ := HBX.out wD hoD
  go_wp2_with fail
  refine (newInt_any 1 wD (by decide) (by decide)).mono ?_
  rintro en wE ⟨g1, rfl, ⟨o1, h1E, _, _⟩, hoE0⟩
  have hAE := hAD.only hoE0 (fun h => h) (fun _ _ h => h)
  have hoE := hoD.trans hoE0
  clear c0 c1 c2 d0 hoE0 hoD hAD
  go_wp2_with fail
  refine (or_int wA.heap.size wA.heap.size g1 oA oA o1 (12297829382473034410 * 2 ^ 1) (12297829382473034410 * 2 ^ 1) 1 1 wE hAE hAE h1E (by decide +kernel) (by decide) HQ.out.2.2.1 (by decide) (by decide +kernel) (by decide)).mono ?_
  rintro en wF ⟨rfl, hP⟩
  obtain ⟨⟨oF, hAF, _, _⟩, hoF⟩ := New.put (B := wA.heap.size) rfl hoE (Nat.le_refl _) hoAb hP
  rw [show (12297829382473034410 * 2 ^ 1 + 1 : Int) = 24595658764946068821 by decide +kernel] at hAF
  clear hP hAE h1E hoE hoAb
  obtain ⟨c0, c1, c2, d0⟩ := HBX.out wF hoF
  go_wp2_with fail
  refine (sign_pos gq oq 12297829382473034410 wF (HQ.out.1.only hoF (fun h => h) (fun _ _ h => h)) (by decide)).mono ?_
  rintro en w' ⟨rfl, hw⟩
  rw [hw]
  clear hw w'
  go_wp2_with fail
  refine (setInt_lit wF.heap.size wA.heap.size oF _ (heap_alloc_new wF _) (hAF.alloc_ _)).mono ?_
  rintro en wH ⟨rfl, b, c, ys, hfH, hbH, hl, y0, y1, hoG, hbb⟩
  have hsF := hoF.base.size
  have hbb2 : wA.heap.size ≤ b := Nat.le_trans (Nat.le_trans hsF (Nat.le_of_lt (by simp))) hbb
  have hoH : Only wA wH (fun _ => False) := (hoF.alloc _).step hoG (by rintro i hi rfl; omega)
  clear hAF hoG hbb c0 c1 c2 d0
  obtain ⟨c0, c1, c2, d0⟩ := HBX.out wH hoH
  have hm : min (max (-66 : Int) (-4194304)) 4194304 = -66 := by decide
  go_wp2_with fail
  refine (setMantExp_lit wF.heap.size b c ys wH hfH hbH hl y0).mono ?_
  rintro en wI ⟨rfl, hfI, hbI, hoI0⟩
  have hoI : Only wA wI (fun _ => False) := hoH.step hoI0 (by rintro i hi (rfl | rfl) <;> omega)
  clear hfH hbH hoI0 c0 c1 c2 d0 hm hoH hoF
  have z0 : (ys.set 0 9223372036854775808).getD 0 0 = 9223372036854775808 := by simp [List.getD, show 0 < ys.length by omega]
  have z1 : (ys.set 0 9223372036854775808).getD 1 0 = 12297829382473034410 := by simpa [List.getD, show 1 < ys.length by omega] using y1
  go_wp2_with fail
  refine (float64_lit wF.heap.size b c _ wI hfI hbI (by rw [List.length_set]; exact hl) z0 z1).mono ?_
  rintro en wJ ⟨rfl, hoJ0⟩
  have hoJ := hoI.trans hoJ0
  clear hfI hbI z0 z1 y0 y1 hoJ0 hoI hsF hbb2 hl
  obtain ⟨c0, c1, c2, d0⟩ := HBX.out wJ hoJ
  go_wp2_with fail
  refine (of_third wJ).mono ?_
  rintro en w' ⟨rfl, hw⟩
  rw [hw]
  clear hw w'
  go_wp2_with fail
  refine (near_calls _ _ _ _).mono ?_
  rintro en w' ⟨rfl, hw⟩
  rw [hw]
  clear hw w'
  have HOJ := Lib.hid hoJ
  clear c0 c1 c2 d0 hoJ
  go_wp2_with fail
  refine start_ (S := (fun W => Only wJ W (fun _ => False))) (ds := ([] : List Nat)) #[false, false, false, false, false, false, false, false, false, false, false] (by kernel_rfl) rfl rfl ?_ (fun hHeld => ?_)
  · exact (Only.refl wJ _).drew
  generalize wJ.drew = W1 at *
  refine pure_ (i := 0) (oi := ?o0) (v := ?v0) #[true, false, false, false, false, false, false, false, false, false, false] ?h0 rfl (by kernel_rfl) ?q0 (Or.inl ⟨?w0, ?y0⟩) rfl ?r0
  case h0 => (simp only [ga, gb, gc]; rfl)
  case q0 => exact fun _ _ _ h => h
  case w0 => rfl
  case y0 => (intro W; go_simp; first | done | with_reducible rfl)
  simp only [Act.put, zd, ze, zf]
  refine pure_ (i := 1) (oi := ?o1) (v := ?v1) #[true, true, false, false, false, false, false, false, false, false, false] ?h1 rfl (by kernel_rfl) ?q1 (Or.inl ⟨?w1, ?y1⟩) rfl ?r1
  case h1 => (simp only [ga, gb, gc]; rfl)
  case q1 => exact fun _ _ _ h => h
  case w1 => rfl
  case y1 => (intro W; go_simp; first | done | with_reducible rfl)
  simp only [Act.put, zd, ze, zf]
  refine pure_ (i := 3) (oi := ?o2) (v := ?v2) #[true, true, false, true, false, false, false, false, false, false, false] ?h2 rfl (by kernel_rfl) ?q2 (Or.inl ⟨?w2, ?y2⟩) rfl ?r2
  case h2 => (simp only [ga, gb, gc]; rfl)
  case q2 => exact fun _ _ _ h => h
  case w2 => rfl
  case y2 => (intro W; go_simp; first | done | with_reducible rfl)
  simp only [Act.put, zd, ze, zf]
  refine pure_ (i := 4) (oi := ?o3) (v := ?v3) #[true, true, false, true, true, false, false, false, false, false, false] ?h3 rfl (by kernel_rfl) ?q3 (Or.inl ⟨?w3, ?y3⟩) rfl ?r3
  case h3 => (simp only [ga, gb, gc]; rfl)
  case q3 => exact fun _ _ _ h => h
  case w3 => rfl
  case y3 => (intro W; go_simp; first | done | with_reducible rfl)
  simp only [Act.put, zd, ze, zf]
  refine wpAnyLast_ready (rs := [2]) (by kernel_rfl) (by simp) ?_
  refine AllReadyL.cons (o := ?o4) ?h4 (by simp) (fun K hK => ?s4) ?m4
  case h4 => (simp only [ga, gb, gc]; rfl)
  case m4 => exact AllReadyL.nil
  go_simp
  go_at_call 8
  refine (canon_third W1).mono ?_
  rintro en W2 ⟨rfl, ho⟩
  refine hK.out _ _ (hHeld.trans ho) (fun hHeldN => ?_)
  clear hK K hHeld ho
  have hHeld := hHeldN
  clear hHeldN
  simp only [Act.put, zd, ze, zf]
  refine pure_ (i := 5) (oi := ?o5) (v := ?v5) #[true, true, true, true, true, true, false, false, false, false, false] ?h5 rfl (by kernel_rfl) ?q5 (Or.inl ⟨?w5, ?y5⟩) rfl ?r5
  case h5 => (simp only [ga, gb, gc]; rfl)
  case q5 => exact fun _ _ _ h => h
  case w5 => rfl
  case y5 => (intro W; go_simp; first | done | with_reducible rfl)
  simp only [Act.put, zd, ze, zf]
  refine pure_ (i := 9) (oi := ?o6) (v := ?v6) #[true, true, true, true, true, true, false, false, false, true, false] ?h6 rfl (by kernel_rfl) ?q6 (Or.inl ⟨?w6, ?y6⟩) rfl ?r6
  case h6 => (simp only [ga, gb, gc]; rfl)
  case q6 => exact fun _ _ _ h => h
  case w6 => rfl
  case y6 => (intro W; go_simp; first | done | with_reducible rfl)
  simp only [Act.put, zd, ze, zf]
  refine pure_ (i := 6) (oi := ?o7) (v := undef) #[true, true, true, true, true, true, true, false, false, true, false] ?h7 rfl (by kernel_rfl) ?q7 (Or.inr ⟨?w7, rfl⟩) rfl ?r7
  case h7 => (simp only [ga, gb, gc]; rfl)
  case q7 => exact fun _ _ _ h => h
  case w7 => rfl
  simp only [Act.put, zd, ze, zf]
  refine pure_ (i := 7) (oi := ?o8) (v := undef) #[true, true, true, true, true, true, true, true, false, true, false] ?h8 rfl (by kernel_rfl) ?q8 (Or.inr ⟨?w8, rfl⟩) rfl ?r8
  case h8 => (simp only [ga, gb, gc]; rfl)
  case q8 => exact fun _ _ _ h => h
  case w8 => rfl
  simp only [Act.put, zd, ze, zf]
  refine pure_ (i := 8) (oi := ?o9) (v := ?v9) #[true, true, true, true, true, true, true, true, true, true, false] ?h9 rfl (by kernel_rfl) ?q9 (Or.inl ⟨?w9, ?y9⟩) rfl ?r9
  case h9 => (simp only [ga, gb, gc]; rfl)
  case q9 => exact fun _ _ _ h => h
  case w9 => rfl
  case y9 => (intro W; go_simp; first | done | with_reducible rfl)
  simp only [Act.put, zd, ze, zf]
  refine pure_ (i := 10) (oi := ?o10) (v := ?v10) #[true, true, true, true, true, true, true, true, true, true, true] ?h10 rfl (by kernel_rfl) ?q10 (Or.inl ⟨?w10, ?y10⟩) rfl ?r10
  case h10 => (simp only [ga, gb, gc]; rfl)
  case q10 => exact fun _ _ _ h => h
  case w10 => rfl
  case y10 => (intro W; go_simp; first | done | with_reducible rfl)
  simp only [Act.put, zd, ze, zf]
  refine done_ (by kernel_rfl) ?_
  go_wp2_with fail
  go_ret2
  exact ⟨rfl, (HO.out.trans HOJ.out).trans hHeld⟩
theorem sign_neg (z : Int) : decide (z.sign < 0) = decide (z < 0) := by
  rw [decide_eq_decide]
  exact Int.sign_neg_iff
theorem Tryz.bits32 (n : Nat) (w : World) : (callFunc 56 #[.float .f32 n]).run Tryz.prog w = .ok (.value (.int .u32 n)) w := by
  rw [run_callFunc_extern (e := Extern.MathFloatBits.float32bits) Tryz.func56 (by kernel_rfl) (by kernel_rfl) (by kernel_rfl) (by kernel_rfl)]
  rfl
attribute [go_sem] Tryz.bits32
set_option maxRecDepth 100000 in
set_option maxHeartbeats 400000 in
theorem of32_num (n : Nat) (w : World) (h : (FloatKind.f32.format.order n n != some .eq) = false) :
    Calls Tryz.prog 28 #[.float .f32 n] w fun e w' => e = .returned (.int .i64 (wrap64 n)) ∧ w = w' := by
  go_enter Tryz.func28, Tryz.ntmps28
  go_wp2
  go_ret
  exact ⟨rfl, rfl⟩
set_option linter.unusedVariables false in
set_option linter.unusedSimpArgs false in
set_option maxRecDepth 100000 in
set_option maxHeartbeats 8000000 in
theorem to_z64 (gq : Nat) (oq : Option Nat) (e : Int) (v fid : Nat) (cn : Int) (w : World) (hq : IsInt w gq oq 0) (he0 : -2000000 ≤ e) (he1 : e ≤ 2000000) (hv : v = 0) (hcan : F.bits_Canon.f 2 (wrap64 v) 64 = some cn) :
    Calls Tryz.prog 39 #[.agg #[.pointer (some ⟨gq, 0, none⟩), .int .i64 e, .bool false], .int .i64 64, .agg #[.func (.func fid) #[] #[]]] w fun en w' => en = .returned (.tuple #[.int .i64 cn, .bool false]) ∧ Only w w' (fun _ => False) := by
  obtain ⟨wA, hwA, h1, hoA, hsA⟩ : ∃ wA, wA = ((w.alloc (.cells #[.pointer (some ⟨gq, 0, none⟩), .int .i64 e, .bool false] 46)).alloc (.cells #[.func (.func fid) #[] #[]] 78)) ∧ wA.heap[w.heap.size]? = some (.cells #[.pointer (some ⟨gq, 0, none⟩), .int .i64 e, .bool false] 46 (0, 0)) ∧ Only w wA (fun _ => False) ∧ w.heap.size + 1 < wA.heap.size :=
    ⟨_, rfl, heap_two' w _ _, ((Only.refl w (fun _ => False)).alloc _).alloc _, by simp⟩
  have hqA := hq.only hoA (fun h => h) (fun _ _ h => h)
  obtain ⟨wB, hwB, hA, hB, hoB⟩ : ∃ wB, wB = (wA.alloc (.cells #[.bool false, .slice none 0 0] 87)).alloc (.cells #[.bool false, .slice none 0 0] 87) ∧ IsInt wB wA.heap.size none 0 ∧ IsInt wB (wA.heap.size + 1) none 0 ∧ Only wA wB (fun _ => False) :=
    ⟨_, rfl, (isInt_alloc wA).alloc_ _, by simpa using isInt_alloc (wA.alloc (.cells #[.bool false, .slice none 0 0] 87)), ((Only.refl wA (fun _ => False)).alloc _).alloc _⟩
  have hbx : ∀ W, Only wA W (fun _ => False) → W.cell? ⟨w.heap.size, 0, none⟩ = some (.pointer (some ⟨gq, 0, none⟩)) ∧ W.cell? ⟨w.heap.size, 1, none⟩ = some (.int .i64 e) ∧ W.cell? ⟨w.heap.size, 2, none⟩ = some (.bool false) := fun W hW => by
    have a := (hW.kept _ (blk_lt h1) (fun h => h)).trans h1
    exact ⟨blk_cell a 0, blk_cell a 1, blk_cell a 2⟩
  have HBX := Lib.hid hbx
  have hFq : Fits ((Int.natAbs 0 : Nat) : Int) := Fits.of (k := 60) (by decide) (by decide)
  have HQ := Lib.hid (And.intro hqA hFq)
  have HO := Lib.hid hoA
  have hlq : gq < wA.heap.size := hqA.lt
  have HLQ := Lib.hid hlq
  have HSA := Lib.hid hsA
  have hew : IntKind.i64.wrap (e - 1) = e - 1 := by rw [IntKind.wrap_i64]; omega
  have hm : min (max (e - 1) (-4194304)) 4194304 = e - 1 := by omega
  have HC := Lib.hid hcan
  clear hbx hqA hFq hoA hlq hsA h1 hq hcan 
  go_enter Tryz.func39, Tryz.ntmps39
  go_upto_region 1 with (fail)
  rw [← hwA]
  clear hwA
  obtain ⟨c0, c1, c2⟩ := HBX.out _ (((Only.refl wA (fun _ => False)).alloc (.cells #[.bool false, .slice none 0 0] 87)).alloc (.cells #[.bool false, .slice none 0 0] 87))
  go_wp2_with fail
  rw [← hwB]
  clear hwB c0 c1 c2
  refine (abs_int (wA.heap.size + 1) gq none oq 0 0 wB hB (HQ.out.1.only hoB (fun h => h) (fun _ _ h => h)) HQ.out.2 (by have := HLQ.out; omega)).mono ?_
  rintro en wC ⟨rfl, hP⟩
  have hAC : IsInt wC wA.heap.size none 0 := by
    obtain ⟨_, _, ho, _⟩ := hP
    exact hA.keep hB ho (by omega) (fun b h => by cases h)
  obtain ⟨⟨oB, hBC, _, _⟩, hoC⟩ := New.put (B := wA.heap.size) rfl hoB (Nat.le_succ _) (fun b h => by cases h) hP
  clear hP hA hB hoB
  obtain ⟨c0, c1, c2⟩ := HBX.out wC hoC
  go_wp2_with fail
  refine (lsh_int wA.heap.size (wA.heap.size + 1) none oB 0 (Int.natAbs 0) 1 wC hAC hBC (by simpa using HQ.out.2) (by decide) (by decide)).mono ?_
  rintro en wD ⟨rfl, hP⟩
  obtain ⟨⟨oA, hAD, _, hoAb⟩, hoD⟩ := New.put (B := wA.heap.size) rfl hoC (Nat.le_refl _) (fun b h => by cases h) hP
  clear hP hBC hAC hoC c0 c1 c2
  obtain ⟨c0, c1, c2⟩ := HBX.out wD hoD
  go_upto_region 4 with (fail)
  go_wp2_with fail
  refine (sign_int gq oq 0 wD (HQ.out.1.only hoD (fun h => h) (fun _ _ h => h))).mono ?_
  rintro en w' ⟨rfl, hw⟩
  rw [hw]
  clear hw w'
  have hoF := hoD
  have hAF : IsInt wD wA.heap.size oA 0 := hAD
  clear hAD
  go_wp2_with fail
  refine (setInt_zero wD.heap.size wA.heap.size oA _ (heap_alloc_new wD _) (hAF.alloc_ _)).mono ?_
  rintro en wH ⟨rfl, hfH, hoG⟩
  have hoH : Only wA wH (fun _ => False) := (hoF.alloc _).step hoG (by rintro i hi rfl; have := hoF.base.size; omega)
  clear hAF hoG c0 c1 c2
  obtain ⟨c0, c1, c2⟩ := HBX.out wH hoH
  go_wp2_with fail
  refine (setMantExp_zero wD.heap.size _ _ _ (e - 1) _ _ wH hfH).mono ?_
  rintro en w' ⟨rfl, hw⟩
  rw [hw]
  clear hw w'
  go_wp2_with fail
  refine (float64_zero wD.heap.size _ _ _ _ wH hfH).mono ?_
  rintro en w' ⟨rfl, hw⟩
  rw [hw]
  clear hw w' hfH
  have HOJ := Lib.hid hoH
  subst hv
  have hcan := HC.out
  have ho0 : (FloatKind.f64.format.order 0 0 != some .eq) = false := by decide +kernel
  go_wp2_with fail
  refine (of_num 0 wH ho0).mono ?_
  rintro en w' ⟨rfl, hw⟩
  rw [← hw]
  clear hw w'
  have hw0 : wrap64 ((0 : Nat) : Int) = 0 := by decide +kernel
  have HB2 : Hid (∀ W, Only wH W (fun _ => False) → W.cell? ⟨w.heap.size, 2, none⟩ = some (.bool false)) := Lib.hid (fun W hW => (HBX.out _ (HOJ.out.trans hW)).2.2)
  clear HBX
  go_upto_region 16 with (fail)
  refine start_ (S := (fun W => Only wH W (fun _ => False))) (ds := ([] : List Nat)) #[false, false, false, false, false, false, false, false, false, false, false] (by kernel_rfl) rfl rfl ?_ (fun hHeld => ?_)
  · exact (Only.refl wH _).drew
  generalize wH.drew = W1 at *
  refine pure_ (i := 0) (oi := ?o0) (v := ?v0) #[true, false, false, false, false, false, false, false, false, false, false] ?h0 rfl (by kernel_rfl) ?q0 (Or.inl ⟨?w0, ?y0⟩) rfl ?r0
  case h0 => (simp only [ga, gb, gc]; rfl)
  case q0 => exact fun _ _ _ h => h
  case w0 => rfl
  case y0 => (intro W; go_simp; first | done | with_reducible rfl)
  simp only [Act.put, zd, ze, zf]
  refine pure_ (i := 1) (oi := ?o1) (v := ?v1) #[true, true, false, false, false, false, false, false, false, false, false] ?h1 rfl (by kernel_rfl) ?q1 (Or.inl ⟨?w1, ?y1⟩) rfl ?r1
  case h1 => (simp only [ga, gb, gc]; rfl)
  case q1 => exact fun _ _ _ h => h
  case w1 => rfl
  case y1 => (intro W; go_simp; first | done | with_reducible rfl)
  simp only [Act.put, zd, ze, zf]
  refine pure_ (i := 3) (oi := ?o2) (v := ?v2) #[true, true, false, true, false, false, false, false, false, false, false] ?h2 rfl (by kernel_rfl) ?q2 (Or.inl ⟨?w2, ?y2⟩) rfl ?r2
  case h2 => (simp only [ga, gb, gc]; rfl)
  case q2 => exact fun _ _ _ h => h
  case w2 => rfl
  case y2 => (intro W; go_simp; first | done | with_reducible rfl)
  simp only [Act.put, zd, ze, zf]
  refine pure_ (i := 4) (oi := ?o3) (v := ?v3) #[true, true, false, true, true, false, false, false, false, false, false] ?h3 rfl (by kernel_rfl) ?q3 (Or.inl ⟨?w3, ?y3⟩) rfl ?r3
  case h3 => (simp only [ga, gb, gc]; rfl)
  case q3 => exact fun _ _ _ h => h
  case w3 => rfl
  case y3 => (intro W; go_simp; first | done | with_reducible rfl)
  simp only [Act.put, zd, ze, zf]
  refine wpAnyLast_ready (rs := [2]) (by kernel_rfl) (by simp) ?_
  refine AllReadyL.cons (o := ?o4) ?h4 (by simp) (fun K hK => ?s4) ?m4
  case h4 => (simp only [ga, gb, gc]; rfl)
  case m4 => exact AllReadyL.nil
  go_simp
  go_at_call 8
  refine (F.bits_Canon.calls 2 _ _ _ W1 hcan).mono ?_
  rintro en W2 ⟨rfl, ho⟩
  replace ho := Only.of_below ho
  refine hK.out _ _ (hHeld.trans ho) (fun hHeldN => ?_)
  clear hK K hHeld ho
  have hHeld := hHeldN
  clear hHeldN
  simp only [Act.put, zd, ze, zf]
  refine pure_ (i := 5) (oi := ?o5) (v := ?v5) #[true, true, true, true, true, true, false, false, false, false, false] ?h5 rfl (by kernel_rfl) ?q5 (Or.inl ⟨?w5, ?y5⟩) rfl ?r5
  case h5 => (simp only [ga, gb, gc]; rfl)
  case q5 => exact fun _ _ _ h => h
  case w5 => rfl
  case y5 => (intro W; go_simp; first | done | with_reducible rfl)
  simp only [Act.put, zd, ze, zf]
  refine pure_ (i := 6) (oi := ?o6) (v := ?v6) #[true, true, true, true, true, true, true, false, false, false, false] ?h6 rfl (by kernel_rfl) ?q6 (Or.inl ⟨?w6, ?y6⟩) rfl ?r6
  case h6 => (simp only [ga, gb, gc]; rfl)
  case q6 => exact fun _ _ _ h => h
  case w6 => rfl
  case y6 => (intro W; go_simp; first | done | with_reducible rfl)
  simp only [Act.put, zd, ze, zf]
  refine pure_ (i := 9) (oi := ?o7) (v := ?v7) #[true, true, true, true, true, true, true, false, false, true, false] ?h7 rfl (by kernel_rfl) ?q7 (Or.inl ⟨?w7, ?y7⟩) rfl ?r7
  case h7 => (simp only [ga, gb, gc]; rfl)
  case q7 => exact fun _ _ _ h => h
  case w7 => rfl
  case y7 => (intro W; go_simp; first | done | with_reducible rfl)
  simp only [Act.put, zd, ze, zf]
  refine wpAnyLast_take (i := 7) (oi := ?o8) (v := ?v8) ?h8 (by kernel_rfl) (by kernel_rfl) (by kernel_rfl) (by kernel_rfl) (by kernel_rfl) ?q8 (Or.inl ⟨?w8, ?y8⟩) hHeld ?r8
  case h8 => (simp only [ga, gb, gc]; rfl)
  case q8 => exact fun _ _ _ h => h
  case w8 => rfl
  case y8 => (intro W hSw; have q7 := HB2.out _ hSw; go_simp; first | done | with_reducible rfl)
  simp only [Act.put, zd, ze, zf]
  refine pure_ (i := 8) (oi := ?o9) (v := ?v9) #[true, true, true, true, true, true, true, true, true, true, false] ?h9 rfl (by kernel_rfl) ?q9 (Or.inl ⟨?w9, ?y9⟩) rfl ?r9
  case h9 => (simp only [ga, gb, gc]; rfl)
  case q9 => exact fun _ _ _ h => h
  case w9 => rfl
  case y9 => (intro W; go_simp; first | done | with_reducible rfl)
  simp only [Act.put, zd, ze, zf]
  refine pure_ (i := 10) (oi := ?o10) (v := ?v10) #[true, true, true, true, true, true, true, true, true, true, true] ?h10 rfl (by kernel_rfl) ?q10 (Or.inl ⟨?w10, ?y10⟩) rfl ?r10
  case h10 => (simp only [ga, gb, gc]; rfl)
  case q10 => exact fun _ _ _ h => h
  case w10 => rfl
  case y10 => (intro W; go_simp; first | done | with_reducible rfl)
  simp only [Act.put, zd, ze, zf]
  refine done_ (by kernel_rfl) ?_
  go_wp2_with fail
  go_ret2
  exact ⟨rfl, (HO.out.trans HOJ.out).trans hHeld⟩
set_option linter.unusedVariables false in
set_option linter.unusedSimpArgs false in
set_option maxRecDepth 100000 in
set_option maxHeartbeats 8000000 in
theorem to_z32 (gq : Nat) (oq : Option Nat) (e : Int) (v fid : Nat) (cn : Int) (w : World) (hq : IsInt w gq oq 0) (he0 : -2000000 ≤ e) (he1 : e ≤ 2000000) (hv : v = 0) (hcan : F.bits_Canon.f 2 (wrap64 v) 32 = some cn) :
    Calls Tryz.prog 39 #[.agg #[.pointer (some ⟨gq, 0, none⟩), .int .i64 e, .bool false], .int .i64 32, .agg #[.func (.func fid) #[] #[]]] w fun en w' => en = .returned (.tuple #[.int .i64 cn, .bool false]) ∧ Only w w' (fun _ => False) := by
  obtain ⟨wA, hwA, h1, hoA, hsA⟩ : ∃ wA, wA = ((w.alloc (.cells #[.pointer (some ⟨gq, 0, none⟩), .int .i64 e, .bool false] 46)).alloc (.cells #[.func (.func fid) #[] #[]] 78)) ∧ wA.heap[w.heap.size]? = some (.cells #[.pointer (some ⟨gq, 0, none⟩), .int .i64 e, .bool false] 46 (0, 0)) ∧ Only w wA (fun _ => False) ∧ w.heap.size + 1 < wA.heap.size :=
    ⟨_, rfl, heap_two' w _ _, ((Only.refl w (fun _ => False)).alloc _).alloc _, by simp⟩
  have hqA := hq.only hoA (fun h => h) (fun _ _ h => h)
  obtain ⟨wB, hwB, hA, hB, hoB⟩ : ∃ wB, wB = (wA.alloc (.cells #[.bool false, .slice none 0 0] 87)).alloc (.cells #[.bool false, .slice none 0 0] 87) ∧ IsInt wB wA.heap.size none 0 ∧ IsInt wB (wA.heap.size + 1) none 0 ∧ Only wA wB (fun _ => False) :=
    ⟨_, rfl, (isInt_alloc wA).alloc_ _, by simpa using isInt_alloc (wA.alloc (.cells #[.bool false, .slice none 0 0] 87)), ((Only.refl wA (fun _ => False)).alloc _).alloc _⟩
  have hbx : ∀ W, Only wA W (fun _ => False) → W.cell? ⟨w.heap.size, 0, none⟩ = some (.pointer (some ⟨gq, 0, none⟩)) ∧ W.cell? ⟨w.heap.size, 1, none⟩ = some (.int .i64 e) ∧ W.cell? ⟨w.heap.size, 2, none⟩ = some (.bool false) := fun W hW => by
    have a := (hW.kept _ (blk_lt h1) (fun h => h)).trans h1
    exact ⟨blk_cell a 0, blk_cell a 1, blk_cell a 2⟩
  have HBX := Lib.hid hbx
  have hFq : Fits ((Int.natAbs 0 : Nat) : Int) := Fits.of (k := 60) (by decide) (by decide)
  have HQ := Lib.hid (And.intro hqA hFq)
  have HO := Lib.hid hoA
  have hlq : gq < wA.heap.size := hqA.lt
  have HLQ := Lib.hid hlq
  have HSA := Lib.hid hsA
  have hew : IntKind.i64.wrap (e - 1) = e - 1 := by rw [IntKind.wrap_i64]; omega
  have hm : min (max (e - 1) (-4194304)) 4194304 = e - 1 := by omega
  have HC := Lib.hid hcan
  clear hbx hqA hFq hoA hlq hsA h1 hq hcan 
  go_enter Tryz.func39, Tryz.ntmps39
  go_upto_region 1 with (fail)
  rw [← hwA]
  clear hwA
  obtain ⟨c0, c1, c2⟩ := HBX.out _ (((Only.refl wA (fun _ => False)).alloc (.cells #[.bool false, .slice none 0 0] 87)).alloc (.cells #[.bool false, .slice none 0 0] 87))
  go_wp2_with fail
  rw [← hwB]
  clear hwB c0 c1 c2
  refine (abs_int (wA.heap.size + 1) gq none oq 0 0 wB hB (HQ.out.1.only hoB (fun h => h) (fun _ _ h => h)) HQ.out.2 (by have := HLQ.out; omega)).mono ?_
  rintro en wC ⟨rfl, hP⟩
  have hAC : IsInt wC wA.heap.size none 0 := by
    obtain ⟨_, _, ho, _⟩ := hP
    exact hA.keep hB ho (by omega) (fun b h => by cases h)
  obtain ⟨⟨oB, hBC, _, _⟩, hoC⟩ := New.put (B := wA.heap.size) rfl hoB (Nat.le_succ _) (fun b h => by cases h) hP
  clear hP hA hB hoB
  obtain ⟨c0, c1, c2⟩ := HBX.out wC hoC
  go_wp2_with fail
  refine (lsh_int wA.heap.size (wA.heap.size + 1) none oB 0 (Int.natAbs 0) 1 wC hAC hBC (by simpa using HQ.out.2) (by decide) (by decide)).mono ?_
  rintro en wD ⟨rfl, hP⟩
  obtain ⟨⟨oA, hAD, _, hoAb⟩, hoD⟩ := New.put (B := wA.heap.size) rfl hoC (Nat.le_refl _) (fun b h => by cases h) hP
  clear hP hBC hAC hoC c0 c1 c2
  obtain ⟨c0, c1, c2⟩ := HBX.out wD hoD
  go_upto_region 4 with (fail)
  go_wp2_with fail
  refine (sign_int gq oq 0 wD (HQ.out.1.only hoD (fun h => h) (fun _ _ h => h))).mono ?_
  rintro en w' ⟨rfl, hw⟩
  rw [hw]
  clear hw w'
  have hoF := hoD
  have hAF : IsInt wD wA.heap.size oA 0 := hAD
  clear hAD
  go_wp2_with fail
  refine (setInt_zero wD.heap.size wA.heap.size oA _ (heap_alloc_new wD _) (hAF.alloc_ _)).mono ?_
  rintro en wH ⟨rfl, hfH, hoG⟩
  have hoH : Only wA wH (fun _ => False) := (hoF.alloc _).step hoG (by rintro i hi rfl; have := hoF.base.size; omega)
  clear hAF hoG c0 c1 c2
  obtain ⟨c0, c1, c2⟩ := HBX.out wH hoH
  go_wp2_with fail
  refine (setMantExp_zero wD.heap.size _ _ _ (e - 1) _ _ wH hfH).mono ?_
  rintro en w' ⟨rfl, hw⟩
  rw [hw]
  clear hw w'
  go_wp2_with fail
  refine (float32_zero wD.heap.size _ _ _ _ wH hfH).mono ?_
  rintro en w' ⟨rfl, hw⟩
  rw [hw]
  clear hw w' hfH
  have HOJ := Lib.hid hoH
  subst hv
  have hcan := HC.out
  have ho0 : (FloatKind.f32.format.order 0 0 != some .eq) = false := by decide +kernel
  go_wp2_with fail
  refine (of32_num 0 wH ho0).mono ?_
  rintro en w' ⟨rfl, hw⟩
  rw [← hw]
  clear hw w'
  have hw0 : wrap64 ((0 : Nat) : Int) = 0 := by decide +kernel
  have HB2 : Hid (∀ W, Only wH W (fun _ => False) → W.cell? ⟨w.heap.size, 2, none⟩ = some (.bool false)) := Lib.hid (fun W hW => (HBX.out _ (HOJ.out.trans hW)).2.2)
  clear HBX
  go_upto_region 16 with (fail)
  refine start_ (S := (fun W => Only wH W (fun _ => False))) (ds := ([] : List Nat)) #[false, false, false, false, false, false, false, false, false, false, false] (by kernel_rfl) rfl rfl ?_ (fun hHeld => ?_)
  · exact (Only.refl wH _).drew
  generalize wH.drew = W1 at *
  refine pure_ (i := 0) (oi := ?o0) (v := ?v0) #[true, false, false, false, false, false, false, false, false, false, false] ?h0 rfl (by kernel_rfl) ?q0 (Or.inl ⟨?w0, ?y0⟩) rfl ?r0
  case h0 => (simp only [ga, gb, gc]; rfl)
  case q0 => exact fun _ _ _ h => h
  case w0 => rfl
  case y0 => (intro W; go_simp; first | done | with_reducible rfl)
  simp only [Act.put, zd, ze, zf]
  refine pure_ (i := 1) (oi := ?o1) (v := ?v1) #[true, true, false, false, false, false, false, false, false, false, false] ?h1 rfl (by kernel_rfl) ?q1 (Or.inl ⟨?w1, ?y1⟩) rfl ?r1
  case h1 => (simp only [ga, gb, gc]; rfl)
  case q1 => exact fun _ _ _ h => h
  case w1 => rfl
  case y1 => (intro W; go_simp; first | done | with_reducible rfl)
  simp only [Act.put, zd, ze, zf]
  refine pure_ (i := 3) (oi := ?o2) (v := ?v2) #[true, true, false, true, false, false, false, false, false, false, false] ?h2 rfl (by kernel_rfl) ?q2 (Or.inl ⟨?w2, ?y2⟩) rfl ?r2
  case h2 => (simp only [ga, gb, gc]; rfl)
  case q2 => exact fun _ _ _ h => h
  case w2 => rfl
  case y2 => (intro W; go_simp; first | done | with_reducible rfl)
  simp only [Act.put, zd, ze, zf]
  refine pure_ (i := 4) (oi := ?o3) (v := ?v3) #[true, true, false, true, true, false, false, false, false, false, false] ?h3 rfl (by kernel_rfl) ?q3 (Or.inl ⟨?w3, ?y3⟩) rfl ?r3
  case h3 => (simp only [ga, gb, gc]; rfl)
  case q3 => exact fun _ _ _ h => h
  case w3 => rfl
  case y3 => (intro W; go_simp; first | done | with_reducible rfl)
  simp only [Act.put, zd, ze, zf]
  refine wpAnyLast_ready (rs := [2]) (by kernel_rfl) (by simp) ?_
  refine AllReadyL.cons (o := ?o4) ?h4 (by simp) (fun K hK => ?s4) ?m4
  case h4 => (simp only [ga, gb, gc]; rfl)
  case m4 => exact AllReadyL.nil
  go_simp
  go_at_call 8
  refine (F.bits_Canon.calls 2 _ _ _ W1 hcan).mono ?_
  rintro en W2 ⟨rfl, ho⟩
  replace ho := Only.of_below ho
  refine hK.out _ _ (hHeld.trans ho) (fun hHeldN => ?_)
  clear hK K hHeld ho
  have hHeld := hHeldN
  clear hHeldN
  simp only [Act.put, zd, ze, zf]
  refine pure_ (i := 5) (oi := ?o5) (v := ?v5) #[true, true, true, true, true, true, false, false, false, false, false] ?h5 rfl (by kernel_rfl) ?q5 (Or.inl ⟨?w5, ?y5⟩) rfl ?r5
  case h5 => (simp only [ga, gb, gc]; rfl)
  case q5 => exact fun _ _ _ h => h
  case w5 => rfl
  case y5 => (intro W; go_simp; first | done | with_reducible rfl)
  simp only [Act.put, zd, ze, zf]
  refine pure_ (i := 6) (oi := ?o6) (v := ?v6) #[true, true, true, true, true, true, true, false, false, false, false] ?h6 rfl (by kernel_rfl) ?q6 (Or.inl ⟨?w6, ?y6⟩) rfl ?r6
  case h6 => (simp only [ga, gb, gc]; rfl)
  case q6 => exact fun _ _ _ h => h
  case w6 => rfl
  case y6 => (intro W; go_simp; first | done | with_reducible rfl)
  simp only [Act.put, zd, ze, zf]
  refine pure_ (i := 9) (oi := ?o7) (v := ?v7) #[true, true, true, true, true, true, true, false, false, true, false] ?h7 rfl (by kernel_rfl) ?q7 (Or.inl ⟨?w7, ?y7⟩) rfl ?r7
  case h7 => (simp only [ga, gb, gc]; rfl)
  case q7 => exact fun _ _ _ h => h
  case w7 => rfl
  case y7 => (intro W; go_simp; first | done | with_reducible rfl)
  simp only [Act.put, zd, ze, zf]
  refine wpAnyLast_take (i := 7) (oi := ?o8) (v := ?v8) ?h8 (by kernel_rfl) (by kernel_rfl) (by kernel_rfl) (by kernel_rfl) (by kernel_rfl) ?q8 (Or.inl ⟨?w8, ?y8⟩) hHeld ?r8
  case h8 => (simp only [ga, gb, gc]; rfl)
  case q8 => exact fun _ _ _ h => h
  case w8 => rfl
  case y8 => (intro W hSw; have q7 := HB2.out _ hSw; go_simp; first | done | with_reducible rfl)
  simp only [Act.put, zd, ze, zf]
  refine pure_ (i := 8) (oi := ?o9) (v := ?v9) #[true, true, true, true, true, true, true, true, true, true, false] ?h9 rfl (by kernel_rfl) ?q9 (Or.inl ⟨?w9, ?y9⟩) rfl ?r9
  case h9 => (simp only [ga, gb, gc]; rfl)
  case q9 => exact fun _ _ _ h => h
  case w9 => rfl
  case y9 => (intro W; go_simp; first | done | with_reducible rfl)
  simp only [Act.put, zd, ze, zf]
  refine pure_ (i := 10) (oi := ?o10) (v := ?v10) #[true, true, true, true, true, true, true, true, true, true, true] ?h10 rfl (by kernel_rfl) ?q10 (Or.inl ⟨?w10, ?y10⟩) rfl ?r10
  case h10 => (simp only [ga, gb, gc]; rfl)
  case q10 => exact fun _ _ _ h => h
  case w10 => rfl
  case y10 => (intro W; go_simp; first | done | with_reducible rfl)
  simp only [Act.put, zd, ze, zf]
  refine done_ (by kernel_rfl) ?_
  go_wp2_with fail
  go_ret2
  exact ⟨rfl, (HO.out.trans HOJ.out).trans hHeld⟩
end Go.Proofs.YtlfmgdpbjapdjaaGreatFmtBesafter
