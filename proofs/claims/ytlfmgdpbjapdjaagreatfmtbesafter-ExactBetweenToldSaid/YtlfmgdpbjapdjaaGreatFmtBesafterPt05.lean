/- Part 5 of the walk: IntI IntJ FltC RndF. -/
import Derived.Test.YtlfmgdpbjapdjaaGreatFmtBesafterPt04
import Derived.Test.YtlfmgdpbjapdjaaGreatFmtBesafterPt03
namespace Go.Proofs.YtlfmgdpbjapdjaaGreatFmtBesafter
open Go.RowKit Go.Proofs.YtlfmgdpbjapdjaaGreatFmtBesafterW.PrintWords
theorem one_word {w : World} {v : Value} {o : Option Nat} {x : Int} (h : IsNat w v o x) (h0 : 0 < x) (h1 : x < 18446744073709551616) : ∃ b ys, o = some b ∧ v = .slice (some ⟨b, 0, none⟩) 1 ys.length ∧ Blk w b ys ∧ 1 ≤ ys.length ∧ ys.length ≤ most ∧ Nrm ys 1 ∧ ys.getD 0 0 = x := by
  rcases h.cases_ with ⟨rfl, _⟩ | ⟨_, b, n, ys, rfl, rfl, hb, hn, hny, hym, hr, hx⟩
  · omega
  · obtain rfl : n = 1 := by
      have := hr.low hn
      rw [hx] at this
      have := pow_lt (Int.lt_of_le_of_lt this (Int.lt_of_lt_of_le h1 (by decide : (18446744073709551616 : Int) ≤ 2 ^ 64)))
      omega
    have e1 : num (fun i => ys.getD i 0) 1 = ys.getD 0 0 := by simp [num]
    exact ⟨b, ys, rfl, rfl, hb, hny, hym, hr, by rw [← e1]; exact hx⟩
theorem two_words {w : World} {v : Value} {o : Option Nat} (h : IsNat w v o 36893488147419103232) : ∃ b ys, o = some b ∧ v = .slice (some ⟨b, 0, none⟩) 2 ys.length ∧ Blk w b ys ∧ 2 ≤ ys.length ∧ ys.getD 0 0 = 0 ∧ ys.getD 1 0 = 2 := by
  rcases h.cases_ with ⟨h0, _⟩ | ⟨_, b, n, ys, rfl, rfl, hb, hn, hny, hym, hr, hx⟩
  · omega
  · have a := hr.low hn
    have c := num_range n hr.1
    rw [hx] at a c
    have h1 := pow_lt (Int.lt_of_le_of_lt a (by decide : (36893488147419103232 : Int) < 2 ^ 66))
    have h2 : (2 : Int) ^ 65 = 36893488147419103232 := by decide
    rw [← h2] at c
    have h3 := pow_lt c.2
    obtain rfl : n = 2 := by omega
    have w0 : 0 ≤ ys.getD 0 0 ∧ ys.getD 0 0 < 18446744073709551616 := hr.1 0 (by omega)
    have w1 : 0 ≤ ys.getD 1 0 ∧ ys.getD 1 0 < 18446744073709551616 := hr.1 1 (by omega)
    have hx : 0 + ys.getD 0 0 * 2 ^ (64 * 0) + ys.getD 1 0 * 2 ^ (64 * 1) = 36893488147419103232 := hx
    have e : (2 : Int) ^ (64 * 1) = 18446744073709551616 := by decide
    rw [Nat.mul_zero, Int.pow_zero, e] at hx
    refine ⟨b, ys, rfl, rfl, hb, hny, ?_, ?_⟩ <;> omega
set_option maxRecDepth 100000 in
set_option maxHeartbeats 4000000 in
theorem div_nat_lit (vu vv : Value) (ou ov : Option Nat) (w : World) (hu : IsNat w vu ou 36893488147419103232) (hv : IsNat w vv ov 3) :
    Calls Tryz.prog 82 #[.slice none 0 0, .pointer none, .slice none 0 0, vu, vv] w fun e w' => ∃ vq bq vr br, e = .returned (.tuple #[vq, vr]) ∧ IsNat w' vq (some bq) 12297829382473034410 ∧ IsNat w' vr (some br) 2 ∧ w.heap.size ≤ bq ∧ w.heap.size ≤ br ∧ Only w w' (fun _ => False) := by
  obtain ⟨bu, xs, rfl, rfl, hbu, hl, h0, h1⟩ := two_words hu
  obtain ⟨bv, ys, rfl, rfl, hbv, hlv, _, _, hy⟩ := one_word hv (by decide) (by decide)
  have c0 : w.cell? ⟨bv, 0, none⟩ = some (.int .u64 3) := by rw [hbv.cell 0 (by omega), hy]
  have HD := Lib.hid (divW_lit bu xs.length xs w hbu hl h0 h1)
  clear hbu hbv hu hv
  go_enter Tryz.func82, Tryz.ntmps82
  go_wp2_with fail
  refine HD.out.mono ?_
  rintro e w1 ⟨vq, bq, rfl, hq, hbq, ho1⟩
  go_wp2_with fail
  refine (setWord_2 w1).mono ?_
  rintro e w2 ⟨br, cr, rfl, hr, hbr, ho2⟩
  go_wp2_with fail
  go_ret2
  refine ⟨vq, bq, _, br, rfl, hq.only ho2 (fun _ _ h => h), hr, hbq, ?_, ho1.trans ho2⟩
  have := ho1.base.size
  omega
theorem lshb_nat (vx : Value) (ox : Option Nat) (x : Int) (q r : Nat) (w : World) (hx : IsNat w vx ox x) (hf : Fits x) (hp : 0 < x) (hq : 0 < q) (hq2 : q ≤ 1073741824) (hr : 0 < r) (hr2 : r < 64) :
    Calls Tryz.prog 83 #[.slice none 0 0, vx, .int .u64 ((64 * q + r : Nat) : Int)] w (Got w none (x * 2 ^ (64 * q + r))) := by
  have hmm : most = 274877906944 := rfl
  rcases hx.cases_ with ⟨rfl, A, c, rfl⟩ | ⟨_, b, n, ys, rfl, rfl, hb, hn, hny, hym, hr', rfl⟩
  · omega
  · have := hr'.short hf
    exact lsh_big b n ys.length q r ys w hb hn hny (by omega) hr'.1 hq hr hr2
set_option maxRecDepth 100000 in
set_option maxHeartbeats 4000000 in
theorem lshb_int (gz gx : Nat) (ox : Option Nat) (x : Int) (q r s : Nat) (w : World) (hz : IsInt w gz none 0) (hx : IsInt w gx ox x) (hf : Fits (Int.natAbs x)) (hp : x ≠ 0) (hq : 0 < q) (hq2 : q ≤ 1073741824) (hr : 0 < r) (hr2 : r < 64) (hs : s = 64 * q + r) :
    Calls Tryz.prog 46 #[.pointer (some ⟨gz, 0, none⟩), .pointer (some ⟨gx, 0, none⟩), .int .u64 (s : Int)] w fun e w' => e = .returned (.pointer (some ⟨gz, 0, none⟩)) ∧ Put w w' gz none (x * 2 ^ s) := by
  obtain ⟨vz, hgz, hnz⟩ := id hz
  obtain ⟨vx, hgx, hnx⟩ := id hx
  have hx1 := hnx.drew
  obtain rfl : vz = .slice none 0 0 := by
    cases hnz with
    | nil => rfl
  have c1 : w.cell? ⟨gz, 1, none⟩ = some (.slice none 0 0) := blk_cell hgz 1
  have d1 : w.cell? ⟨gx, 1, none⟩ = some vx := blk_cell hgx 1
  have K : ∀ w1, Only w.drew w1 (fun k => (none : Option Nat) = some k) → w1.cell? ⟨gz, 1, none⟩ = some (.slice none 0 0) ∧ w1.frozen? ⟨gz, 1, none⟩ = false ∧ w1.frozen? ⟨gz, 0, none⟩ = false ∧ w1.cell? ⟨gz, 0, none⟩ = some (.bool (decide ((0 : Int) < 0))) ∧ w1.cell? ⟨gx, 0, none⟩ = some (.bool (decide (x * 2 ^ s < 0))) := fun w1 ho => by
    have e1 := blk_held hnz hgz ho
    have e2 := blk_held hnz hgx ho
    exact ⟨blk_cell e1 1, blk_frozen e1 1, blk_frozen e1 0, blk_cell e1 0, by rw [sign_pow]; exact blk_cell e2 0⟩
  have HK := Lib.hid K
  have hL := lshb_nat vx ox _ q r w.drew hx1 hf (by omega) hq hq2 hr hr2
  rw [← hs] at hL
  have HL := Lib.hid hL
  clear K hL hs
  go_enter Tryz.func46, Tryz.ntmps46
  go_wp2_with fail
  go_region_law (go_simp; go_at_call 83; refine HL.out.mono ?_; rintro e w1 ⟨v, o', rfl, hv, ho, hoo⟩; obtain ⟨A, n, c, rfl⟩ := hv.slice_; obtain ⟨k1, k2, k3, k4, k5⟩ := HK.out _ ho)
  all_goals
    go_wp2_with fail
    go_ret
    refine ⟨rfl, Put.from_drew hz (o' := o') ?_ ho hoo⟩
    rw [natAbs_pow]; exact hv
end Go.Proofs.YtlfmgdpbjapdjaaGreatFmtBesafter
namespace Go.Proofs.YtlfmgdpbjapdjaaGreatFmtBesafter
open Go.RowKit Go.Proofs.YtlfmgdpbjapdjaaGreatFmtBesafterW.PrintWords Go.Proofs.YtlfmgdpbjapdjaaGreatFmtBesafterW.PrintLast
def DivAns (w : World) (q r : Int) (e : Ending) (w' : World) : Prop := ∃ vq bq vr br, e = .returned (.tuple #[vq, vr]) ∧ IsNat w' vq (some bq) q ∧ IsNat w' vr (some br) r ∧ w.heap.size ≤ bq ∧ w.heap.size ≤ br ∧ Only w w' (fun _ => False)
theorem nat_some {w : World} {v : Value} {b : Nat} {x : Int} (h : IsNat w v (some b) x) (h0 : 0 < x) : ∃ n c, v = .slice (some ⟨b, 0, none⟩) (n + 1) c := by
  rcases h.cases_ with ⟨h1, _⟩ | ⟨_, b', n, ys, hbb, rfl, hb, hn, _⟩
  · omega
  · obtain rfl := Option.some.inj hbb
    exact ⟨n - 1, ys.length, by rw [show n - 1 + 1 = n by omega]⟩
theorem two_put {w w1 : World} {a b : Nat} (ha : w1.heap[a]? = some (.cells #[.bool false, .slice none 0 0] 87 (0, 0))) (hb : w1.heap[b]? = some (.cells #[.bool false, .slice none 0 0] 87 (0, 0))) (hne : a ≠ b) (ho : Only w w1 (fun _ => False)) (va vb : Value) :
    ((w1.setCell ⟨a, 1, none⟩ va).setCell ⟨b, 1, none⟩ vb).heap[a]? = some (.cells #[.bool false, va] 87 (0, 0)) ∧ ((w1.setCell ⟨a, 1, none⟩ va).setCell ⟨b, 1, none⟩ vb).heap[b]? = some (.cells #[.bool false, vb] 87 (0, 0)) ∧ Only w ((w1.setCell ⟨a, 1, none⟩ va).setCell ⟨b, 1, none⟩ vb) (fun k => k = a ∨ k = b) ∧ Only w1 ((w1.setCell ⟨a, 1, none⟩ va).setCell ⟨b, 1, none⟩ vb) (fun k => k = a ∨ k = b) := by
  have h1 := blk_far (blk_set ha 1 va) (p := ⟨b, 1, none⟩) hne vb
  have h2 := blk_set (blk_far hb (p := ⟨a, 1, none⟩) (Ne.symm hne) va) 1 vb
  have h3 := ((Only.refl w1 (fun k => k = a ∨ k = b)).set (p := ⟨a, 1, none⟩) (.inr (.inl rfl)) va).set (p := ⟨b, 1, none⟩) (.inr (.inr rfl)) vb
  exact ⟨by simpa using h1, by simpa using h2, (ho.mono (fun _ _ h => h.elim)).step h3 (fun _ _ h => h), h3⟩
def QMid (w : World) (gz gr : Nat) (q r : Int) (wc : World) : Prop := ∃ bq nq cq br nr cr, wc.heap[gz]? = some (.cells #[.bool false, .slice (some ⟨bq, 0, none⟩) (nq + 1) cq] 87 (0, 0)) ∧ wc.heap[gr]? = some (.cells #[.bool false, .slice (some ⟨br, 0, none⟩) (nr + 1) cr] 87 (0, 0)) ∧ IsNat wc (.slice (some ⟨bq, 0, none⟩) (nq + 1) cq) (some bq) q ∧ IsNat wc (.slice (some ⟨br, 0, none⟩) (nr + 1) cr) (some br) r ∧ w.heap.size ≤ bq ∧ w.heap.size ≤ br ∧ Only w wc (fun k => k = gz ∨ k = gr)
theorem q_mid {w w1 W : World} {gz gr : Nat} {q r : Int} {bq nq cq br nr cr : Nat} (hgz : w.heap[gz]? = some (.cells #[.bool false, .slice none 0 0] 87 (0, 0))) (hgr : w.heap[gr]? = some (.cells #[.bool false, .slice none 0 0] 87 (0, 0))) (hne : gz ≠ gr) (ho : Only w.drew w1 (fun _ => False)) (hq : IsNat w1 (.slice (some ⟨bq, 0, none⟩) (nq + 1) cq) (some bq) q) (hr : IsNat w1 (.slice (some ⟨br, 0, none⟩) (nr + 1) cr) (some br) r) (hbq : w.heap.size ≤ bq) (hbr : w.heap.size ≤ br)
    (hW : W = (w1.setCell ⟨gz, 1, none⟩ (.slice (some ⟨bq, 0, none⟩) (nq + 1) cq)).setCell ⟨gr, 1, none⟩ (.slice (some ⟨br, 0, none⟩) (nr + 1) cr) ∨ W = (w1.setCell ⟨gr, 1, none⟩ (.slice (some ⟨br, 0, none⟩) (nr + 1) cr)).setCell ⟨gz, 1, none⟩ (.slice (some ⟨bq, 0, none⟩) (nq + 1) cq)) : QMid w gz gr q r W := by
  have ho0 : Only w w1 (fun _ => False) := ((Only.refl w (fun _ => False)).drew).trans ho
  have ha := (ho0.kept _ (blk_lt hgz) (fun h => h)).trans hgz
  have hb := (ho0.kept _ (blk_lt hgr) (fun h => h)).trans hgr
  have qz := hq.apart ha
  have qr := hq.apart hb
  have rz := hr.apart ha
  have rr := hr.apart hb
  rcases hW with rfl | rfl
  · obtain ⟨h1, h2, h3, h4⟩ := two_put ha hb hne ho0 (.slice (some ⟨bq, 0, none⟩) (nq + 1) cq) (.slice (some ⟨br, 0, none⟩) (nr + 1) cr)
    refine ⟨bq, nq, cq, br, nr, cr, h1, h2, hq.only h4 ?_, hr.only h4 ?_, hbq, hbr, h3⟩
    · rintro b hb' (rfl | rfl)
      · exact qz hb'
      · exact qr hb'
    · rintro b hb' (rfl | rfl)
      · exact rz hb'
      · exact rr hb'
  · obtain ⟨h1, h2, h3, h4⟩ := two_put hb ha (Ne.symm hne) ho0 (.slice (some ⟨br, 0, none⟩) (nr + 1) cr) (.slice (some ⟨bq, 0, none⟩) (nq + 1) cq)
    refine ⟨bq, nq, cq, br, nr, cr, h2, h1, hq.only h4 ?_, hr.only h4 ?_, hbq, hbr, h3.mono (fun _ _ h => h.symm)⟩
    · rintro b hb' (rfl | rfl)
      · exact qr hb'
      · exact qz hb'
    · rintro b hb' (rfl | rfl)
      · exact rr hb'
      · exact rz hb'
structure QS (w : World) (gz gr gx gy : Nat) (A B vx vy : Value) (bq br : Nat) (q r : Int) (W : World) : Prop where
  hz : W.heap[gz]? = some (.cells #[.bool false, A] 87 (0, 0))
  hrr : W.heap[gr]? = some (.cells #[.bool false, B] 87 (0, 0))
  hx : W.heap[gx]? = some (.cells #[.bool false, vx] 87 (0, 0))
  hy : W.heap[gy]? = some (.cells #[.bool false, vy] 87 (0, 0))
  hq : IsNat W A (some bq) q
  hr : IsNat W B (some br) r
  ho : Only w W (fun k => k = gz ∨ k = gr)
  q0 : 0 < q
  r0 : 0 < r
theorem QS.cells {w W : World} {gz gr gx gy : Nat} {A B vx vy : Value} {bq br : Nat} {q r : Int} (h : QS w gz gr gx gy A B vx vy bq br q r W) : W.cell? ⟨gz, 0, none⟩ = some (.bool false) ∧ W.frozen? ⟨gz, 0, none⟩ = false ∧ W.cell? ⟨gz, 1, none⟩ = some A ∧ W.cell? ⟨gr, 0, none⟩ = some (.bool false) ∧ W.frozen? ⟨gr, 0, none⟩ = false ∧ W.cell? ⟨gr, 1, none⟩ = some B ∧ W.cell? ⟨gx, 0, none⟩ = some (.bool false) ∧ W.cell? ⟨gy, 0, none⟩ = some (.bool false) :=
  ⟨blk_cell h.hz 0, blk_frozen h.hz 0, blk_cell h.hz 1, blk_cell h.hrr 0, blk_frozen h.hrr 0, blk_cell h.hrr 1, blk_cell h.hx 0, blk_cell h.hy 0⟩
theorem QS.drew {w W : World} {gz gr gx gy : Nat} {A B vx vy : Value} {bq br : Nat} {q r : Int} (h : QS w gz gr gx gy A B vx vy bq br q r W) : QS w gz gr gx gy A B vx vy bq br q r W.drew := ⟨h.hz, h.hrr, h.hx, h.hy, h.hq.drew, h.hr.drew, h.ho.drew, h.q0, h.r0⟩
theorem QS.keepz {w W : World} {gz gr gx gy : Nat} {A B vx vy : Value} {bq br : Nat} {q r : Int} (h : QS w gz gr gx gy A B vx vy bq br q r W) (n1 : gz ≠ gr) (n2 : gz ≠ gx) (n3 : gz ≠ gy) : QS w gz gr gx gy A B vx vy bq br q r (W.setCell ⟨gz, 0, none⟩ (.bool false)) :=
  ⟨by simpa using blk_set h.hz 0 (.bool false), blk_far h.hrr (p := ⟨gz, 0, none⟩) (Ne.symm n1) _, blk_far h.hx (p := ⟨gz, 0, none⟩) (Ne.symm n2) _, blk_far h.hy (p := ⟨gz, 0, none⟩) (Ne.symm n3) _, h.hq.store (p := ⟨gz, 0, none⟩) (h.hq.apart h.hz) _, h.hr.store (p := ⟨gz, 0, none⟩) (h.hr.apart h.hz) _, h.ho.set (p := ⟨gz, 0, none⟩) (.inr (.inl rfl)) _, h.q0, h.r0⟩
theorem QS.keepr {w W : World} {gz gr gx gy : Nat} {A B vx vy : Value} {bq br : Nat} {q r : Int} (h : QS w gz gr gx gy A B vx vy bq br q r W) (n1 : gz ≠ gr) (n4 : gr ≠ gx) (n5 : gr ≠ gy) : QS w gz gr gx gy A B vx vy bq br q r (W.setCell ⟨gr, 0, none⟩ (.bool false)) :=
  ⟨blk_far h.hz (p := ⟨gr, 0, none⟩) n1 _, by simpa using blk_set h.hrr 0 (.bool false), blk_far h.hx (p := ⟨gr, 0, none⟩) (Ne.symm n4) _, blk_far h.hy (p := ⟨gr, 0, none⟩) (Ne.symm n5) _, h.hq.store (p := ⟨gr, 0, none⟩) (h.hq.apart h.hrr) _, h.hr.store (p := ⟨gr, 0, none⟩) (h.hr.apart h.hrr) _, h.ho.set (p := ⟨gr, 0, none⟩) (.inr (.inr rfl)) _, h.q0, h.r0⟩
theorem QS.fin {w W : World} {gz gr gx gy : Nat} {A B vx vy : Value} {bq br : Nat} {q r : Int} (h : QS w gz gr gx gy A B vx vy bq br q r W) : IsInt W gz (some bq) q ∧ IsInt W gr (some br) r ∧ Only w W (fun k => k = gz ∨ k = gr) := by
  refine ⟨⟨A, ?_, ?_⟩, ⟨B, ?_, ?_⟩, h.ho⟩
  · rw [decide_eq_false (Int.not_lt.2 (Int.le_of_lt h.q0))]; exact h.hz
  · rw [natAbs_nonneg (Int.le_of_lt h.q0)]; exact h.hq
  · rw [decide_eq_false (Int.not_lt.2 (Int.le_of_lt h.r0))]; exact h.hrr
  · rw [natAbs_nonneg (Int.le_of_lt h.r0)]; exact h.hr
set_option linter.unusedVariables false in
set_option linter.unusedSimpArgs false in
set_option maxRecDepth 100000 in
set_option maxHeartbeats 4000000 in
theorem quoRem_of (gz gx gy gr : Nat) (ox oy : Option Nat) (x y q r : Int) (w : World) (hz : IsInt w gz none 0) (hr : IsInt w gr none 0) (hx : IsInt w gx ox x) (hy : IsInt w gy oy y) (hx0 : 0 < x) (hy0 : 0 < y) (hq0 : 0 < q) (hr0 : 0 < r) (n1 : gz ≠ gr) (n2 : gz ≠ gx) (n3 : gz ≠ gy) (n4 : gr ≠ gx) (n5 : gr ≠ gy)
    (HD : ∀ w vu vv, IsNat w vu ox x → IsNat w vv oy y → Calls Tryz.prog 82 #[.slice none 0 0, .pointer none, .slice none 0 0, vu, vv] w (DivAns w q r)) :
    Calls Tryz.prog 45 #[.pointer (some ⟨gz, 0, none⟩), .pointer (some ⟨gx, 0, none⟩), .pointer (some ⟨gy, 0, none⟩), .pointer (some ⟨gr, 0, none⟩)] w fun e w' => e = .returned (.tuple #[.pointer (some ⟨gz, 0, none⟩), .pointer (some ⟨gr, 0, none⟩)]) ∧ ∃ bq br, IsInt w' gz (some bq) q ∧ IsInt w' gr (some br) r ∧ w.heap.size ≤ bq ∧ w.heap.size ≤ br ∧ Only w w' (fun k => k = gz ∨ k = gr) := by
  obtain ⟨vz, hgz, hnz⟩ := id hz
  obtain ⟨vr, hgr, hnr⟩ := id hr
  obtain ⟨vx, hgx, hnx⟩ := id hx
  obtain ⟨vy, hgy, hny⟩ := id hy
  rw [natAbs_nonneg (by omega)] at hnx hny
  rw [decide_eq_false (by omega)] at hgx hgy
  obtain rfl : vz = .slice none 0 0 := by
    cases hnz with
    | nil => rfl
  obtain rfl : vr = .slice none 0 0 := by
    cases hnr with
    | nil => rfl
  have hH : ∀ w1, Only w.drew w1 (fun _ => False) → w1.heap[gz]? = some (.cells #[.bool false, .slice none 0 0] 87 (0, 0)) ∧ w1.heap[gr]? = some (.cells #[.bool false, .slice none 0 0] 87 (0, 0)) ∧ w1.heap[gx]? = some (.cells #[.bool false, vx] 87 (0, 0)) ∧ w1.heap[gy]? = some (.cells #[.bool false, vy] 87 (0, 0)) := fun w1 ho =>
    ⟨(ho.kept _ (blk_lt hgz) (fun h => h)).trans hgz, (ho.kept _ (blk_lt hgr) (fun h => h)).trans hgr, (ho.kept _ (blk_lt hgx) (fun h => h)).trans hgx, (ho.kept _ (blk_lt hgy) (fun h => h)).trans hgy⟩
  have z1 : w.cell? ⟨gz, 1, none⟩ = some (.slice none 0 0) := blk_cell hgz 1
  have r1 : w.cell? ⟨gr, 1, none⟩ = some (.slice none 0 0) := blk_cell hgr 1
  have x1 : w.cell? ⟨gx, 1, none⟩ = some vx := blk_cell hgx 1
  have y1 : w.cell? ⟨gy, 1, none⟩ = some vy := blk_cell hgy 1
  have K : ∀ w1, Only w.drew w1 (fun _ => False) → w1.cell? ⟨gz, 1, none⟩ = some (.slice none 0 0) ∧ w1.frozen? ⟨gz, 1, none⟩ = false ∧ w1.cell? ⟨gr, 1, none⟩ = some (.slice none 0 0) ∧ w1.frozen? ⟨gr, 1, none⟩ = false ∧ w1.cell? ⟨gx, 1, none⟩ = some vx ∧ w1.cell? ⟨gy, 1, none⟩ = some vy := fun w1 ho => by
    obtain ⟨a, b, c, d⟩ := hH w1 ho
    exact ⟨blk_cell a 1, blk_frozen a 1, blk_cell b 1, blk_frozen b 1, blk_cell c 1, blk_cell d 1⟩
  have HK := Lib.hid K
  have HH := Lib.hid hH
  have HLL : Hid (∀ W, Only w.drew W (fun _ => False) → Calls Tryz.prog 82 #[.slice none 0 0, .pointer none, .slice none 0 0, vx, vy] W (DivAns W q r)) := Lib.hid (fun W h => HD W vx vy (hnx.drew.only h (fun _ _ h => h)) (hny.drew.only h (fun _ _ h => h)))
  have HE : Hid (∀ w1 W bq nq cq br nr cr, Only w.drew w1 (fun _ => False) → IsNat w1 (.slice (some ⟨bq, 0, none⟩) (nq + 1) cq) (some bq) q → IsNat w1 (.slice (some ⟨br, 0, none⟩) (nr + 1) cr) (some br) r → w.heap.size ≤ bq → w.heap.size ≤ br → (W = (w1.setCell ⟨gz, 1, none⟩ (.slice (some ⟨bq, 0, none⟩) (nq + 1) cq)).setCell ⟨gr, 1, none⟩ (.slice (some ⟨br, 0, none⟩) (nr + 1) cr) ∨ W = (w1.setCell ⟨gr, 1, none⟩ (.slice (some ⟨br, 0, none⟩) (nr + 1) cr)).setCell ⟨gz, 1, none⟩ (.slice (some ⟨bq, 0, none⟩) (nq + 1) cq)) → QMid w gz gr q r W) := Lib.hid (fun w1 W bq nq cq br nr cr a b c d e f => q_mid hgz hgr n1 a b c d e f)
  have HX := Lib.hid (And.intro hq0 hr0)
  have HQS : Hid (∀ {wc : World} {A B : Value} {bq br : Nat}, wc.heap[gz]? = some (.cells #[.bool false, A] 87 (0, 0)) → wc.heap[gr]? = some (.cells #[.bool false, B] 87 (0, 0)) → IsNat wc A (some bq) q → IsNat wc B (some br) r → Only w wc (fun k => k = gz ∨ k = gr) → QS w gz gr gx gy A B vx vy bq br q r wc) := Lib.hid (fun a b c d e => ⟨a, b, (e.kept _ (blk_lt hgx) (by rintro (h | h); exact n2 h.symm; exact n4 h.symm)).trans hgx, (e.kept _ (blk_lt hgy) (by rintro (h | h); exact n3 h.symm; exact n5 h.symm)).trans hgy, c, d, e, hq0, hr0⟩)
  clear K hH HD hz hr hx hy hgz hgr hgx hgy hnz hnr hnx hny hx0 hy0 hq0 hr0
  go_enter Tryz.func45, Tryz.ntmps45
  go_upto_region 1 with (fail)
  go_cut [8] (fun v8 wc => QMid w gz gr q r wc)
  case rest =>
    obtain ⟨bq, nq, cq, br, nr, cr, hgz, hgr, hq, hr, hbq, hbr, ho⟩ := hcut
    have HQ := HQS.out hgz hgr hq hr ho
    have p1 : (0 : Int) < nq + 1 := by omega
    have p2 : (0 : Int) < nr + 1 := by omega
    clear HK HH HLL HE HX hgz hgr hq hr ho
    go_wp2_with fail
    refine start_ (S := (fun W => QS w gz gr gx gy (.slice (some ⟨bq, 0, none⟩) (nq + 1) cq) (.slice (some ⟨br, 0, none⟩) (nr + 1) cr) vx vy bq br q r W)) (ds := ([] : List Nat)) #[false, false, false, false, false, false, false, false, false, false, false, false, false, false, false, false, false, false, false, false, false, false, false, false, false, false, false, false, false, false, false, false, false, false, false, false, false] (by kernel_rfl) rfl rfl ?_ (fun hHeld => ?_)
    · exact HQ.drew
    refine pure_ (i := 0) (oi := ?o500) (v := ?v500) #[true, false, false, false, false, false, false, false, false, false, false, false, false, false, false, false, false, false, false, false, false, false, false, false, false, false, false, false, false, false, false, false, false, false, false, false, false] ?h500 rfl (by kernel_rfl) ?q500 (Or.inl ⟨?w500, ?y500⟩) rfl ?r500
    case h500 => (simp only [ga, gb, gc]; rfl)
    case q500 => exact fun _ _ _ h => h
    case w500 => rfl
    case y500 => (intro W; go_simp; first | done | with_reducible rfl)
    simp only [Act.put, zd, ze, zf]
    refine pure_ (i := 1) (oi := ?o501) (v := ?v501) #[true, true, false, false, false, false, false, false, false, false, false, false, false, false, false, false, false, false, false, false, false, false, false, false, false, false, false, false, false, false, false, false, false, false, false, false, false] ?h501 rfl (by kernel_rfl) ?q501 (Or.inl ⟨?w501, ?y501⟩) rfl ?r501
    case h501 => (simp only [ga, gb, gc]; rfl)
    case q501 => exact fun _ _ _ h => h
    case w501 => rfl
    case y501 => (intro W; go_simp; first | done | with_reducible rfl)
    simp only [Act.put, zd, ze, zf]
    refine pure_ (i := 2) (oi := ?o502) (v := ?v502) #[true, true, true, false, false, false, false, false, false, false, false, false, false, false, false, false, false, false, false, false, false, false, false, false, false, false, false, false, false, false, false, false, false, false, false, false, false] ?h502 rfl (by kernel_rfl) ?q502 (Or.inl ⟨?w502, ?y502⟩) rfl ?r502
    case h502 => (simp only [ga, gb, gc]; rfl)
    case q502 => exact fun _ _ _ h => h
    case w502 => rfl
    case y502 => (intro W; go_simp; first | done | with_reducible rfl)
    simp only [Act.put, zd, ze, zf]
    refine pure_ (i := 3) (oi := ?o503) (v := ?v503) #[true, true, true, true, false, false, false, false, false, false, false, false, false, false, false, false, false, false, false, false, false, false, false, false, false, false, false, false, false, false, false, false, false, false, false, false, false] ?h503 rfl (by kernel_rfl) ?q503 (Or.inl ⟨?w503, ?y503⟩) rfl ?r503
    case h503 => (simp only [ga, gb, gc]; rfl)
    case q503 => exact fun _ _ _ h => h
    case w503 => rfl
    case y503 => (intro W; go_simp; first | done | with_reducible rfl)
    simp only [Act.put, zd, ze, zf]
    refine pure_ (i := 4) (oi := ?o504) (v := ?v504) #[true, true, true, true, true, false, false, false, false, false, false, false, false, false, false, false, false, false, false, false, false, false, false, false, false, false, false, false, false, false, false, false, false, false, false, false, false] ?h504 rfl (by kernel_rfl) ?q504 (Or.inl ⟨?w504, ?y504⟩) rfl ?r504
    case h504 => (simp only [ga, gb, gc]; rfl)
    case q504 => exact fun _ _ _ h => h
    case w504 => rfl
    case y504 => (intro W; go_simp; first | done | with_reducible rfl)
    simp only [Act.put, zd, ze, zf]
    refine pure_ (i := 19) (oi := ?o505) (v := ?v505) #[true, true, true, true, true, false, false, false, false, false, false, false, false, false, false, false, false, false, false, true, false, false, false, false, false, false, false, false, false, false, false, false, false, false, false, false, false] ?h505 rfl (by kernel_rfl) ?q505 (Or.inl ⟨?w505, ?y505⟩) rfl ?r505
    case h505 => (simp only [ga, gb, gc]; rfl)
    case q505 => exact fun _ _ _ h => h
    case w505 => rfl
    case y505 => (intro W; go_simp; first | done | with_reducible rfl)
    simp only [Act.put, zd, ze, zf]
    refine pure_ (i := 20) (oi := ?o506) (v := ?v506) #[true, true, true, true, true, false, false, false, false, false, false, false, false, false, false, false, false, false, false, true, true, false, false, false, false, false, false, false, false, false, false, false, false, false, false, false, false] ?h506 rfl (by kernel_rfl) ?q506 (Or.inl ⟨?w506, ?y506⟩) rfl ?r506
    case h506 => (simp only [ga, gb, gc]; rfl)
    case q506 => exact fun _ _ _ h => h
    case w506 => rfl
    case y506 => (intro W; go_simp; first | done | with_reducible rfl)
    simp only [Act.put, zd, ze, zf]
    refine pure_ (i := 21) (oi := ?o507) (v := ?v507) #[true, true, true, true, true, false, false, false, false, false, false, false, false, false, false, false, false, false, false, true, true, true, false, false, false, false, false, false, false, false, false, false, false, false, false, false, false] ?h507 rfl (by kernel_rfl) ?q507 (Or.inl ⟨?w507, ?y507⟩) rfl ?r507
    case h507 => (simp only [ga, gb, gc]; rfl)
    case q507 => exact fun _ _ _ h => h
    case w507 => rfl
    case y507 => (intro W; go_simp; first | done | with_reducible rfl)
    simp only [Act.put, zd, ze, zf]
    refine wpAnyLast_take (i := 5) (oi := ?o508) (v := ?v508) ?h508 (by kernel_rfl) (by kernel_rfl) (by kernel_rfl) (by kernel_rfl) (by kernel_rfl) ?q508 (Or.inl ⟨?w508, ?y508⟩) hHeld ?r508
    case h508 => (simp only [ga, gb, gc]; rfl)
    case q508 => exact fun _ _ _ h => h
    case w508 => rfl
    case y508 => (intro W hSw; obtain ⟨q0, q1, q2, q3, q4, q5, q6, q7⟩ := QS.cells hSw; go_simp; first | done | with_reducible rfl)
    simp only [Act.put, zd, ze, zf]
    refine pure_ (i := 6) (oi := ?o509) (v := ?v509) #[true, true, true, true, true, true, true, false, false, false, false, false, false, false, false, false, false, false, false, true, true, true, false, false, false, false, false, false, false, false, false, false, false, false, false, false, false] ?h509 rfl (by kernel_rfl) ?q509 (Or.inl ⟨?w509, ?y509⟩) rfl ?r509
    case h509 => (simp only [ga, gb, gc]; rfl)
    case q509 => exact fun _ _ _ h => h
    case w509 => rfl
    case y509 => (intro W; go_simp; first | done | with_reducible rfl)
    simp only [Act.put, zd, ze, zf]
    refine pure_ (i := 7) (oi := ?o510) (v := ?v510) #[true, true, true, true, true, true, true, true, false, false, false, false, false, false, false, false, false, false, false, true, true, true, false, false, false, false, false, false, false, false, false, false, false, false, false, false, false] ?h510 rfl (by kernel_rfl) ?q510 (Or.inl ⟨?w510, ?y510⟩) rfl ?r510
    case h510 => (simp only [ga, gb, gc]; rfl)
    case q510 => exact fun _ _ _ h => h
    case w510 => rfl
    case y510 => (intro W; go_simp; first | done | with_reducible rfl)
    simp only [Act.put, zd, ze, zf]
    refine pure_ (i := 8) (oi := ?o511) (v := ?v511) #[true, true, true, true, true, true, true, true, true, false, false, false, false, false, false, false, false, false, false, true, true, true, false, false, false, false, false, false, false, false, false, false, false, false, false, false, false] ?h511 rfl (by kernel_rfl) ?q511 (Or.inl ⟨?w511, ?y511⟩) rfl ?r511
    case h511 => (simp only [ga, gb, gc]; rfl)
    case q511 => exact fun _ _ _ h => h
    case w511 => rfl
    case y511 => (intro W; go_simp; first | done | with_reducible rfl)
    simp only [Act.put, zd, ze, zf]
    refine pure_ (i := 9) (oi := ?o512) (v := ?v512) #[true, true, true, true, true, true, true, true, true, true, false, false, false, false, false, false, false, false, false, true, true, true, false, false, false, false, false, false, false, false, false, false, false, false, false, false, false] ?h512 rfl (by kernel_rfl) ?q512 (Or.inl ⟨?w512, ?y512⟩) rfl ?r512
    case h512 => (simp only [ga, gb, gc]; rfl)
    case q512 => exact fun _ _ _ h => h
    case w512 => rfl
    case y512 => (intro W; go_simp; first | done | with_reducible rfl)
    simp only [Act.put, zd, ze, zf]
    refine pure_ (i := 10) (oi := ?o513) (v := ?v513) #[true, true, true, true, true, true, true, true, true, true, true, false, false, false, false, false, false, false, false, true, true, true, false, false, false, false, false, false, false, false, false, false, false, false, false, false, false] ?h513 rfl (by kernel_rfl) ?q513 (Or.inl ⟨?w513, ?y513⟩) rfl ?r513
    case h513 => (simp only [ga, gb, gc]; rfl)
    case q513 => exact fun _ _ _ h => h
    case w513 => rfl
    case y513 => (intro W; go_simp; first | done | with_reducible rfl)
    simp only [Act.put, zd, ze, zf]
    refine pure_ (i := 11) (oi := ?o514) (v := ?v514) #[true, true, true, true, true, true, true, true, true, true, true, true, false, false, false, false, false, false, false, true, true, true, false, false, false, false, false, false, false, false, false, false, false, false, false, false, false] ?h514 rfl (by kernel_rfl) ?q514 (Or.inl ⟨?w514, ?y514⟩) rfl ?r514
    case h514 => (simp only [ga, gb, gc]; rfl)
    case q514 => exact fun _ _ _ h => h
    case w514 => rfl
    case y514 => (intro W; go_simp; first | done | with_reducible rfl)
    simp only [Act.put, zd, ze, zf]
    refine pure_ (i := 13) (oi := ?o515) (v := ?v515) #[true, true, true, true, true, true, true, true, true, true, true, true, false, true, false, false, false, false, false, true, true, true, false, false, false, false, false, false, false, false, false, false, false, false, false, false, false] ?h515 rfl (by kernel_rfl) ?q515 (Or.inl ⟨?w515, ?y515⟩) rfl ?r515
    case h515 => (simp only [ga, gb, gc]; rfl)
    case q515 => exact fun _ _ _ h => h
    case w515 => rfl
    case y515 => (intro W; go_simp; first | done | with_reducible rfl)
    simp only [Act.put, zd, ze, zf]
    refine pure_ (i := 14) (oi := ?o516) (v := ?v516) #[true, true, true, true, true, true, true, true, true, true, true, true, false, true, true, false, false, false, false, true, true, true, false, false, false, false, false, false, false, false, false, false, false, false, false, false, false] ?h516 rfl (by kernel_rfl) ?q516 (Or.inl ⟨?w516, ?y516⟩) rfl ?r516
    case h516 => (simp only [ga, gb, gc]; rfl)
    case q516 => exact fun _ _ _ h => h
    case w516 => rfl
    case y516 => (intro W; go_simp; first | done | with_reducible rfl)
    simp only [Act.put, zd, ze, zf]
    refine pure_ (i := 15) (oi := ?o517) (v := ?v517) #[true, true, true, true, true, true, true, true, true, true, true, true, false, true, true, true, false, false, false, true, true, true, false, false, false, false, false, false, false, false, false, false, false, false, false, false, false] ?h517 rfl (by kernel_rfl) ?q517 (Or.inl ⟨?w517, ?y517⟩) rfl ?r517
    case h517 => (simp only [ga, gb, gc]; rfl)
    case q517 => exact fun _ _ _ h => h
    case w517 => rfl
    case y517 => (intro W; go_simp; first | done | with_reducible rfl)
    simp only [Act.put, zd, ze, zf]
    refine wpAnyLast_take (i := 12) (oi := ?o518) (v := ?v518) ?h518 (by kernel_rfl) (by kernel_rfl) (by kernel_rfl) (by kernel_rfl) (by kernel_rfl) ?q518 (Or.inl ⟨?w518, ?y518⟩) hHeld ?r518
    case h518 => (simp only [ga, gb, gc]; rfl)
    case q518 => exact fun _ _ _ h => h
    case w518 => rfl
    case y518 => (intro W hSw; obtain ⟨q0, q1, q2, q3, q4, q5, q6, q7⟩ := QS.cells hSw; go_simp; first | done | with_reducible rfl)
    simp only [Act.put, zd, ze, zf]
    refine wpAnyLast_take (i := 16) (oi := ?o519) (v := ?v519) ?h519 (by kernel_rfl) (by kernel_rfl) (by kernel_rfl) (by kernel_rfl) (by kernel_rfl) ?q519 (Or.inl ⟨?w519, ?y519⟩) hHeld ?r519
    case h519 => (simp only [ga, gb, gc]; rfl)
    case q519 => exact fun _ _ _ h => h
    case w519 => rfl
    case y519 => (intro W hSw; obtain ⟨q0, q1, q2, q3, q4, q5, q6, q7⟩ := QS.cells hSw; go_simp; first | done | with_reducible rfl)
    simp only [Act.put, zd, ze, zf]
    refine pure_ (i := 17) (oi := ?o520) (v := ?v520) #[true, true, true, true, true, true, true, true, true, true, true, true, true, true, true, true, true, true, false, true, true, true, false, false, false, false, false, false, false, false, false, false, false, false, false, false, false] ?h520 rfl (by kernel_rfl) ?q520 (Or.inl ⟨?w520, ?y520⟩) rfl ?r520
    case h520 => (simp only [ga, gb, gc]; rfl)
    case q520 => exact fun _ _ _ h => h
    case w520 => rfl
    case y520 => (intro W; go_simp; first | done | with_reducible rfl)
    simp only [Act.put, zd, ze, zf]
    refine pure_ (i := 18) (oi := ?o521) (v := ?v521) #[true, true, true, true, true, true, true, true, true, true, true, true, true, true, true, true, true, true, true, true, true, true, false, false, false, false, false, false, false, false, false, false, false, false, false, false, false] ?h521 rfl (by kernel_rfl) ?q521 (Or.inl ⟨?w521, ?y521⟩) rfl ?r521
    case h521 => (simp only [ga, gb, gc]; rfl)
    case q521 => exact fun _ _ _ h => h
    case w521 => rfl
    case y521 => (intro W; go_simp; first | done | with_reducible rfl)
    simp only [Act.put, zd, ze, zf]
    refine wpAnyLast_take (i := 22) (oi := ?o522) (v := ?v522) ?h522 (by kernel_rfl) (by kernel_rfl) (by kernel_rfl) (by kernel_rfl) (by kernel_rfl) ?q522 (Or.inl ⟨?w522, ?y522⟩) hHeld ?r522
    case h522 => (simp only [ga, gb, gc]; rfl)
    case q522 => exact fun _ _ _ h => h
    case w522 => rfl
    case y522 => (intro W hSw; obtain ⟨q0, q1, q2, q3, q4, q5, q6, q7⟩ := QS.cells hSw; go_simp; first | done | with_reducible rfl)
    simp only [Act.put, zd, ze, zf]
    refine pure_ (i := 23) (oi := ?o523) (v := ?v523) #[true, true, true, true, true, true, true, true, true, true, true, true, true, true, true, true, true, true, true, true, true, true, true, true, false, false, false, false, false, false, false, false, false, false, false, false, false] ?h523 rfl (by kernel_rfl) ?q523 (Or.inl ⟨?w523, ?y523⟩) rfl ?r523
    case h523 => (simp only [ga, gb, gc]; rfl)
    case q523 => exact fun _ _ _ h => h
    case w523 => rfl
    case y523 => (intro W; go_simp; first | done | with_reducible rfl)
    simp only [Act.put, zd, ze, zf]
    refine pure_ (i := 24) (oi := ?o524) (v := ?v524) #[true, true, true, true, true, true, true, true, true, true, true, true, true, true, true, true, true, true, true, true, true, true, true, true, true, false, false, false, false, false, false, false, false, false, false, false, false] ?h524 rfl (by kernel_rfl) ?q524 (Or.inl ⟨?w524, ?y524⟩) rfl ?r524
    case h524 => (simp only [ga, gb, gc]; rfl)
    case q524 => exact fun _ _ _ h => h
    case w524 => rfl
    case y524 => (intro W; go_simp; first | done | with_reducible rfl)
    simp only [Act.put, zd, ze, zf]
    refine pure_ (i := 25) (oi := ?o525) (v := ?v525) #[true, true, true, true, true, true, true, true, true, true, true, true, true, true, true, true, true, true, true, true, true, true, true, true, true, true, false, false, false, false, false, false, false, false, false, false, false] ?h525 rfl (by kernel_rfl) ?q525 (Or.inl ⟨?w525, ?y525⟩) rfl ?r525
    case h525 => (simp only [ga, gb, gc]; rfl)
    case q525 => exact fun _ _ _ h => h
    case w525 => rfl
    case y525 => (intro W; go_simp; first | done | with_reducible rfl)
    simp only [Act.put, zd, ze, zf]
    refine pure_ (i := 26) (oi := ?o526) (v := ?v526) #[true, true, true, true, true, true, true, true, true, true, true, true, true, true, true, true, true, true, true, true, true, true, true, true, true, true, true, false, false, false, false, false, false, false, false, false, false] ?h526 rfl (by kernel_rfl) ?q526 (Or.inl ⟨?w526, ?y526⟩) rfl ?r526
    case h526 => (simp only [ga, gb, gc]; rfl)
    case q526 => exact fun _ _ _ h => h
    case w526 => rfl
    case y526 => (intro W; go_simp; first | done | with_reducible rfl)
    simp only [Act.put, zd, ze, zf]
    refine pure_ (i := 27) (oi := ?o527) (v := ?v527) #[true, true, true, true, true, true, true, true, true, true, true, true, true, true, true, true, true, true, true, true, true, true, true, true, true, true, true, true, false, false, false, false, false, false, false, false, false] ?h527 rfl (by kernel_rfl) ?q527 (Or.inl ⟨?w527, ?y527⟩) rfl ?r527
    case h527 => (simp only [ga, gb, gc]; rfl)
    case q527 => exact fun _ _ _ h => h
    case w527 => rfl
    case y527 => (intro W; go_simp; first | done | with_reducible rfl)
    simp only [Act.put, zd, ze, zf]
    refine pure_ (i := 28) (oi := ?o528) (v := ?v528) #[true, true, true, true, true, true, true, true, true, true, true, true, true, true, true, true, true, true, true, true, true, true, true, true, true, true, true, true, true, false, false, false, false, false, false, false, false] ?h528 rfl (by kernel_rfl) ?q528 (Or.inl ⟨?w528, ?y528⟩) rfl ?r528
    case h528 => (simp only [ga, gb, gc]; rfl)
    case q528 => exact fun _ _ _ h => h
    case w528 => rfl
    case y528 => (intro W; go_simp; first | done | with_reducible rfl)
    simp only [Act.put, zd, ze, zf]
    refine wpAnyLast_take (i := 29) (oi := ?o529) (v := ?v529) ?h529 (by kernel_rfl) (by kernel_rfl) (by kernel_rfl) (by kernel_rfl) (by kernel_rfl) ?q529 (Or.inl ⟨?w529, ?y529⟩) hHeld ?r529
    case h529 => (simp only [ga, gb, gc]; rfl)
    case q529 => exact fun _ _ _ h => h
    case w529 => rfl
    case y529 => (intro W hSw; obtain ⟨q0, q1, q2, q3, q4, q5, q6, q7⟩ := QS.cells hSw; go_simp; first | done | with_reducible rfl)
    simp only [Act.put, zd, ze, zf]
    refine pure_ (i := 30) (oi := ?o530) (v := ?v530) #[true, true, true, true, true, true, true, true, true, true, true, true, true, true, true, true, true, true, true, true, true, true, true, true, true, true, true, true, true, true, true, false, false, false, false, false, false] ?h530 rfl (by kernel_rfl) ?q530 (Or.inl ⟨?w530, ?y530⟩) rfl ?r530
    case h530 => (simp only [ga, gb, gc]; rfl)
    case q530 => exact fun _ _ _ h => h
    case w530 => rfl
    case y530 => (intro W; go_simp; first | done | with_reducible rfl)
    simp only [Act.put, zd, ze, zf]
    refine pure_ (i := 31) (oi := ?o531) (v := ?v531) #[true, true, true, true, true, true, true, true, true, true, true, true, true, true, true, true, true, true, true, true, true, true, true, true, true, true, true, true, true, true, true, true, false, false, false, false, false] ?h531 rfl (by kernel_rfl) ?q531 (Or.inl ⟨?w531, ?y531⟩) rfl ?r531
    case h531 => (simp only [ga, gb, gc]; rfl)
    case q531 => exact fun _ _ _ h => h
    case w531 => rfl
    case y531 => (intro W; go_simp; first | done | with_reducible rfl)
    simp only [Act.put, zd, ze, zf]
    refine pure_ (i := 32) (oi := ?o532) (v := ?v532) #[true, true, true, true, true, true, true, true, true, true, true, true, true, true, true, true, true, true, true, true, true, true, true, true, true, true, true, true, true, true, true, true, true, false, false, false, false] ?h532 rfl (by kernel_rfl) ?q532 (Or.inl ⟨?w532, ?y532⟩) rfl ?r532
    case h532 => (simp only [ga, gb, gc]; rfl)
    case q532 => exact fun _ _ _ h => h
    case w532 => rfl
    case y532 => (intro W; go_simp; first | done | with_reducible rfl)
    simp only [Act.put, zd, ze, zf]
    refine wpAnyLast_ready (rs := [33]) (by kernel_rfl) (by simp) ?_
    refine AllReadyL.cons (o := ?o533) ?h533 (by simp) (fun K hK => ?s533) ?m533
    case h533 => (simp only [ga, gb, gc]; rfl)
    case m533 => exact AllReadyL.nil
    go_simp
    obtain ⟨q0, q1, q2, q3, q4, q5, q6, q7⟩ := QS.cells HQ
    go_simp
    refine hK.out _ _ (hHeld.keepz n1 n2 n3) (fun hHeld => ?_)
    clear hK K
    simp only [Act.put, zd, ze, zf]
    refine pure_ (i := 34) (oi := ?o534) (v := ?v534) #[true, true, true, true, true, true, true, true, true, true, true, true, true, true, true, true, true, true, true, true, true, true, true, true, true, true, true, true, true, true, true, true, true, true, true, false, false] ?h534 rfl (by kernel_rfl) ?q534 (Or.inl ⟨?w534, ?y534⟩) rfl ?r534
    case h534 => (simp only [ga, gb, gc]; rfl)
    case q534 => exact fun _ _ _ h => h
    case w534 => rfl
    case y534 => (intro W; go_simp; first | done | with_reducible rfl)
    simp only [Act.put, zd, ze, zf]
    refine pure_ (i := 35) (oi := ?o535) (v := ?v535) #[true, true, true, true, true, true, true, true, true, true, true, true, true, true, true, true, true, true, true, true, true, true, true, true, true, true, true, true, true, true, true, true, true, true, true, true, false] ?h535 rfl (by kernel_rfl) ?q535 (Or.inl ⟨?w535, ?y535⟩) rfl ?r535
    case h535 => (simp only [ga, gb, gc]; rfl)
    case q535 => exact fun _ _ _ h => h
    case w535 => rfl
    case y535 => (intro W; go_simp; first | done | with_reducible rfl)
    simp only [Act.put, zd, ze, zf]
    refine wpAnyLast_ready (rs := [36]) (by kernel_rfl) (by simp) ?_
    refine AllReadyL.cons (o := ?o536) ?h536 (by simp) (fun K hK => ?s536) ?m536
    case h536 => (simp only [ga, gb, gc]; rfl)
    case m536 => exact AllReadyL.nil
    go_simp
    obtain ⟨q0, q1, q2, q3, q4, q5, q6, q7⟩ := QS.cells HQ
    go_simp
    refine hK.out _ _ (hHeld.keepr n1 n4 n5) (fun hHeld => ?_)
    clear hK K
    simp only [Act.put, zd, ze, zf]
    refine done_ (by kernel_rfl) ?_
    go_wp2_with fail
    go_ret2
    obtain ⟨e1, e2, e3⟩ := hHeld.fin
    exact ⟨rfl, bq, br, e1, e2, hbq, hbr, e3⟩
  case first =>
  refine start_ (S := (fun W => Only w.drew W (fun _ => False))) (ds := [24, 27]) #[false, false, false, false, false, false, false, false, false, false, false, false, false, false, false, false, false, false, false, false, false, false, false, false, false, false, false, false] (by kernel_rfl) rfl rfl ?_ (fun hHeld => ?_)
  · exact Only.refl _ _
  refine pure_ (i := 0) (oi := ?o0) (v := ?v0) #[true, false, false, false, false, false, false, false, false, false, false, false, false, false, false, false, false, false, false, false, false, false, false, false, false, false, false, false] ?h0 rfl (by kernel_rfl) ?q0 (Or.inl ⟨?w0, ?y0⟩) rfl ?r0
  case h0 => (simp only [ga, gb, gc]; rfl)
  case q0 => exact fun _ _ _ h => h
  case w0 => rfl
  case y0 => (intro W; go_simp; first | done | with_reducible rfl)
  simp only [Act.put, zd, ze, zf]
  refine pure_ (i := 1) (oi := ?o1) (v := ?v1) #[true, true, false, false, false, false, false, false, false, false, false, false, false, false, false, false, false, false, false, false, false, false, false, false, false, false, false, false] ?h1 rfl (by kernel_rfl) ?q1 (Or.inl ⟨?w1, ?y1⟩) rfl ?r1
  case h1 => (simp only [ga, gb, gc]; rfl)
  case q1 => exact fun _ _ _ h => h
  case w1 => rfl
  case y1 => (intro W; go_simp; first | done | with_reducible rfl)
  simp only [Act.put, zd, ze, zf]
  refine pure_ (i := 2) (oi := ?o2) (v := ?v2) #[true, true, true, false, false, false, false, false, false, false, false, false, false, false, false, false, false, false, false, false, false, false, false, false, false, false, false, false] ?h2 rfl (by kernel_rfl) ?q2 (Or.inl ⟨?w2, ?y2⟩) rfl ?r2
  case h2 => (simp only [ga, gb, gc]; rfl)
  case q2 => exact fun _ _ _ h => h
  case w2 => rfl
  case y2 => (intro W; go_simp; first | done | with_reducible rfl)
  simp only [Act.put, zd, ze, zf]
  refine pure_ (i := 3) (oi := ?o3) (v := ?v3) #[true, true, true, true, false, false, false, false, false, false, false, false, false, false, false, false, false, false, false, false, false, false, false, false, false, false, false, false] ?h3 rfl (by kernel_rfl) ?q3 (Or.inl ⟨?w3, ?y3⟩) rfl ?r3
  case h3 => (simp only [ga, gb, gc]; rfl)
  case q3 => exact fun _ _ _ h => h
  case w3 => rfl
  case y3 => (intro W; go_simp; first | done | with_reducible rfl)
  simp only [Act.put, zd, ze, zf]
  refine pure_ (i := 4) (oi := ?o4) (v := ?v4) #[true, true, true, true, true, false, false, false, false, false, false, false, false, false, false, false, false, false, false, false, false, false, false, false, false, false, false, false] ?h4 rfl (by kernel_rfl) ?q4 (Or.inl ⟨?w4, ?y4⟩) rfl ?r4
  case h4 => (simp only [ga, gb, gc]; rfl)
  case q4 => exact fun _ _ _ h => h
  case w4 => rfl
  case y4 => (intro W; go_simp; first | done | with_reducible rfl)
  simp only [Act.put, zd, ze, zf]
  refine pure_ (i := 6) (oi := ?o5) (v := ?v5) #[true, true, true, true, true, false, true, false, false, false, false, false, false, false, false, false, false, false, false, false, false, false, false, false, false, false, false, false] ?h5 rfl (by kernel_rfl) ?q5 (Or.inl ⟨?w5, ?y5⟩) rfl ?r5
  case h5 => (simp only [ga, gb, gc]; rfl)
  case q5 => exact fun _ _ _ h => h
  case w5 => rfl
  case y5 => (intro W; go_simp; first | done | with_reducible rfl)
  simp only [Act.put, zd, ze, zf]
  refine pure_ (i := 7) (oi := ?o6) (v := ?v6) #[true, true, true, true, true, false, true, true, false, false, false, false, false, false, false, false, false, false, false, false, false, false, false, false, false, false, false, false] ?h6 rfl (by kernel_rfl) ?q6 (Or.inl ⟨?w6, ?y6⟩) rfl ?r6
  case h6 => (simp only [ga, gb, gc]; rfl)
  case q6 => exact fun _ _ _ h => h
  case w6 => rfl
  case y6 => (intro W; go_simp; first | done | with_reducible rfl)
  simp only [Act.put, zd, ze, zf]
  refine pure_ (i := 8) (oi := ?o7) (v := ?v7) #[true, true, true, true, true, false, true, true, true, false, false, false, false, false, false, false, false, false, false, false, false, false, false, false, false, false, false, false] ?h7 rfl (by kernel_rfl) ?q7 (Or.inl ⟨?w7, ?y7⟩) rfl ?r7
  case h7 => (simp only [ga, gb, gc]; rfl)
  case q7 => exact fun _ _ _ h => h
  case w7 => rfl
  case y7 => (intro W; go_simp; first | done | with_reducible rfl)
  simp only [Act.put, zd, ze, zf]
  refine pure_ (i := 10) (oi := ?o8) (v := ?v8) #[true, true, true, true, true, false, true, true, true, false, true, false, false, false, false, false, false, false, false, false, false, false, false, false, false, false, false, false] ?h8 rfl (by kernel_rfl) ?q8 (Or.inl ⟨?w8, ?y8⟩) rfl ?r8
  case h8 => (simp only [ga, gb, gc]; rfl)
  case q8 => exact fun _ _ _ h => h
  case w8 => rfl
  case y8 => (intro W; go_simp; first | done | with_reducible rfl)
  simp only [Act.put, zd, ze, zf]
  refine pure_ (i := 11) (oi := ?o9) (v := ?v9) #[true, true, true, true, true, false, true, true, true, false, true, true, false, false, false, false, false, false, false, false, false, false, false, false, false, false, false, false] ?h9 rfl (by kernel_rfl) ?q9 (Or.inl ⟨?w9, ?y9⟩) rfl ?r9
  case h9 => (simp only [ga, gb, gc]; rfl)
  case q9 => exact fun _ _ _ h => h
  case w9 => rfl
  case y9 => (intro W; go_simp; first | done | with_reducible rfl)
  simp only [Act.put, zd, ze, zf]
  refine pure_ (i := 12) (oi := ?o10) (v := ?v10) #[true, true, true, true, true, false, true, true, true, false, true, true, true, false, false, false, false, false, false, false, false, false, false, false, false, false, false, false] ?h10 rfl (by kernel_rfl) ?q10 (Or.inl ⟨?w10, ?y10⟩) rfl ?r10
  case h10 => (simp only [ga, gb, gc]; rfl)
  case q10 => exact fun _ _ _ h => h
  case w10 => rfl
  case y10 => (intro W; go_simp; first | done | with_reducible rfl)
  simp only [Act.put, zd, ze, zf]
  refine pure_ (i := 14) (oi := ?o11) (v := ?v11) #[true, true, true, true, true, false, true, true, true, false, true, true, true, false, true, false, false, false, false, false, false, false, false, false, false, false, false, false] ?h11 rfl (by kernel_rfl) ?q11 (Or.inl ⟨?w11, ?y11⟩) rfl ?r11
  case h11 => (simp only [ga, gb, gc]; rfl)
  case q11 => exact fun _ _ _ h => h
  case w11 => rfl
  case y11 => (intro W; go_simp; first | done | with_reducible rfl)
  simp only [Act.put, zd, ze, zf]
  refine pure_ (i := 15) (oi := ?o12) (v := ?v12) #[true, true, true, true, true, false, true, true, true, false, true, true, true, false, true, true, false, false, false, false, false, false, false, false, false, false, false, false] ?h12 rfl (by kernel_rfl) ?q12 (Or.inl ⟨?w12, ?y12⟩) rfl ?r12
  case h12 => (simp only [ga, gb, gc]; rfl)
  case q12 => exact fun _ _ _ h => h
  case w12 => rfl
  case y12 => (intro W; go_simp; first | done | with_reducible rfl)
  simp only [Act.put, zd, ze, zf]
  refine pure_ (i := 16) (oi := ?o13) (v := ?v13) #[true, true, true, true, true, false, true, true, true, false, true, true, true, false, true, true, true, false, false, false, false, false, false, false, false, false, false, false] ?h13 rfl (by kernel_rfl) ?q13 (Or.inl ⟨?w13, ?y13⟩) rfl ?r13
  case h13 => (simp only [ga, gb, gc]; rfl)
  case q13 => exact fun _ _ _ h => h
  case w13 => rfl
  case y13 => (intro W; go_simp; first | done | with_reducible rfl)
  simp only [Act.put, zd, ze, zf]
  refine wpAnyLast_take (i := 5) (oi := ?o14) (v := ?v14) ?h14 (by kernel_rfl) (by kernel_rfl) (by kernel_rfl) (by kernel_rfl) (by kernel_rfl) ?q14 (Or.inl ⟨?w14, ?y14⟩) hHeld ?r14
  case h14 => (simp only [ga, gb, gc]; rfl)
  case q14 => exact fun _ _ _ h => h
  case w14 => rfl
  case y14 => (intro W hSw; obtain ⟨q0, q1, q2, q3, q4, q5⟩ := HK.out _ hSw; go_simp; first | done | with_reducible rfl)
  simp only [Act.put, zd, ze, zf]
  refine wpAnyLast_take (i := 9) (oi := ?o15) (v := ?v15) ?h15 (by kernel_rfl) (by kernel_rfl) (by kernel_rfl) (by kernel_rfl) (by kernel_rfl) ?q15 (Or.inl ⟨?w15, ?y15⟩) hHeld ?r15
  case h15 => (simp only [ga, gb, gc]; rfl)
  case q15 => exact fun _ _ _ h => h
  case w15 => rfl
  case y15 => (intro W hSw; obtain ⟨q0, q1, q2, q3, q4, q5⟩ := HK.out _ hSw; go_simp; first | done | with_reducible rfl)
  simp only [Act.put, zd, ze, zf]
  refine wpAnyLast_take (i := 13) (oi := ?o16) (v := ?v16) ?h16 (by kernel_rfl) (by kernel_rfl) (by kernel_rfl) (by kernel_rfl) (by kernel_rfl) ?q16 (Or.inl ⟨?w16, ?y16⟩) hHeld ?r16
  case h16 => (simp only [ga, gb, gc]; rfl)
  case q16 => exact fun _ _ _ h => h
  case w16 => rfl
  case y16 => (intro W hSw; obtain ⟨q0, q1, q2, q3, q4, q5⟩ := HK.out _ hSw; go_simp; first | done | with_reducible rfl)
  simp only [Act.put, zd, ze, zf]
  refine wpAnyLast_take (i := 17) (oi := ?o17) (v := ?v17) ?h17 (by kernel_rfl) (by kernel_rfl) (by kernel_rfl) (by kernel_rfl) (by kernel_rfl) ?q17 (Or.inl ⟨?w17, ?y17⟩) hHeld ?r17
  case h17 => (simp only [ga, gb, gc]; rfl)
  case q17 => exact fun _ _ _ h => h
  case w17 => rfl
  case y17 => (intro W hSw; obtain ⟨q0, q1, q2, q3, q4, q5⟩ := HK.out _ hSw; go_simp; first | done | with_reducible rfl)
  simp only [Act.put, zd, ze, zf]
  refine wpAnyLast_ready (rs := [18]) (by kernel_rfl) (by simp) ?_
  refine AllReadyL.cons (o := ?o18) ?h18 (by simp) (fun K hK => ?s18) ?m18
  case h18 => (simp only [ga, gb, gc]; rfl)
  case m18 => exact AllReadyL.nil
  go_simp
  go_at_call 82
  refine (HLL.out _ hHeld).mono ?_
  rintro en w1 ⟨vq, bq, vr, br, rfl, hq, hr, hbq, hbr, ho⟩
  obtain ⟨nq, cq, rfl⟩ := nat_some hq HX.out.1
  obtain ⟨nr, cr, rfl⟩ := nat_some hr HX.out.2
  have hoA := Only.trans hHeld ho
  have hsz := hHeld.base.size
  refine hK.out _ _ (hoA) (fun hHeld => ?_)
  clear hK K
  simp only [Act.put, zd, ze, zf]
  refine pure_ (i := 19) (oi := ?o19) (v := ?v19) #[true, true, true, true, true, true, true, true, true, true, true, true, true, true, true, true, true, true, true, true, false, false, false, false, false, false, false, false] ?h19 rfl (by kernel_rfl) ?q19 (Or.inl ⟨?w19, ?y19⟩) rfl ?r19
  case h19 => (simp only [ga, gb, gc]; rfl)
  case q19 => exact fun _ _ _ h => h
  case w19 => rfl
  case y19 => (intro W; go_simp; first | done | with_reducible rfl)
  simp only [Act.put, zd, ze, zf]
  refine pure_ (i := 20) (oi := ?o20) (v := ?v20) #[true, true, true, true, true, true, true, true, true, true, true, true, true, true, true, true, true, true, true, true, true, false, false, false, false, false, false, false] ?h20 rfl (by kernel_rfl) ?q20 (Or.inl ⟨?w20, ?y20⟩) rfl ?r20
  case h20 => (simp only [ga, gb, gc]; rfl)
  case q20 => exact fun _ _ _ h => h
  case w20 => rfl
  case y20 => (intro W; go_simp; first | done | with_reducible rfl)
  simp only [Act.put, zd, ze, zf]
  refine pure_ (i := 21) (oi := ?o21) (v := ?v21) #[true, true, true, true, true, true, true, true, true, true, true, true, true, true, true, true, true, true, true, true, true, true, false, false, false, false, false, false] ?h21 rfl (by kernel_rfl) ?q21 (Or.inl ⟨?w21, ?y21⟩) rfl ?r21
  case h21 => (simp only [ga, gb, gc]; rfl)
  case q21 => exact fun _ _ _ h => h
  case w21 => rfl
  case y21 => (intro W; go_simp; first | done | with_reducible rfl)
  simp only [Act.put, zd, ze, zf]
  refine pure_ (i := 22) (oi := ?o22) (v := ?v22) #[true, true, true, true, true, true, true, true, true, true, true, true, true, true, true, true, true, true, true, true, true, true, true, false, false, false, false, false] ?h22 rfl (by kernel_rfl) ?q22 (Or.inl ⟨?w22, ?y22⟩) rfl ?r22
  case h22 => (simp only [ga, gb, gc]; rfl)
  case q22 => exact fun _ _ _ h => h
  case w22 => rfl
  case y22 => (intro W; go_simp; first | done | with_reducible rfl)
  simp only [Act.put, zd, ze, zf]
  refine pure_ (i := 23) (oi := ?o23) (v := ?v23) #[true, true, true, true, true, true, true, true, true, true, true, true, true, true, true, true, true, true, true, true, true, true, true, true, false, false, false, false] ?h23 rfl (by kernel_rfl) ?q23 (Or.inl ⟨?w23, ?y23⟩) rfl ?r23
  case h23 => (simp only [ga, gb, gc]; rfl)
  case q23 => exact fun _ _ _ h => h
  case w23 => rfl
  case y23 => (intro W; go_simp; first | done | with_reducible rfl)
  simp only [Act.put, zd, ze, zf]
  refine wpAnyLast_ready (rs := [24]) (by kernel_rfl) (by simp) ?_
  refine AllReadyL.cons_last (o := ?o24) ?h24 (by simp) (fun K hK => ?s24) ?m24
  case h24 => (simp only [ga, gb, gc]; rfl)
  case m24 => exact AllReadyL.nil
  obtain ⟨q0, q1, q2, q3, q4, q5⟩ := HK.out _ hHeld; go_simp
  refine hK.out _ _ ?_
  clear hK K
  simp only [Act.put, zd, ze, zf]
  refine pure_ (i := 25) (oi := ?o25) (v := ?v25) #[true, true, true, true, true, true, true, true, true, true, true, true, true, true, true, true, true, true, true, true, true, true, true, true, true, true, false, false] ?h25 rfl (by kernel_rfl) ?q25 (Or.inl ⟨?w25, ?y25⟩) rfl ?r25
  case h25 => (simp only [ga, gb, gc]; rfl)
  case q25 => exact fun _ _ _ h => h
  case w25 => rfl
  case y25 => (intro W; go_simp; first | done | with_reducible rfl)
  simp only [Act.put, zd, ze, zf]
  refine pure_ (i := 26) (oi := ?o26) (v := ?v26) #[true, true, true, true, true, true, true, true, true, true, true, true, true, true, true, true, true, true, true, true, true, true, true, true, true, true, true, false] ?h26 rfl (by kernel_rfl) ?q26 (Or.inl ⟨?w26, ?y26⟩) rfl ?r26
  case h26 => (simp only [ga, gb, gc]; rfl)
  case q26 => exact fun _ _ _ h => h
  case w26 => rfl
  case y26 => (intro W; go_simp; first | done | with_reducible rfl)
  simp only [Act.put, zd, ze, zf]
  refine wpAnyLast_ready (rs := [27]) (by kernel_rfl) (by simp) ?_
  refine AllReadyL.cons_last (o := ?o27) ?h27 (by simp) (fun K hK => ?s27) ?m27
  case h27 => (simp only [ga, gb, gc]; rfl)
  case m27 => exact AllReadyL.nil
  obtain ⟨q0, q1, q2, q3, q4, q5⟩ := HK.out _ hHeld; go_simp
  refine hK.out _ _ ?_
  clear hK K
  simp only [Act.put, zd, ze, zf]
  refine done_ (by kernel_rfl) ?_
  go_wp2_with fail
  go_meet
  case rel =>
    refine HE.out _ _ _ _ _ _ _ _ hoA hq hr (Nat.le_trans hsz hbq) (Nat.le_trans hsz hbr) ?_
    first | exact .inl rfl | exact .inr rfl
set_option maxRecDepth 100000 in
set_option maxHeartbeats 4000000 in
theorem setExp_a (f b c : Nat) (ys : List Int) (a fm e0 ex : Int) (w : World) (hf : w.heap[f]? = some (.cells (fl 65 a fm false (.slice (some ⟨b, 0, none⟩) 2 c) e0) 119 (0, 0))) (hb : Blk w b ys) (hn : 2 ≤ ys.length) (h0 : ys.getD 0 0 = 9223372036854775808) (hx0 : -2147483648 ≤ ex) (hx1 : ex ≤ 2147483647) :
    Calls Tryz.prog 95 #[.pointer (some ⟨f, 0, none⟩), .int .i64 ex, .int .u64 0] w fun en w' => en = .returned (.tuple #[]) ∧ w'.heap[f]? = some (.cells (fl 65 0 1 false (.slice (some ⟨b, 0, none⟩) 2 c) ex) 119 (0, 0)) ∧ Blk w' b (ys.set 0 9223372036854775808) ∧ Only w w' (fun k => k = f ∨ k = b) := by
  have hw : IntKind.i32.wrap ex = ex := by rw [IntKind.wrap_i32]; omega
  have c3 : w.cell? ⟨f, 3, none⟩ = some (.int .u8 fm) := blk_cell hf 3
  have c6 : w.cell? ⟨f, 6, none⟩ = some (.int .i32 e0) := blk_cell hf 6
  have f3 := blk_frozen hf 3
  have f6 := blk_frozen hf 6
  have hne : f ≠ b := blk_ne hf hb (by decide)
  have hb1 : Blk ((w.setCell ⟨f, 3, none⟩ (.int .u8 1)).setCell ⟨f, 6, none⟩ (.int .i32 ex)) b ys := blk_far (blk_far hb (p := ⟨f, 3, none⟩) (Ne.symm hne) _) (p := ⟨f, 6, none⟩) (Ne.symm hne) _
  have hf1 : ((w.setCell ⟨f, 3, none⟩ (.int .u8 1)).setCell ⟨f, 6, none⟩ (.int .i32 ex)).heap[f]? = some (.cells (fl 65 a 1 false (.slice (some ⟨b, 0, none⟩) 2 c) ex) 119 (0, 0)) := by simpa [fl] using blk_set (blk_set hf 3 (.int .u8 1)) 6 (.int .i32 ex)
  have ho := ((Only.refl w (fun k => k = f ∨ k = b)).set (p := ⟨f, 3, none⟩) (.inr (.inl rfl)) (.int .u8 1)).set (p := ⟨f, 6, none⟩) (.inr (.inl rfl)) (.int .i32 ex)
  have HR := Lib.hid (round_a f b c ys a ex _ hf1 hb1 hn h0)
  have HO := Lib.hid ho
  clear hf hb hb1 hf1 ho
  go_enter Tryz.func95, Tryz.ntmps95
  go_wp2_with fail
  refine HR.out.mono ?_
  rintro en w' ⟨rfl, h1, h2, h3⟩
  go_wp2_with fail
  go_end0
  exact ⟨rfl, h1, h2, HO.out.trans h3⟩
theorem two_words' {w : World} {v : Value} {o : Option Nat} {x : Int} (lo hi : Int) (h : IsNat w v o x) (hx : x = lo + hi * 18446744073709551616) (hl : 0 ≤ lo ∧ lo < 18446744073709551616) (hh : 0 < hi ∧ hi < 18446744073709551616) : ∃ b ys, o = some b ∧ v = .slice (some ⟨b, 0, none⟩) 2 ys.length ∧ Blk w b ys ∧ 2 ≤ ys.length ∧ ys.getD 0 0 = lo ∧ ys.getD 1 0 = hi ∧ ys.length ≤ most := by
  rcases h.cases_ with ⟨h0, _⟩ | ⟨_, b, n, ys, rfl, rfl, hb, hn, hny, hym, hr, hxx⟩
  · omega
  · have a := hr.low hn
    have c := num_range n hr.1
    rw [hxx] at a c
    have e64 : (2 : Int) ^ 64 = 18446744073709551616 := by decide
    have h2 : (2 : Int) ^ 64 ≤ x := by rw [e64]; omega
    have h3 : x < 2 ^ 128 := by
      have e : (2 : Int) ^ 128 = 18446744073709551616 * 18446744073709551616 := by decide
      rw [e]
      have := Int.mul_le_mul_of_nonneg_right (show hi ≤ 18446744073709551615 by omega) (by decide : (0 : Int) ≤ 18446744073709551616)
      omega
    have h4 := pow_lt (Int.lt_of_le_of_lt a h3)
    have h5 := pow_lt (Int.lt_of_le_of_lt h2 c.2)
    obtain rfl : n = 2 := by omega
    have w0 : 0 ≤ ys.getD 0 0 ∧ ys.getD 0 0 < 18446744073709551616 := hr.1 0 (by omega)
    have w1 : 0 ≤ ys.getD 1 0 ∧ ys.getD 1 0 < 18446744073709551616 := hr.1 1 (by omega)
    have e : (2 : Int) ^ (64 * 1) = 18446744073709551616 := by decide
    have hxx : 0 + ys.getD 0 0 * 2 ^ (64 * 0) + ys.getD 1 0 * 2 ^ (64 * 1) = x := hxx
    rw [Nat.mul_zero, Int.pow_zero, e] at hxx
    refine ⟨b, ys, rfl, rfl, hb, hny, ?_, ?_, hym⟩ <;> omega
theorem after_set {w1 W : World} {f b : Nat} {zs : List Int} {p a fm e : Int} {n : Bool} (hf : W.heap[f]? = some (.cells (fl p a fm n (.slice none 0 0) e) 119 (0, 0))) (hb : Blk W b zs) (ho : Only w1 W (fun _ => False)) :
    ∃ w2, w2 = W.setCell ⟨f, 5, none⟩ (.slice (some ⟨b, 0, none⟩) 2 zs.length) ∧ w2.heap[f]? = some (.cells (fl p a fm n (.slice (some ⟨b, 0, none⟩) 2 zs.length) e) 119 (0, 0)) ∧ Blk w2 b zs ∧ Only w1 w2 (fun k => k = f) := by
  have hne : f ≠ b := blk_ne hf hb (by decide)
  refine ⟨_, rfl, by simpa [fl] using blk_set hf 5 (.slice (some ⟨b, 0, none⟩) 2 zs.length), blk_far hb (p := ⟨f, 5, none⟩) (Ne.symm hne) _, ?_⟩
  exact (ho.mono (T := fun k => k = f) (fun _ _ h => h.elim)).set (p := ⟨f, 5, none⟩) (.inr rfl) (.slice (some ⟨b, 0, none⟩) 2 zs.length)
set_option linter.unusedVariables false in
set_option linter.unusedSimpArgs false in
set_option maxRecDepth 100000 in
set_option maxHeartbeats 4000000 in
theorem setInt_lit (f gx : Nat) (ox : Option Nat) (w : World) (hf : w.heap[f]? = some (.cells (fl 0 0 0 false (.slice none 0 0) 0) 119 (0, 0))) (hx : IsInt w gx ox 24595658764946068821) :
    Calls Tryz.prog 73 #[.pointer (some ⟨f, 0, none⟩), .pointer (some ⟨gx, 0, none⟩)] w fun en w' => en = .returned (.pointer (some ⟨f, 0, none⟩)) ∧ ∃ b c ys, w'.heap[f]? = some (.cells (fl 65 0 1 false (.slice (some ⟨b, 0, none⟩) 2 c) 65) 119 (0, 0)) ∧ Blk w' b ys ∧ 2 ≤ ys.length ∧ ys.getD 0 0 = 9223372036854775808 ∧ ys.getD 1 0 = 12297829382473034410 ∧ Only w w' (fun k => k = f) ∧ w.heap.size ≤ b := by
  obtain ⟨vx, hgx, hnx⟩ := id hx
  rw [decide_eq_false (by omega)] at hgx
  obtain ⟨bx, xs, rfl, rfl, hbx, hxl, hx0, hx1, hxm⟩ := two_words' 6148914691236517205 1 hnx (by decide) (by decide) (by decide)
  have hB : Calls Tryz.prog 44 #[.pointer (some ⟨gx, 0, none⟩)] w fun e w' => e = .returned (.int .i64 65) ∧ w' = w := by
    refine (bitLen_int gx (some bx) 24595658764946068821 w hx (Fits.of (k := 65) (by decide +kernel) (by decide))).mono ?_
    rintro e w' ⟨⟨k, rfl, hk, _⟩, rfl⟩
    obtain rfl : k = 65 := hk.unique ⟨by decide +kernel, fun _ => by decide +kernel⟩
    exact ⟨rfl, rfl⟩
  have hW3 : ∀ n, IntKind.u32.wrap n = n % 4294967296 := IntKind.wrap_u32
  have hmx : max (65 : Int) 64 = 65 := by decide
  have c0 : w.cell? ⟨f, 0, none⟩ = some (.int .u32 0) := blk_cell hf 0
  have c2 : w.cell? ⟨f, 2, none⟩ = some (.int .i8 0) := blk_cell hf 2
  have c4 : w.cell? ⟨f, 4, none⟩ = some (.bool false) := blk_cell hf 4
  have f0 := blk_frozen hf 0
  have f2 := blk_frozen hf 2
  have f4 := blk_frozen hf 4
  have x0 : w.cell? ⟨gx, 0, none⟩ = some (.bool false) := blk_cell hgx 0
  have x1 : w.cell? ⟨gx, 1, none⟩ = some (.slice (some ⟨bx, 0, none⟩) 2 xs.length) := blk_cell hgx 1
  have hfx : f ≠ gx := blk_ne hf hgx (by decide)
  have hfb : f ≠ bx := blk_ne hf hbx (by decide)
  have hf1 : (((w.setCell ⟨f, 0, none⟩ (.int .u32 65)).setCell ⟨f, 2, none⟩ (.int .i8 0)).setCell ⟨f, 4, none⟩ (.bool false)).heap[f]? = some (.cells (fl 65 0 0 false (.slice none 0 0) 0) 119 (0, 0)) := by simpa [fl] using blk_set (blk_set (blk_set hf 0 (.int .u32 65)) 2 (.int .i8 0)) 4 (.bool false)
  have ho1 : Only w (((w.setCell ⟨f, 0, none⟩ (.int .u32 65)).setCell ⟨f, 2, none⟩ (.int .i8 0)).setCell ⟨f, 4, none⟩ (.bool false)) (fun k => k = f) := (((Only.refl w (fun k => k = f)).set (p := ⟨f, 0, none⟩) (.inr rfl) (.int .u32 65)).set (p := ⟨f, 2, none⟩) (.inr rfl) (.int .i8 0)).set (p := ⟨f, 4, none⟩) (.inr rfl) (.bool false)
  have HF1 := Lib.hid (And.intro hf1 ho1)
  have HB := Lib.hid hB
  have HX := Lib.hid (And.intro hgx hbx)
  clear hf hx hgx hnx hbx hB hf1 ho1
  go_enter Tryz.func73, Tryz.ntmps73
  go_wp2_with fail
  refine HB.out.mono ?_
  rintro e w' ⟨rfl, hww⟩
  rw [hww]
  clear hww w'
  go_wp2_with fail
  obtain ⟨hf1, ho1⟩ := HF1.out
  obtain ⟨hgx, hbx⟩ := HX.out
  have hgx1 := (ho1.kept _ (blk_lt hgx) (Ne.symm hfx)).trans hgx
  have hbx1 := ho1.blk hbx (Ne.symm hfb)
  clear HF1 HX HB hgx hbx c0 c2 c4 f0 f2 f4 x0 x1
  generalize ((w.setCell ⟨f, 0, none⟩ (.int .u32 65)).setCell ⟨f, 2, none⟩ (.int .i8 0)).setCell ⟨f, 4, none⟩ (.bool false) = w1 at *
  have HK : Hid (∀ W, Only w1 W (fun _ => False) → W.cell? ⟨f, 5, none⟩ = some (.slice none 0 0) ∧ W.cell? ⟨gx, 1, none⟩ = some (.slice (some ⟨bx, 0, none⟩) 2 xs.length)) := Lib.hid (fun W hW => by
    have a := (hW.kept _ (blk_lt hf1) (fun h => h)).trans hf1
    have b := (hW.kept _ (blk_lt hgx1) (fun h => h)).trans hgx1
    exact ⟨blk_cell a 5, blk_cell b 1⟩)
  have hfd := blk_drew hf1
  have hxd : Blk w1.drew bx xs := hbx1
  have HO1 := Lib.hid ho1
  clear hf1 hbx1 hgx1 ho1 hW3 hmx
  refine start_ (S := (fun W => Only w1 W (fun _ => False))) (ds := [12]) #[false, false, false, false, false, false, false, false, false, false, false, false, false] (by kernel_rfl) rfl rfl ?_ (fun hHeld => ?_)
  · exact (Only.refl w1 _).drew
  generalize w1.drew = W1 at *
  refine pure_ (i := 0) (oi := ?o0) (v := ?v0) #[true, false, false, false, false, false, false, false, false, false, false, false, false] ?h0 rfl (by kernel_rfl) ?q0 (Or.inl ⟨?w0, ?y0⟩) rfl ?r0
  case h0 => (simp only [ga, gb, gc]; rfl)
  case q0 => exact fun _ _ _ h => h
  case w0 => rfl
  case y0 => (intro W; go_simp; first | done | with_reducible rfl)
  simp only [Act.put, zd, ze, zf]
  refine pure_ (i := 1) (oi := ?o1) (v := ?v1) #[true, true, false, false, false, false, false, false, false, false, false, false, false] ?h1 rfl (by kernel_rfl) ?q1 (Or.inl ⟨?w1, ?y1⟩) rfl ?r1
  case h1 => (simp only [ga, gb, gc]; rfl)
  case q1 => exact fun _ _ _ h => h
  case w1 => rfl
  case y1 => (intro W; go_simp; first | done | with_reducible rfl)
  simp only [Act.put, zd, ze, zf]
  refine pure_ (i := 2) (oi := ?o2) (v := ?v2) #[true, true, true, false, false, false, false, false, false, false, false, false, false] ?h2 rfl (by kernel_rfl) ?q2 (Or.inl ⟨?w2, ?y2⟩) rfl ?r2
  case h2 => (simp only [ga, gb, gc]; rfl)
  case q2 => exact fun _ _ _ h => h
  case w2 => rfl
  case y2 => (intro W; go_simp; first | done | with_reducible rfl)
  simp only [Act.put, zd, ze, zf]
  refine pure_ (i := 3) (oi := ?o3) (v := ?v3) #[true, true, true, true, false, false, false, false, false, false, false, false, false] ?h3 rfl (by kernel_rfl) ?q3 (Or.inl ⟨?w3, ?y3⟩) rfl ?r3
  case h3 => (simp only [ga, gb, gc]; rfl)
  case q3 => exact fun _ _ _ h => h
  case w3 => rfl
  case y3 => (intro W; go_simp; first | done | with_reducible rfl)
  simp only [Act.put, zd, ze, zf]
  refine pure_ (i := 5) (oi := ?o4) (v := ?v4) #[true, true, true, true, false, true, false, false, false, false, false, false, false] ?h4 rfl (by kernel_rfl) ?q4 (Or.inl ⟨?w4, ?y4⟩) rfl ?r4
  case h4 => (simp only [ga, gb, gc]; rfl)
  case q4 => exact fun _ _ _ h => h
  case w4 => rfl
  case y4 => (intro W; go_simp; first | done | with_reducible rfl)
  simp only [Act.put, zd, ze, zf]
  refine pure_ (i := 6) (oi := ?o5) (v := ?v5) #[true, true, true, true, false, true, true, false, false, false, false, false, false] ?h5 rfl (by kernel_rfl) ?q5 (Or.inl ⟨?w5, ?y5⟩) rfl ?r5
  case h5 => (simp only [ga, gb, gc]; rfl)
  case q5 => exact fun _ _ _ h => h
  case w5 => rfl
  case y5 => (intro W; go_simp; first | done | with_reducible rfl)
  simp only [Act.put, zd, ze, zf]
  refine pure_ (i := 7) (oi := ?o6) (v := ?v6) #[true, true, true, true, false, true, true, true, false, false, false, false, false] ?h6 rfl (by kernel_rfl) ?q6 (Or.inl ⟨?w6, ?y6⟩) rfl ?r6
  case h6 => (simp only [ga, gb, gc]; rfl)
  case q6 => exact fun _ _ _ h => h
  case w6 => rfl
  case y6 => (intro W; go_simp; first | done | with_reducible rfl)
  simp only [Act.put, zd, ze, zf]
  refine wpAnyLast_take (i := 4) (oi := ?o7) (v := ?v7) ?h7 (by kernel_rfl) (by kernel_rfl) (by kernel_rfl) (by kernel_rfl) (by kernel_rfl) ?q7 (Or.inl ⟨?w7, ?y7⟩) hHeld ?r7
  case h7 => (simp only [ga, gb, gc]; rfl)
  case q7 => exact fun _ _ _ h => h
  case w7 => rfl
  case y7 => (intro W hSw; obtain ⟨q5, q6⟩ := HK.out _ hSw; go_simp; first | done | with_reducible rfl)
  simp only [Act.put, zd, ze, zf]
  refine wpAnyLast_take (i := 8) (oi := ?o8) (v := ?v8) ?h8 (by kernel_rfl) (by kernel_rfl) (by kernel_rfl) (by kernel_rfl) (by kernel_rfl) ?q8 (Or.inl ⟨?w8, ?y8⟩) hHeld ?r8
  case h8 => (simp only [ga, gb, gc]; rfl)
  case q8 => exact fun _ _ _ h => h
  case w8 => rfl
  case y8 => (intro W hSw; obtain ⟨q5, q6⟩ := HK.out _ hSw; go_simp; first | done | with_reducible rfl)
  simp only [Act.put, zd, ze, zf]
  refine wpAnyLast_ready (rs := [9]) (by kernel_rfl) (by simp) ?_
  refine AllReadyL.cons (o := ?o9) ?h9 (by simp) (fun K hK => ?s9) ?m9
  case h9 => (simp only [ga, gb, gc]; rfl)
  case m9 => exact AllReadyL.nil
  go_simp
  go_at_call 92
  refine (set_any (.slice none 0 0) none bx 2 xs.length xs W1 .nil hxd (by decide) hxl (by decide)).mono ?_
  rintro en W2 ⟨b, zs, rfl, hz, hzl, hzm, ho, hob, hzi⟩
  replace ho : Only W1 W2 (fun _ => False) := ho.mono (fun _ _ h => by cases h)
  replace hob : W1.heap.size ≤ b := by rcases hob with h | h; (cases h); (exact h)
  have hfN := (ho.kept _ (blk_lt hfd) (fun h => h)).trans hfd
  have hsz := hHeld.base.size
  refine hK.out _ _ (hHeld.trans ho) (fun hHeldN => ?_)
  clear hK K hHeld
  have hHeld := hHeldN
  clear hHeldN
  simp only [Act.put, zd, ze, zf]
  refine pure_ (i := 10) (oi := ?o10) (v := ?v10) #[true, true, true, true, true, true, true, true, true, true, true, false, false] ?h10 rfl (by kernel_rfl) ?q10 (Or.inl ⟨?w10, ?y10⟩) rfl ?r10
  case h10 => (simp only [ga, gb, gc]; rfl)
  case q10 => exact fun _ _ _ h => h
  case w10 => rfl
  case y10 => (intro W; go_simp; first | done | with_reducible rfl)
  simp only [Act.put, zd, ze, zf]
  refine pure_ (i := 11) (oi := ?o11) (v := ?v11) #[true, true, true, true, true, true, true, true, true, true, true, true, false] ?h11 rfl (by kernel_rfl) ?q11 (Or.inl ⟨?w11, ?y11⟩) rfl ?r11
  case h11 => (simp only [ga, gb, gc]; rfl)
  case q11 => exact fun _ _ _ h => h
  case w11 => rfl
  case y11 => (intro W; go_simp; first | done | with_reducible rfl)
  simp only [Act.put, zd, ze, zf]
  refine wpAnyLast_ready (rs := [12]) (by kernel_rfl) (by simp) ?_
  refine AllReadyL.cons_last (o := ?o12) ?h12 (by simp) (fun K hK => ?s12) ?m12
  case h12 => (simp only [ga, gb, gc]; rfl)
  case m12 => exact AllReadyL.nil
  have r5 : W2.cell? ⟨f, 5, none⟩ = some (.slice none 0 0) := blk_cell hfN 5
  have fr5 := blk_frozen hfN 5
  go_simp
  refine hK.out _ _ ?_
  clear hK K r5 fr5
  simp only [Act.put, zd, ze, zf]
  refine done_ (by kernel_rfl) ?_
  obtain ⟨w2, hw2, hf2, hb2, ho2⟩ := after_set (f := f) hfN hz hHeld
  rw [← hw2]
  have hbz : w1.heap.size ≤ b := Nat.le_trans hsz hob
  clear hw2 hHeld hfN hz hfd hxd ho hob hsz HK
  have z0 : zs.getD 0 0 = 6148914691236517205 := by rw [hzi 0 (by omega)]; exact hx0
  have z1 : zs.getD 1 0 = 1 := by rw [hzi 1 (by omega)]; exact hx1
  have c5 : w2.cell? ⟨f, 5, none⟩ = some (.slice (some ⟨b, 0, none⟩) 2 zs.length) := blk_cell hf2 5
  have hzt : zs.length < 1099511627776 := Nat.lt_of_le_of_lt hzm (by decide)
  have hne : f ≠ b := blk_ne hf2 hb2 (by decide)
  clear hzi hx0 hx1
  go_wp2_with fail
  refine (fnorm_lit b zs.length zs w2 hb2 hzl hzt z0 z1).mono ?_
  rintro en w3 ⟨ys, rfl, hb3, hyl, y0, y1, ho3⟩
  have hf3 := (ho3.kept _ (blk_lt hf2) hne).trans hf2
  clear hf2 hb2 c5
  go_wp2_with fail
  refine (setExp_a f b zs.length ys 0 0 0 65 w3 hf3 hb3 (by omega) y0 (by decide) (by decide)).mono ?_
  rintro en w4 ⟨rfl, hf4, hb4, ho4⟩
  go_wp2_with fail
  go_ret
  have ho13 : Only w1 w4 (fun k => k = f) := (ho2.step ho3 (fun i hi h => by subst h; exact absurd hi (Nat.not_lt.2 hbz))).step ho4 (fun i hi h => by rcases h with h | h; (exact h); (subst h; exact absurd hi (Nat.not_lt.2 hbz)))
  refine ⟨rfl, b, zs.length, _, hf4, hb4, by rw [List.length_set]; omega, ?_, ?_, HO1.out.trans ho13, Nat.le_trans HO1.out.base.size hbz⟩
  · simp [List.getD, show 0 < ys.length by omega]
  · simpa [List.getD, show 1 < ys.length by omega] using y1
end Go.Proofs.YtlfmgdpbjapdjaaGreatFmtBesafter
namespace Go.Proofs.YtlfmgdpbjapdjaaGreatFmtBesafter
open Go.RowKit Go.Proofs.YtlfmgdpbjapdjaaGreatFmtBesafterW.PrintWords
def Whole (ys : List Int) (m p : Nat) : Prop := 64 * m ≤ p ∨ ∃ k, 0 < k ∧ k < 64 ∧ p = 64 * m - k ∧ ys.getD 0 0 % 2 ^ k = 0
def Mant (ys : List Int) (m c : Nat) : Prop := 0 < m ∧ m < 16777218 ∧ m ≤ ys.length ∧ m ≤ c ∧ ys.length < 1099511627776 ∧ Wd (fun i => ys.getD i 0) m ∧ 9223372036854775808 ≤ ys.getD (m - 1) 0
theorem round_whole (f b c m p : Nat) (ys : List Int) (a e : Int) (n : Bool) (w : World) (hf : w.heap[f]? = some (.cells (fl p a 1 n (.slice (some ⟨b, 0, none⟩) m c) e) 119 (0, 0))) (hb : Blk w b ys) (hm : Mant ys m c) (hp : Whole ys m p) :
    Calls Tryz.prog 124 #[.pointer (some ⟨f, 0, none⟩), .int .u64 0] w (Stays w f b p e n m c ys) := by
  obtain ⟨h0, h1, h2, h3, h4, h5, h6⟩ := hm
  rcases hp with h | ⟨k, k0, k1, rfl, k2⟩
  · exact round_fits f b c m p ys a e n w hf hb h1 h
  · exact round_low f b c m _ k ys a e _ n w hf hb h1 h2 h3 h5 rfl k0 k1 h0 rfl k2
set_option maxRecDepth 100000 in
set_option maxHeartbeats 4000000 in
theorem setExp_whole (f b c m p : Nat) (ys : List Int) (a fm e0 ex : Int) (n : Bool) (w : World) (hf : w.heap[f]? = some (.cells (fl p a fm n (.slice (some ⟨b, 0, none⟩) m c) e0) 119 (0, 0))) (hb : Blk w b ys) (hm : Mant ys m c) (hp : Whole ys m p) (hx0 : -2147483648 ≤ ex) (hx1 : ex ≤ 2147483647) :
    Calls Tryz.prog 95 #[.pointer (some ⟨f, 0, none⟩), .int .i64 ex, .int .u64 0] w (Stays w f b p ex n m c ys) := by
  have hw : IntKind.i32.wrap ex = ex := by rw [IntKind.wrap_i32]; omega
  have c3 : w.cell? ⟨f, 3, none⟩ = some (.int .u8 fm) := blk_cell hf 3
  have c6 : w.cell? ⟨f, 6, none⟩ = some (.int .i32 e0) := blk_cell hf 6
  have f3 := blk_frozen hf 3
  have f6 := blk_frozen hf 6
  have hne : f ≠ b := blk_ne hf hb (by decide)
  have hb1 : Blk ((w.setCell ⟨f, 3, none⟩ (.int .u8 1)).setCell ⟨f, 6, none⟩ (.int .i32 ex)) b ys := blk_far (blk_far hb (p := ⟨f, 3, none⟩) (Ne.symm hne) _) (p := ⟨f, 6, none⟩) (Ne.symm hne) _
  have hf1 : ((w.setCell ⟨f, 3, none⟩ (.int .u8 1)).setCell ⟨f, 6, none⟩ (.int .i32 ex)).heap[f]? = some (.cells (fl p a 1 n (.slice (some ⟨b, 0, none⟩) m c) ex) 119 (0, 0)) := by simpa [fl] using blk_set (blk_set hf 3 (.int .u8 1)) 6 (.int .i32 ex)
  have ho := ((Only.refl w (fun k => k = f ∨ k = b)).set (p := ⟨f, 3, none⟩) (.inr (.inl rfl)) (.int .u8 1)).set (p := ⟨f, 6, none⟩) (.inr (.inl rfl)) (.int .i32 ex)
  have HR := Lib.hid (round_whole f b c m p ys a ex n _ hf1 hb1 hm hp)
  have HO := Lib.hid ho
  clear hf hb hb1 hf1 ho hm hp
  go_enter Tryz.func95, Tryz.ntmps95
  go_wp2_with fail
  refine HR.out.mono ?_
  rintro en w' ⟨rfl, h1, h2, h3⟩
  go_wp2_with fail
  go_end0
  exact ⟨rfl, h1, h2, HO.out.trans h3⟩
def Normed (w : World) (b c m : Nat) (ys : List Int) (en : Ending) (w' : World) : Prop := ∃ (s : Nat) (zs : List Int), en = .returned (.int .i64 s) ∧ s < 64 ∧ Blk w' b zs ∧ zs.length = ys.length ∧ Mant zs m c ∧ num (fun i => zs.getD i 0) m = num (fun i => ys.getD i 0) m * 2 ^ s ∧ zs.getD 0 0 % 2 ^ s = 0 ∧ Only w w' (fun k => k = b)
set_option maxRecDepth 100000 in
set_option maxHeartbeats 4000000 in
theorem fnorm_any (b c m : Nat) (ys : List Int) (w : World) (hb : Blk w b ys) (hm0 : 0 < m) (hm1 : m < 16777218) (hmy : m ≤ ys.length) (hmc : m ≤ c) (hl : ys.length < 1099511627776) (hr : Nrm ys m) :
    Calls Tryz.prog 94 #[.slice (some ⟨b, 0, none⟩) m c] w (Normed w b c m ys) := by
  obtain ⟨t, ht⟩ : ∃ t, t = ys.getD (m - 1) 0 := ⟨_, rfl⟩
  have ht0 : 0 ≤ t ∧ t < 18446744073709551616 := by rw [ht]; exact hr.1 (m - 1) (by omega)
  have ht1 : t ≠ 0 := by rw [ht]; exact hr.2 hm0
  have x1 : w.cell? ⟨b, m - 1, none⟩ = some (.int .u64 t) := by rw [hb.cell _ (by omega), ht]
  have hbt := bitLen_spec t.toNat (by omega)
  rw [Int.toNat_of_nonneg ht0.1] at hbt
  have h64 : Lib.bitLen t.toNat ≤ 64 := Lib.bitLen_le _ 64 (by omega) (by omega)
  have hpos : 0 < Lib.bitLen t.toNat := by
    rcases Nat.eq_zero_or_pos (Lib.bitLen t.toNat) with h | h
    · have := hbt.1
      rw [h, Int.pow_zero] at this
      omega
    · exact h
  obtain ⟨s, hs⟩ : ∃ s, s = 64 - Lib.bitLen t.toNat := ⟨_, rfl⟩
  have hs64 : s < 64 := by omega
  have HN := Lib.hid (fun w => nlz_lit t s w (by omega) (by omega) (by omega) (by omega))
  have hx : ∀ i, i < m → w.cell? ⟨b, 0 + i, none⟩ = some (.int .u64 (ys.getD i 0)) := fun i hi => by rw [Nat.zero_add]; exact hb.cell i (by omega)
  have hlo : 2 ^ (63 - s) ≤ t := by rw [show 63 - s = Lib.bitLen t.toNat - 1 by omega]; exact hbt.2 hpos
  have hhi : t < 2 ^ (64 - s) := by rw [show 64 - s = Lib.bitLen t.toNat by omega]; exact hbt.1
  have hi0 : ((m : Int) - 1) = ((m - 1 : Nat) : Int) := by omega
  rcases Nat.eq_zero_or_pos s with h0 | h0
  · have HS : Hid (Normed w b c m ys (.returned (.int .i64 0)) w) := Lib.hid ⟨0, ys, rfl, by omega, hb, rfl, ⟨hm0, hm1, hmy, hmc, hl, hr.1, by rw [← ht]; rw [h0] at hlo; exact hlo⟩, by simp, by simp [Int.emod_one], Only.refl _ _⟩
    rw [h0] at HN
    clear hbt h64 hpos hs hx hlo hhi hr hb ht
    go_enter Tryz.func94, Tryz.ntmps94
    go_wp2_with fail
    refine (HN.out _).mono ?_
    rintro e w' ⟨rfl, hw⟩
    rw [hw]
    clear hw w'
    go_wp2_with fail
    go_ret
    exact HS.out
  · have HSH := Lib.hid (lshVU_any b 0 c b 0 c m s ys (fun i => ys.getD i 0) w hm0 h0 hs64 hb (by omega) hl hx (.inr ⟨rfl, rfl⟩))
    have HR := Lib.hid (And.intro hr (And.intro hlo (And.intro hhi ht)))
    have hen := Tryz.lshVU_enters
    have hi64 : IntKind.i64.wrap (s : Int) = s := by rw [IntKind.wrap_i64]; omega
    have hsp : decide ((0 : Int) < s) = true := by rw [decide_eq_true_eq]; omega
    clear hbt h64 hpos hs hx hlo hhi hr hb ht
    go_enter Tryz.func94, Tryz.ntmps94
    go_wp2_with fail
    refine (HN.out _).mono ?_
    rintro e w' ⟨rfl, hw⟩
    rw [hw]
    clear hw w'
    go_wp2_with fail
    refine HSH.out.mono ?_
    rintro e w2 ⟨rfl, ho2, zs, hz, hzl, _, hz0, hzj⟩
    have HZ := Lib.hid (And.intro hz0 hzj)
    clear hz0 hzj HSH
    generalize ys.getD (m - 1) 0 / 2 ^ (64 - s) = cr
    go_wp2_with fail
    go_ret
    obtain ⟨hr, hlo, hhi, ht⟩ := HR.out
    obtain ⟨hz0, hzj⟩ := HZ.out
    obtain ⟨k, rfl⟩ : ∃ k, m = k + 1 := ⟨m - 1, by omega⟩
    rw [Nat.add_sub_cancel] at ht
    have key := num_shl (fun i => ys.getD i 0) (fun i => zs.getD i 0) s k hs64 hr.1 hz0 (fun j a c => by
      have := hzj j a c
      rw [Nat.zero_add] at this
      exact this)
    rw [← ht, Int.ediv_eq_zero_of_lt ht0.1 hhi, Int.zero_mul, Int.add_zero] at key
    have hwd : Wd (fun i => zs.getD i 0) (k + 1) := by
      intro j hj
      have r : ∀ x : Int, 0 ≤ IntKind.u64.wrap x ∧ IntKind.u64.wrap x < 18446744073709551616 := fun x => by rw [IntKind.wrap_u64]; omega
      show 0 ≤ zs.getD j 0 ∧ zs.getD j 0 < _
      by_cases h0 : j = 0
      · subst h0; rw [hz0]; exact r _
      · have := hzj j (by omega) hj
        rw [Nat.zero_add] at this
        rw [this]; exact r _
    refine ⟨s, zs, rfl, hs64, hz, hzl, ⟨hm0, hm1, by omega, hmc, by omega, hwd, ?_⟩, key, ?_, ho2⟩
    · rw [Nat.add_sub_cancel]
      obtain ⟨n0, n1⟩ := num_range k (f := fun i => zs.getD i 0) fun i hi => hwd i (by omega)
      obtain ⟨y0, y1⟩ := num_range k (f := fun i => ys.getD i 0) fun i hi => hr.1 i (by omega)
      rw [num, num, ← ht] at key
      have hp : (0 : Int) < 2 ^ (64 * k) := Int.pow_pos (by omega)
      have hq : (0 : Int) < 2 ^ s := Int.pow_pos (by omega)
      have e : (2 : Int) ^ (63 - s) * 2 ^ s = 9223372036854775808 := by rw [← Int.pow_add, show 63 - s + s = 63 by omega]; decide
      generalize (2 : Int) ^ (64 * k) = P at *
      generalize (2 : Int) ^ s = S at *
      generalize (2 : Int) ^ (63 - s) = H at *
      generalize zs.getD k 0 = u at *
      generalize num (fun i => zs.getD i 0) k = nz at *
      generalize num (fun i => ys.getD i 0) k = ny at *
      rcases Int.lt_or_le u 9223372036854775808 with h | h
      · have h1 : (u + 1) * P ≤ 9223372036854775808 * P := Int.mul_le_mul_of_nonneg_right (by omega) (Int.le_of_lt hp)
        rw [Int.add_mul, Int.one_mul] at h1
        have h2 : H * P ≤ t * P := Int.mul_le_mul_of_nonneg_right hlo (Int.le_of_lt hp)
        have h3 : (ny + t * P) * S ≥ H * P * S := Int.mul_le_mul_of_nonneg_right (by omega) (Int.le_of_lt hq)
        rw [Int.mul_right_comm, e] at h3
        omega
      · exact h
    · rw [hz0, wrap_shl _ s hs64 (hr.1 0 (by omega)).1]
      exact Int.mul_emod_left _ _
end Go.Proofs.YtlfmgdpbjapdjaaGreatFmtBesafter
