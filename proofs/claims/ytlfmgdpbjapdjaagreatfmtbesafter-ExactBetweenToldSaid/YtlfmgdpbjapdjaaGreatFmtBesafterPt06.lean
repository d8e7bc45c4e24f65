/- Part 6 of the walk: RndG RndC. -/
import Derived.Test.YtlfmgdpbjapdjaaGreatFmtBesafterPt05
import Derived.Test.YtlfmgdpbjapdjaaGreatFmtBesafterPt02
import Derived.Lib.Builder
namespace Go.Proofs.YtlfmgdpbjapdjaaGreatFmtBesafter
open Go.RowKit Go.Proofs.YtlfmgdpbjapdjaaGreatFmtBesafterW.PrintWords Go.Proofs.YtlfmgdpbjapdjaaGreatFmtBesafterW.PrintLast
theorem after_setm {w1 W : World} {f b : Nat} {zs : List Int} {p a fm e : Int} {n : Bool} (m c : Nat) (hf : W.heap[f]? = some (.cells (fl p a fm n (.slice none 0 0) e) 119 (0, 0))) (hb : Blk W b zs) (ho : Only w1 W (fun _ => False)) :
    ∃ w2, w2 = W.setCell ⟨f, 5, none⟩ (.slice (some ⟨b, 0, none⟩) m c) ∧ w2.heap[f]? = some (.cells (fl p a fm n (.slice (some ⟨b, 0, none⟩) m c) e) 119 (0, 0)) ∧ Blk w2 b zs ∧ Only w1 w2 (fun k => k = f) := by
  have hne : f ≠ b := blk_ne hf hb (by decide)
  refine ⟨_, rfl, by simpa [fl] using blk_set hf 5 (.slice (some ⟨b, 0, none⟩) m c), blk_far hb (p := ⟨f, 5, none⟩) (Ne.symm hne) _, ?_⟩
  exact (ho.mono (T := fun k => k = f) (fun _ _ h => h.elim)).set (p := ⟨f, 5, none⟩) (.inr rfl) (.slice (some ⟨b, 0, none⟩) m c)
def FInt (w : World) (f : Nat) (z : Int) (e : Int) (w' : World) (b : Nat) : Prop := ∃ (c m k : Nat) (ys : List Int), w'.heap[f]? = some (.cells (fl (max k 64 : Nat) 0 1 (decide (z < 0)) (.slice (some ⟨b, 0, none⟩) m c) (k + e)) 119 (0, 0)) ∧ Blk w' b ys ∧ Mant ys m c ∧ Whole ys m (max k 64) ∧ BLen (Int.natAbs z) k ∧ 0 < k ∧ k ≤ 1073741888 ∧ k ≤ 64 * m ∧ 64 * m < k + 64 ∧ num (fun i => ys.getD i 0) m = Int.natAbs z * 2 ^ (64 * m - k) ∧ w.heap.size ≤ b
def GotInt (w : World) (f : Nat) (z : Int) (en : Ending) (w' : World) : Prop := en = .returned (.pointer (some ⟨f, 0, none⟩)) ∧ (∃ b, FInt w f z 0 w' b) ∧ Only w w' (fun k => k = f)
theorem top_len (ys zs : List Int) (m k s : Nat) (x : Int) (hm : 0 < m) (hx : 0 < x) (hk : BLen x k) (hy : num (fun i => ys.getD i 0) m = x) (hw : Wd (fun i => zs.getD i 0) m) (ht : 9223372036854775808 ≤ zs.getD (m - 1) 0) (_ : s < 64) (hn : num (fun i => zs.getD i 0) m = num (fun i => ys.getD i 0) m * 2 ^ s) : k + s = 64 * m := by
  have h : BLen (num (fun i => zs.getD i 0) m) (64 * m) := by
    obtain ⟨j, rfl⟩ : ∃ j, m = j + 1 := ⟨m - 1, by omega⟩
    rw [Nat.add_sub_cancel] at ht
    have := top_bits (fun i => zs.getD i 0) j 64 hw ⟨by have := (hw j (by omega)).2; simpa using this, fun _ => by simpa using ht⟩ (by omega)
    rw [show 64 * (j + 1) = 64 * j + 64 by omega]
    exact this
  have hk0 : 0 < k := by
    rcases Nat.eq_zero_or_pos k with h | h
    · rw [h] at hk
      have := hk.1
      simp at this
      omega
    · exact h
  rw [hn, hy] at h
  have h2 : BLen (x * 2 ^ s) (k + s) := by
    have hp : (0 : Int) < 2 ^ s := Int.pow_pos (by omega)
    refine ⟨?_, fun _ => ?_⟩
    · rw [Int.pow_add]
      exact Int.mul_lt_mul_of_pos_right hk.1 hp
    · rw [show k + s - 1 = k - 1 + s by omega, Int.pow_add]
      exact Int.mul_le_mul_of_nonneg_right (hk.2 hk0) (Int.le_of_lt hp)
  exact h2.unique h
set_option linter.unusedVariables false in
set_option linter.unusedSimpArgs false in
set_option maxRecDepth 100000 in
set_option maxHeartbeats 4000000 in
theorem setInt_any (f gx : Nat) (ox : Option Nat) (z : Int) (w : World) (hf : w.heap[f]? = some (.cells (fl 0 0 0 false (.slice none 0 0) 0) 119 (0, 0))) (hx : IsInt w gx ox z) (hz0 : z ≠ 0) (hfit : Fits (Int.natAbs z)) :
    Calls Tryz.prog 73 #[.pointer (some ⟨f, 0, none⟩), .pointer (some ⟨gx, 0, none⟩)] w (GotInt w f z) := by
  obtain ⟨vx, hgx, hnx⟩ := id hx
  rcases hnx.cases_ with ⟨h0, _⟩ | ⟨hpos, bx, m, xs, rfl, rfl, hbx, hm0, hmx, hxm, hr, hnum⟩
  · exact absurd (natAbs_zero h0) hz0
  have hm2 : m ≤ 16777217 := hr.short (by rw [hnum]; exact hfit)
  have c0 : w.cell? ⟨f, 0, none⟩ = some (.int .u32 0) := blk_cell hf 0
  have c2 : w.cell? ⟨f, 2, none⟩ = some (.int .i8 0) := blk_cell hf 2
  have c4 : w.cell? ⟨f, 4, none⟩ = some (.bool false) := blk_cell hf 4
  have f0 := blk_frozen hf 0
  have f2 := blk_frozen hf 2
  have f4 := blk_frozen hf 4
  have x0 : w.cell? ⟨gx, 0, none⟩ = some (.bool (decide (z < 0))) := blk_cell hgx 0
  have x1 : w.cell? ⟨gx, 1, none⟩ = some (.slice (some ⟨bx, 0, none⟩) m xs.length) := blk_cell hgx 1
  have hfx : f ≠ gx := blk_ne hf hgx (by decide)
  have hfb : f ≠ bx := blk_ne hf hbx (by decide)
  have HF := Lib.hid hf
  have HB := Lib.hid (bitLen_int gx (some bx) z w hx hfit)
  have HX := Lib.hid (And.intro hgx hbx)
  have HR0 := Lib.hid (And.intro hr hnum)
  have hmI : ((m : Int) == 0) = false := by rw [beq_eq_false_iff_ne]; omega
  clear hf hx hgx hnx hbx hr hnum
  go_enter Tryz.func73, Tryz.ntmps73
  go_wp2_with fail
  refine HB.out.mono ?_
  rintro e w' ⟨⟨k, rfl, hk, hk2⟩, hww⟩
  rw [hww]
  clear hww w'
  have hk0 : 0 < k := by
    rcases Nat.eq_zero_or_pos k with h | h
    · rw [h] at hk
      have := hk.1
      simp at this
      omega
    · exact h
  obtain ⟨p, hp⟩ : ∃ p, p = max k 64 := ⟨_, rfl⟩
  have hpk1 : k ≤ p ∧ 64 ≤ p ∧ (p = k ∨ p = 64) := by omega
  have HR := Lib.hid (And.intro HR0.out.1 (And.intro HR0.out.2 (And.intro hpos (And.intro hk hk0))))
  have HP := Lib.hid hp
  have hkw : IntKind.u32.wrap (k : Int) = k := by rw [IntKind.wrap_u32]; omega
  have hmx : max (k : Int) 64 = (p : Int) := by omega
  clear hk hp HR0
  have hf := HF.out
  have hf1 : (((w.setCell ⟨f, 0, none⟩ (.int .u32 p)).setCell ⟨f, 2, none⟩ (.int .i8 0)).setCell ⟨f, 4, none⟩ (.bool (decide (z < 0)))).heap[f]? = some (.cells (fl p 0 0 (decide (z < 0)) (.slice none 0 0) 0) 119 (0, 0)) := by simpa [fl] using blk_set (blk_set (blk_set hf 0 (.int .u32 p)) 2 (.int .i8 0)) 4 (.bool (decide (z < 0)))
  have ho1 : Only w (((w.setCell ⟨f, 0, none⟩ (.int .u32 p)).setCell ⟨f, 2, none⟩ (.int .i8 0)).setCell ⟨f, 4, none⟩ (.bool (decide (z < 0)))) (fun k => k = f) := (((Only.refl w (fun k => k = f)).set (p := ⟨f, 0, none⟩) (.inr rfl) (.int .u32 p)).set (p := ⟨f, 2, none⟩) (.inr rfl) (.int .i8 0)).set (p := ⟨f, 4, none⟩) (.inr rfl) (.bool (decide (z < 0)))
  have HF1 := Lib.hid (And.intro hf1 ho1)
  clear hf1 ho1 hf HF
  go_wp2_with fail
  obtain ⟨hf1, ho1⟩ := HF1.out
  obtain ⟨hgx, hbx⟩ := HX.out
  have hgx1 := (ho1.kept _ (blk_lt hgx) (Ne.symm hfx)).trans hgx
  have hbx1 := ho1.blk hbx (Ne.symm hfb)
  clear HF1 HX HB hgx hbx c0 c2 c4 f0 f2 f4 x0 x1
  generalize ((w.setCell ⟨f, 0, none⟩ (.int .u32 p)).setCell ⟨f, 2, none⟩ (.int .i8 0)).setCell ⟨f, 4, none⟩ (.bool (decide (z < 0))) = w1 at *
  have HK : Hid (∀ W, Only w1 W (fun _ => False) → W.cell? ⟨f, 5, none⟩ = some (.slice none 0 0) ∧ W.cell? ⟨gx, 1, none⟩ = some (.slice (some ⟨bx, 0, none⟩) m xs.length)) := Lib.hid (fun W hW => by
    have a := (hW.kept _ (blk_lt hf1) (fun h => h)).trans hf1
    have b := (hW.kept _ (blk_lt hgx1) (fun h => h)).trans hgx1
    exact ⟨blk_cell a 5, blk_cell b 1⟩)
  have hfd := blk_drew hf1
  have hxd : Blk w1.drew bx xs := hbx1
  have HO1 := Lib.hid ho1
  clear hf1 hbx1 hgx1 ho1 hmx
  refine start_ (S := (fun W => Only w1 W (fun _ => False))) (ds := [12]) #[false, false, false, false, false, false, false, false, false, false, false, false, false] (by kernel_rfl) rfl rfl ?_ (fun hHeld => ?_)
  · exact (Only.refl w1 _).drew
  generalize w1.drew = W1 at *
  refine pure_ (i := 0) (oi := ?o0) (v := ?v0) #[true, false, false, false, false, false, false, false, false, false, false, false, false] ?h0 rfl (by kernel_rfl) ?q0 (Or.inl ⟨?w0, ?y0⟩) rfl ?r0
  case h0 => (simp only [ga, gb, gc]; rfl)
  case q0 => exact fun _ _ _ h => h
  case w0 => rfl
  case y0 => (intro W; go_simp; first | done | with_reducible rfl)
  simp only [Act.put, zd, ze, zf]
  refine pure_ (i := 1) (oi := ?o1) (v := ?v1) #[true, true, false, false, false, false, false, false, false, false, false, false, false] ?h1 rfl (by kernel_rfl) ?q1 (Or.inl ⟨?w1, ?y1⟩) rfl ?r1
  case h1 => (simp only [ga, gb, gc]; rfl)
  case q1 => exact fun _ _ _ h => h
  case w1 => rfl
  case y1 => (intro W; go_simp; first | done | with_reducible rfl)
  simp only [Act.put, zd, ze, zf]
  refine pure_ (i := 2) (oi := ?o2) (v := ?v2) #[true, true, true, false, false, false, false, false, false, false, false, false, false] ?h2 rfl (by kernel_rfl) ?q2 (Or.inl ⟨?w2, ?y2⟩) rfl ?r2
  case h2 => (simp only [ga, gb, gc]; rfl)
  case q2 => exact fun _ _ _ h => h
  case w2 => rfl
  case y2 => (intro W; go_simp; first | done | with_reducible rfl)
  simp only [Act.put, zd, ze, zf]
  refine pure_ (i := 3) (oi := ?o3) (v := ?v3) #[true, true, true, true, false, false, false, false, false, false, false, false, false] ?h3 rfl (by kernel_rfl) ?q3 (Or.inl ⟨?w3, ?y3⟩) rfl ?r3
  case h3 => (simp only [ga, gb, gc]; rfl)
  case q3 => exact fun _ _ _ h => h
  case w3 => rfl
  case y3 => (intro W; go_simp; first | done | with_reducible rfl)
  simp only [Act.put, zd, ze, zf]
  refine pure_ (i := 5) (oi := ?o4) (v := ?v4) #[true, true, true, true, false, true, false, false, false, false, false, false, false] ?h4 rfl (by kernel_rfl) ?q4 (Or.inl ⟨?w4, ?y4⟩) rfl ?r4
  case h4 => (simp only [ga, gb, gc]; rfl)
  case q4 => exact fun _ _ _ h => h
  case w4 => rfl
  case y4 => (intro W; go_simp; first | done | with_reducible rfl)
  simp only [Act.put, zd, ze, zf]
  refine pure_ (i := 6) (oi := ?o5) (v := ?v5) #[true, true, true, true, false, true, true, false, false, false, false, false, false] ?h5 rfl (by kernel_rfl) ?q5 (Or.inl ⟨?w5, ?y5⟩) rfl ?r5
  case h5 => (simp only [ga, gb, gc]; rfl)
  case q5 => exact fun _ _ _ h => h
  case w5 => rfl
  case y5 => (intro W; go_simp; first | done | with_reducible rfl)
  simp only [Act.put, zd, ze, zf]
  refine pure_ (i := 7) (oi := ?o6) (v := ?v6) #[true, true, true, true, false, true, true, true, false, false, false, false, false] ?h6 rfl (by kernel_rfl) ?q6 (Or.inl ⟨?w6, ?y6⟩) rfl ?r6
  case h6 => (simp only [ga, gb, gc]; rfl)
  case q6 => exact fun _ _ _ h => h
  case w6 => rfl
  case y6 => (intro W; go_simp; first | done | with_reducible rfl)
  simp only [Act.put, zd, ze, zf]
  refine wpAnyLast_take (i := 4) (oi := ?o7) (v := ?v7) ?h7 (by kernel_rfl) (by kernel_rfl) (by kernel_rfl) (by kernel_rfl) (by kernel_rfl) ?q7 (Or.inl ⟨?w7, ?y7⟩) hHeld ?r7
  case h7 => (simp only [ga, gb, gc]; rfl)
  case q7 => exact fun _ _ _ h => h
  case w7 => rfl
  case y7 => (intro W hSw; obtain ⟨q5, q6⟩ := HK.out _ hSw; go_simp; first | done | with_reducible rfl)
  simp only [Act.put, zd, ze, zf]
  refine wpAnyLast_take (i := 8) (oi := ?o8) (v := ?v8) ?h8 (by kernel_rfl) (by kernel_rfl) (by kernel_rfl) (by kernel_rfl) (by kernel_rfl) ?q8 (Or.inl ⟨?w8, ?y8⟩) hHeld ?r8
  case h8 => (simp only [ga, gb, gc]; rfl)
  case q8 => exact fun _ _ _ h => h
  case w8 => rfl
  case y8 => (intro W hSw; obtain ⟨q5, q6⟩ := HK.out _ hSw; go_simp; first | done | with_reducible rfl)
  simp only [Act.put, zd, ze, zf]
  refine wpAnyLast_ready (rs := [9]) (by kernel_rfl) (by simp) ?_
  refine AllReadyL.cons (o := ?o9) ?h9 (by simp) (fun K hK => ?s9) ?m9
  case h9 => (simp only [ga, gb, gc]; rfl)
  case m9 => exact AllReadyL.nil
  go_simp
  go_at_call 92
  refine (set_any (.slice none 0 0) none bx m xs.length xs W1 .nil hxd hm0 hmx (by unfold most; omega)).mono ?_
  rintro en W2 ⟨b, zs, rfl, hz, hzl, hzm, ho, hob, hzi⟩
  replace ho : Only W1 W2 (fun _ => False) := ho.mono (fun _ _ h => by cases h)
  replace hob : W1.heap.size ≤ b := by rcases hob with h | h; (cases h); (exact h)
  have hfN := (ho.kept _ (blk_lt hfd) (fun h => h)).trans hfd
  have hsz := hHeld.base.size
  refine hK.out _ _ (hHeld.trans ho) (fun hHeldN => ?_)
  clear hK K hHeld
  have hHeld := hHeldN
  clear hHeldN
  simp only [Act.put, zd, ze, zf]
  refine pure_ (i := 10) (oi := ?o10) (v := ?v10) #[true, true, true, true, true, true, true, true, true, true, true, false, false] ?h10 rfl (by kernel_rfl) ?q10 (Or.inl ⟨?w10, ?y10⟩) rfl ?r10
  case h10 => (simp only [ga, gb, gc]; rfl)
  case q10 => exact fun _ _ _ h => h
  case w10 => rfl
  case y10 => (intro W; go_simp; first | done | with_reducible rfl)
  simp only [Act.put, zd, ze, zf]
  refine pure_ (i := 11) (oi := ?o11) (v := ?v11) #[true, true, true, true, true, true, true, true, true, true, true, true, false] ?h11 rfl (by kernel_rfl) ?q11 (Or.inl ⟨?w11, ?y11⟩) rfl ?r11
  case h11 => (simp only [ga, gb, gc]; rfl)
  case q11 => exact fun _ _ _ h => h
  case w11 => rfl
  case y11 => (intro W; go_simp; first | done | with_reducible rfl)
  simp only [Act.put, zd, ze, zf]
  refine wpAnyLast_ready (rs := [12]) (by kernel_rfl) (by simp) ?_
  refine AllReadyL.cons_last (o := ?o12) ?h12 (by simp) (fun K hK => ?s12) ?m12
  case h12 => (simp only [ga, gb, gc]; rfl)
  case m12 => exact AllReadyL.nil
  have r5 : W2.cell? ⟨f, 5, none⟩ = some (.slice none 0 0) := blk_cell hfN 5
  have fr5 := blk_frozen hfN 5
  go_simp
  refine hK.out _ _ ?_
  clear hK K r5 fr5
  simp only [Act.put, zd, ze, zf]
  refine done_ (by kernel_rfl) ?_
  obtain ⟨w2, hw2, hf2, hb2, ho2⟩ := after_setm (f := f) m zs.length hfN hz hHeld
  rw [← hw2]
  have hbz : w1.heap.size ≤ b := Nat.le_trans hsz hob
  have HO2 := Lib.hid ho2
  clear hw2 hHeld hfN hz hfd hxd ho hob hsz HK
  have hre : Nrm zs m := ⟨fun i hi => by show 0 ≤ zs.getD i 0 ∧ zs.getD i 0 < _; rw [hzi i hi]; exact HR.out.1.1 i hi, fun _ => by rw [hzi (m - 1) (by omega)]; exact HR.out.1.2 hm0⟩
  have c5 : w2.cell? ⟨f, 5, none⟩ = some (.slice (some ⟨b, 0, none⟩) m zs.length) := blk_cell hf2 5
  have hzt : zs.length < 1099511627776 := Nat.lt_of_le_of_lt hzm (by decide)
  have hne : f ≠ b := blk_ne hf2 hb2 (by decide)
  have hnz : num (fun i => zs.getD i 0) m = Int.natAbs z := (num_congr m fun i hi => hzi i hi).trans HR.out.2.1
  have HNZ := Lib.hid hnz
  have HRE := Lib.hid hre
  clear hzi hnz hre
  go_wp2_with fail
  refine (fnorm_any b zs.length m zs w2 hb2 hm0 (by omega) hzl hzl hzt HRE.out).mono ?_
  rintro en w3 ⟨s, ys, rfl, hs64, hb3, hyl, hmant, hnum, hlow, ho3⟩
  have hf3 := (ho3.kept _ (blk_lt hf2) hne).trans hf2
  have hks := top_len zs ys m k s _ hm0 HR.out.2.2.1 HR.out.2.2.2.1 HNZ.out hmant.2.2.2.2.2.1 hmant.2.2.2.2.2.2 hs64 hnum
  rw [HNZ.out] at hnum
  have hwh : Whole ys m p := by
    rcases Nat.eq_zero_or_pos s with h | h
    · exact .inl (by omega)
    · by_cases h2 : k ≤ 64
      · exact .inl (by omega)
      · exact .inr ⟨s, h, hs64, by omega, hlow⟩
  have HM := Lib.hid (And.intro hmant (And.intro hwh (And.intro hnum hks)))
  clear hf2 hb2 c5 hmant hwh hnum hks hlow ho2
  go_wp2_with fail
  refine (setExp_whole f b zs.length m p ys 0 0 0 k (decide (z < 0)) w3 hf3 hb3 HM.out.1 HM.out.2.1 (by omega) (by omega)).mono ?_
  rintro en w4 ⟨rfl, hf4, hb4, ho4⟩
  go_wp2_with fail
  go_ret
  have ho13 : Only w1 w4 (fun k => k = f) := (HO2.out.step ho3 (fun i hi h => by subst h; exact absurd hi (Nat.not_lt.2 hbz))).step ho4 (fun i hi h => by rcases h with h | h; (exact h); (subst h; exact absurd hi (Nat.not_lt.2 hbz)))
  obtain ⟨hmant, hwh, hnum, hks⟩ := HM.out
  have hpk := HP.out
  subst hpk
  refine ⟨rfl, ⟨b, zs.length, m, k, ys, by rw [Int.add_zero]; exact hf4, hb4, hmant, hwh, HR.out.2.2.2.1, by omega, hk2, by omega, by omega, ?_, Nat.le_trans HO1.out.base.size hbz⟩, HO1.out.trans ho13⟩
  rw [show 64 * m - k = s by omega]
  exact hnum
end Go.Proofs.YtlfmgdpbjapdjaaGreatFmtBesafter
namespace Go.Proofs.YtlfmgdpbjapdjaaGreatFmtBesafter
open Go.RowKit Go.Proofs.YtlfmgdpbjapdjaaGreatFmtBesafterW.PrintWords
theorem word_same (b : Nat) (w : World) :
    (binOp .neq 164 (.pointer (some ⟨b, 0, none⟩)) (.pointer (some ⟨b, 0, none⟩))).run Tryz.prog w = .ok (.bool false) w := by
  have h : (Tryz.prog.info? 110).map (fun i => i.size) = some 1 := by kernel_rfl
  obtain ⟨j, hj, _⟩ := Option.map_eq_some_iff.1 h
  exact Lib.run_neq_ptr_same w _ Tryz.underlying164 hj
set_option maxRecDepth 100000 in
set_option maxHeartbeats 4000000 in
theorem addVW_lo (b c : Nat) (ys : List Int) (x y : Int) (w : World) (hb : Blk w b ys) (hn : 1 ≤ ys.length) (hx : ys.getD 0 0 = x) (hx0 : 0 ≤ x) (hy0 : 0 ≤ y) (hs : x + y < 18446744073709551616) :
    Calls Tryz.prog 120 #[.slice (some ⟨b, 0, none⟩) 1 c, .slice (some ⟨b, 0, none⟩) 1 c, .int .u64 y] w fun e w' => e = .returned (.int .u64 0) ∧ Blk w' b (ys.set 0 (x + y)) ∧ Only w w' (· = b) := by
  have h0 : w.cell? ⟨b, 0, none⟩ = some (.int .u64 x) := by rw [hb.cell 0 (by omega), hx]
  have f0 := blk_frozen hb 0
  have hp := word_same b
  have e1 : (x + y + 0) % 18446744073709551616 = x + y := by omega
  have e2 : (x + y + 0) / 18446744073709551616 = 0 := by omega
  have HA := Lib.hid (fun w => add_any x y 0 w hx0 hy0 (by decide) (by decide))
  rw [e1, e2] at HA
  have HB := Lib.hid (And.intro (hb.set 0 (x + y)) ((Only.refl w (· = b)).set (p := ⟨b, 0, none⟩) (.inr rfl) (.int .u64 (x + y))))
  clear hb e1 e2
  go_enter Tryz.func120, Tryz.ntmps120
  go_wp2_with fail
  refine (HA.out _).mono ?_
  rintro e w' ⟨rfl, hw⟩
  rw [hw]
  clear hw w'
  go_wp2_with fail
  go_quiet (fail)
  go_wp2_with fail
  go_ret
  exact ⟨rfl, HB.out.1, HB.out.2.drewN _⟩
set_option maxRecDepth 100000 in
set_option maxHeartbeats 4000000 in
theorem addVW_hi (b c : Nat) (ys : List Int) (x y : Int) (w : World) (hb : Blk w b ys) (hn : 1 ≤ ys.length) (hx : ys.getD 0 0 = x) (hx0 : 0 ≤ x) (hx1 : x < 18446744073709551616) (hy0 : 0 ≤ y) (hy1 : y < 18446744073709551616) (hs : 18446744073709551616 ≤ x + y) :
    Calls Tryz.prog 120 #[.slice (some ⟨b, 0, none⟩) 1 c, .slice (some ⟨b, 0, none⟩) 1 c, .int .u64 y] w fun e w' => e = .returned (.int .u64 1) ∧ Blk w' b (ys.set 0 (x + y - 18446744073709551616)) ∧ Only w w' (· = b) := by
  have h0 : w.cell? ⟨b, 0, none⟩ = some (.int .u64 x) := by rw [hb.cell 0 (by omega), hx]
  have f0 := blk_frozen hb 0
  have e1 : (x + y + 0) % 18446744073709551616 = x + y - 18446744073709551616 := by omega
  have e2 : (x + y + 0) / 18446744073709551616 = 1 := by omega
  have HA := Lib.hid (fun w => add_any x y 0 w hx0 hy0 (by decide) (by decide))
  rw [e1, e2] at HA
  have HB := Lib.hid (And.intro (hb.set 0 (x + y - 18446744073709551616)) ((Only.refl w (· = b)).set (p := ⟨b, 0, none⟩) (.inr rfl) (.int .u64 (x + y - 18446744073709551616))))
  clear hb e1 e2
  go_enter Tryz.func120, Tryz.ntmps120
  go_wp2_with fail
  refine (HA.out _).mono ?_
  rintro e w' ⟨rfl, hw⟩
  rw [hw]
  clear hw w'
  go_wp2_with fail
  refine wp_loop_rounds 1 ?_
  rw [rounds_succ]
  go_wp2_with fail
  go_ret
  exact ⟨rfl, HB.out.1, HB.out.2⟩
set_option maxRecDepth 100000 in
set_option maxHeartbeats 4000000 in
theorem rshVU_one (b c : Nat) (ys : List Int) (x : Int) (w : World) (hb : Blk w b ys) (hn : 1 ≤ ys.length) (hl : ys.length < 1099511627776) (hx : ys.getD 0 0 = x) :
    Calls Tryz.prog 66 #[.slice (some ⟨b, 0, none⟩) 1 c, .slice (some ⟨b, 0, none⟩) 1 c, .int .u64 1] w fun e w' => (∃ r, e = .returned (.int .u64 r)) ∧ Only w w' (· = b) ∧ ∃ zs, Blk w' b zs ∧ zs.length = ys.length ∧ zs.getD 0 0 = x / 2 := by
  refine (rshVU_any b 0 c b 0 c 1 1 ys (fun i => ys.getD i 0) w (by omega) (by omega) (by omega) hb (by omega) hl (fun i hi => by rw [Nat.zero_add]; exact hb.cell i (by omega)) (.inr ⟨rfl, by omega, by omega⟩)).mono ?_
  rintro e w' ⟨he, ho, zs, hz, hzl, _, h0, _⟩
  refine ⟨⟨_, he⟩, ho, zs, hz, hzl, ?_⟩
  rw [Nat.zero_add] at h0
  rw [h0]
  show ys.getD 0 0 / 2 ^ 1 = _
  rw [hx]; rfl
end Go.Proofs.YtlfmgdpbjapdjaaGreatFmtBesafter
