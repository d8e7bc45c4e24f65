/- Part 21 of the walk: LawBi LawBj. -/
import Derived.Test.YtlfmgdpbjapdjaaGreatFmtBesafterPt20
namespace Go.Proofs.YtlfmgdpbjapdjaaGreatFmtBesafter
open Go.RowKit Go.Proofs.YtlfmgdpbjapdjaaGreatFmtBesafterW.PrintWords
theorem Bits.le {k m : Nat} {z : Int} (h : Bits k z) (hk : k ≤ m) : Bits m z := by
  unfold Bits at *
  have : (2 : Int) ^ k ≤ 2 ^ m := by exact_mod_cast Nat.pow_le_pow_right (by omega : 2 > 0) hk
  omega
theorem sum_bits {z1 z2 e1 e2 : Int} {k : Nat} (d : Nat) (h1 : Bits k z1) (h2 : Bits k z2) (a : e1 - e2 ≤ d) (b : e2 - e1 ≤ d) : Bits (k + d + 1) (sumZ z1 e1 z2 e2) := by
  unfold sumZ
  split
  · exact h2.le (by omega)
  · split
    · exact h1.le (by omega)
    · have x1 : Bits (k + d) (z1 * 2 ^ (e1 - min e1 e2).toNat) := (h1.shl (s := (e1 - min e1 e2).toNat)).le (by omega)
      have x2 : Bits (k + d) (z2 * 2 ^ (e2 - min e1 e2).toNat) := (h2.shl (s := (e2 - min e1 e2).toNat)).le (by omega)
      unfold Bits at *
      rw [Int.pow_succ]
      have := natAbs_add_le (z1 * 2 ^ (e1 - min e1 e2).toNat) (z2 * 2 ^ (e2 - min e1 e2).toNat)
      omega
structure Small (z e : Int) : Prop where
  bits : Bits 700 z
  low : -2000 ≤ e
  high : e ≤ 2000
theorem cmp_at (x x' : Value) (z e z' e' s m m' : Int) (w : World) (h : NumV w x z e) (h' : NumV w x' z' e') (S : Sc s z e m) (S' : Sc s z' e' m') :
    Calls Tryz.prog 12 #[x,x'] w fun en w' => en = .returned (.tuple #[.int .i64 (m - m').sign,.int .i64 0]) ∧ Only w w' (fun _ => False) := by
  refine (cmp_num x x' z e z' e' w h h').mono ?_
  rintro en w' ⟨rfl,ho⟩
  refine ⟨?_,ho⟩
  rw [(S.sum S'.neg).sign,Int.sub_eq_add_neg]
theorem sub_at (x x' : Value) (z e z' e' s m m' : Int) (w : World) (h : NumV w x z e) (h' : NumV w x' z' e') (b : Small z e) (b' : Small z' e') (S : Sc s z e m) (S' : Sc s z' e' m') (hT : Tab w) :
    Calls Tryz.prog 11 #[x,x'] w fun en w' => ∃ v z1 e1,en = .returned (.tuple #[v,.int .i64 0]) ∧ NumV w' v z1 e1 ∧ Sc s z1 e1 (m - m') ∧ Only w w' (fun _ => False) := by
  refine (sub_num x x' z e z' e' w h h' hT).mono ?_
  intro en w' hA
  obtain ⟨l0,l1⟩ : -2000 ≤ sumE z e (-z') e' ∧ sumE z e (-z') e' ≤ 2000 := by
    have := b.low; have := b.high; have := b'.low; have := b'.high
    unfold sumE; split
    · split <;> omega
    · split <;> omega
  have hb : Bits (700 + 4000 + 1) (sumZ z e (-z') e') := sum_bits 4000 b.bits b'.bits.neg (by have := b.high; have := b'.low; omega) (by have := b'.high; have := b.low; omega)
  obtain ⟨v,z1,e1,rfl,hv,ho,hc⟩ := hA.num hb (by omega) (by omega) (by omega)
  refine ⟨v,z1,e1,rfl,hv,?_,ho⟩
  have hS := S.sum S'.neg
  rw [Int.sub_eq_add_neg]
  rcases hc with ⟨h0,rfl,rfl⟩ | ⟨_,t,ht,rfl,_⟩
  · exact .inl ⟨rfl,hS.zero h0⟩
  · exact hS.up t ht
theorem of_pat (v : Int) (n : Bool) (r : Nat) (w : World) (hv : v = 64 ∨ v = 32) (hr : r < wI v) (hT : Tab w) :
    Calls Tryz.prog 10 #[.int .i64 (pat v n r),.int .i64 v] w fun en w' => ∃ x z e,en = .returned (.tuple #[x,.int .i64 0]) ∧ NumV w' x z e ∧ Small z e ∧ (∀ t : Nat,Sc (wL v + t) z e (svl v t n r)) ∧ Only w w' (fun _ => False) := by
  obtain ⟨k,he,hm,hn⟩ := pat_parts v n r hv hr
  obtain ⟨m0,m1,x0,x1⟩ := parts_range (pat v n r) v hv
  refine (of_fin _ v w (pat_I v n r hv (by omega)) hv (pat_fin v n r hv hr) hT).mono ?_
  rintro en w' ⟨ho,⟨hz,rfl⟩ | ⟨hz,t',q,A,ds,c,a1,a2,a3,rfl,hown,hval,hnm⟩⟩
  · refine ⟨_,0,0,rfl,numV_zero _,⟨by unfold Bits; decide +kernel,by omega,by omega⟩,fun t => .inl ⟨rfl,?_⟩,ho⟩
    rw [hz,Int.zero_mul] at hm
    unfold svl
    rw [← hm]; simp
  · have h0 : r ≠ 0 := by
      rintro rfl
      rw [val_zero _ (wB_pos v)] at hm
      have := Int.mul_pos hz (show (0 : Int) < 2 ^ k from Int.pow_pos (by omega))
      omega
    have hP : (0 : Int) < 2 ^ t' := Int.pow_pos (by omega)
    have hqm : q ≤ Flt.mag (pat v n r) v := by
      rw [a1]
      have := Int.mul_le_mul_of_nonneg_left (show (1 : Int) ≤ 2 ^ t' by omega) (Int.le_of_lt a3)
      omega
    have htm : (2 : Int) ^ t' ≤ Flt.mag (pat v n r) v := by
      rw [a1]
      have := Int.mul_le_mul_of_nonneg_right (show (1 : Int) ≤ q by omega) (Int.le_of_lt hP)
      omega
    have h53 : (2 : Int) ^ 53 = 9007199254740992 := by decide
    have ht : t' < 53 := pow_lt (by omega)
    have hl : 0 < ds.length := by
      rcases Nat.eq_zero_or_pos ds.length with h | h
      · rw [List.length_eq_zero_iff.1 h] at hval
        simp [val] at hval
        omega
      · exact h
    obtain ⟨A2,c2,hA,hrd,hc⟩ := own_read1 hown hl
    cases hA
    have hb : Bits 53 (sval (Flt.neg (pat v n r) v) ds) := by
      unfold Bits sval
      rw [hval,h53]
      split <;> omega
    refine ⟨_,sval (Flt.neg (pat v n r) v) ds,_,rfl,⟨_,_,ds,_,rfl,hrd,hc,vB_num _ ds _ q 53 hval hnm a2 a3 (by omega) (by omega) (by omega) (by omega),rfl⟩,⟨hb.le (by omega),by omega,by omega⟩,fun t => .inr ⟨k + t' + t,by omega,?_⟩,ho⟩
    rw [hn h0]
    unfold svl sval
    rw [hval,← hm,a1,Int.pow_add,Int.pow_add]
    have e : q * 2 ^ t' * 2 ^ k * 2 ^ t = q * (2 ^ k * 2 ^ t' * 2 ^ t) := by
      rw [Int.mul_assoc q,Int.mul_comm (2 ^ t' : Int),Int.mul_assoc q]
    rw [e]
    split
    · rw [Int.neg_mul]
    · rfl
theorem of_at (v : Int) (n : Bool) (r t : Nat) (w : World) (hv : v = 64 ∨ v = 32) (hr : r ≤ wI v) (hT : Tab w) :
    Calls Tryz.prog 10 #[.int .i64 (pat v n r),.int .i64 v] w fun en w' => ∃ x z e k,en = .returned (.tuple #[x,.int .i64 k]) ∧ NumV w' x z e ∧ Only w w' (fun _ => False) ∧ ((k = 6 ∧ r = wI v) ∨ (k = 0 ∧ r < wI v ∧ Small z e ∧ Sc (wL v + t) z e (svl v t n r))) := by
  by_cases h : r < wI v
  · refine (of_pat v n r w hv h hT).mono ?_
    rintro en w' ⟨x,z,e,rfl,h1,h2,h3,h4⟩
    exact ⟨x,z,e,0,rfl,h1,h4,.inr ⟨rfl,h,h2,h3 t⟩⟩
  · obtain rfl : r = wI v := by omega
    refine (of_inf (pat v n (wI v)) v w (pat_I v n _ hv (Nat.le_refl _)) hv (pat_inf v n hv)).mono ?_
    rintro en w' ⟨rfl,ho⟩
    exact ⟨_,0,0,6,rfl,numV_zero _,ho,.inl ⟨rfl,rfl⟩⟩
theorem less_inf (v : Int) (n : Bool) (hv : v = 64 ∨ v = 32) : (Flt.isW v && Flt.nless (pat v n (wI v)) 0 v) = n := by
  rcases hv with rfl | rfl <;> cases n <;> decide +kernel
set_option maxRecDepth 100000 in
set_option maxHeartbeats 4000000 in
theorem order_inf (neg : Bool) (A : Option Addr) (c : Nat) (ds : List Int) (e v : Int) (n : Bool) (w : World) (hv : v = 64 ∨ v = 32) :
    Calls Tryz.prog 7 #[.agg #[.bool neg,.slice A ds.length c,.int .i64 e],.int .i64 (pat v n (wI v)),.int .i64 v] w fun en w' => en = .returned (.int .i64 (if n = true then 1 else -1)) ∧ Only w w' (fun _ => False) := by
  have hI := pat_I v n (wI v) hv (Nat.le_refl _)
  have HF := Lib.hid (fun w => of_inf (pat v n (wI v)) v w hI hv (pat_inf v n hv))
  have hl := less_any (pat v n (wI v)) 0 v hI (by unfold Flt.I64; omega)
  rw [less_inf v n hv] at hl
  have HL := Lib.hid hl
  have ho1 := (Only.refl w (fun _ => False)).alloc (.cells #[.bool neg,.slice A ds.length c,.int .i64 e] 24)
  generalize pat v n (wI v) = b at *
  clear hI hl hv
  go_enter Tryz.func7,Tryz.ntmps7
  go_wp2_with fail
  generalize w.alloc (.cells #[.bool neg,.slice A ds.length c,.int .i64 e] 24) = w1 at *
  refine (HF.out w1).mono ?_
  rintro en w2 ⟨rfl,ho⟩
  have ho2 := (ho1.trans ho).alloc (.cells #[.bool false,.slice none 0 0,.int .i64 0] 24)
  clear ho ho1 HF
  go_wp2_with fail
  generalize w2.alloc (.cells #[.bool false,.slice none 0 0,.int .i64 0] 24) = w3 at *
  refine (HL.out _).mono ?_
  rintro en w4 ⟨rfl,hb⟩
  have ho4 := ho2.trans (Only.of_below hb)
  clear hb ho2 HL
  cases n
  · go_wp2_with fail
    go_ret
    exact ⟨rfl,ho4⟩
  · go_wp2_with fail
    go_ret
    exact ⟨rfl,ho4⟩
set_option maxRecDepth 100000 in
set_option maxHeartbeats 4000000 in
theorem order_fin (x : Value) (z e v Y : Int) (t : Nat) (n : Bool) (r : Nat) (w : World) (hv : v = 64 ∨ v = 32) (hr : r < wI v) (hx : NumV w x z e) (hS : Sc (wL v + t) z e Y) (hT : Tab w) :
    Calls Tryz.prog 7 #[x,.int .i64 (pat v n r),.int .i64 v] w fun en w' => en = .returned (.int .i64 (Y - svl v t n r).sign) ∧ Only w w' (fun _ => False) := by
  obtain ⟨neg,A,ds,c,rfl,_⟩ := id hx
  have ho1 := (Only.refl w (fun _ => False)).alloc (.cells #[.bool neg,.slice A ds.length c,.int .i64 e] 24)
  have hX := heap_alloc_new w (.cells #[.bool neg,.slice A ds.length c,.int .i64 e] 24)
  have hx := hx.only ho1
  have HF := Lib.hid (of_pat v n r _ hv hr (hT.only ho1))
  have HS := Lib.hid hS
  generalize pat v n r = b at *
  clear hT hv hr hS
  go_enter Tryz.func7,Tryz.ntmps7
  go_wp2_with fail
  generalize w.alloc (.cells #[.bool neg,.slice A ds.length c,.int .i64 e] 24) = w1 at *
  refine HF.out.mono ?_
  rintro en w2 ⟨x',z',e',rfl,hx',_,hS',ho⟩
  obtain ⟨neg',A',ds',c',rfl,_⟩ := id hx'
  have hoa := (Only.refl w2 (fun _ => False)).alloc (.cells #[.bool neg',.slice A' ds'.length c',.int .i64 e'] 24)
  have ho3 := (ho1.trans ho).trans hoa
  have hx' := hx'.only hoa
  have hx := hx.only (ho.trans hoa)
  have hX3 := blk_alloc ((ho.kept _ (blk_lt hX) (fun h => h)).trans hX) (.cells #[.bool neg',.slice A' ds'.length c',.int .i64 e'] 24)
  have hY3 := heap_alloc_new w2 (.cells #[.bool neg',.slice A' ds'.length c',.int .i64 e'] 24)
  have x0 := blk_cell hX3 0
  have x1 := blk_cell hX3 1
  have x2 := blk_cell hX3 2
  have y0 := blk_cell hY3 0
  have y1 := blk_cell hY3 1
  have y2 := blk_cell hY3 2
  have HS' := Lib.hid (hS' t)
  have HO := Lib.hid (And.intro ho3 (And.intro hx hx'))
  clear ho hoa ho1 hX hX3 hY3 HF hS' ho3 hx hx'
  go_wp2_with fail
  refine (cmp_at _ _ z e z' e' _ Y _ _ HO.out.2.1 HO.out.2.2 HS.out HS'.out).mono ?_
  rintro en w4 ⟨rfl,ho4⟩
  have ho5 := HO.out.1.trans ho4
  clear ho4 HO x0 x1 x2 y0 y1 y2 HS HS'
  go_wp2_with fail
  go_ret
  exact ⟨rfl,ho5⟩
theorem order_at (x : Value) (z e v Y o : Int) (t : Nat) (n : Bool) (r : Nat) (w : World) (hv : v = 64 ∨ v = 32) (hr : r ≤ wI v) (hx : NumV w x z e) (hS : Sc (wL v + t) z e Y) (hT : Tab w)
    (h1 : r < wI v → (Y - svl v t n r).sign = o) (h2 : r = wI v → (if n = true then (1 : Int) else -1) = o) :
    Calls Tryz.prog 7 #[x,.int .i64 (pat v n r),.int .i64 v] w fun en w' => en = .returned (.int .i64 o) ∧ Only w w' (fun _ => False) := by
  by_cases h : r < wI v
  · rw [← h1 h]; exact order_fin x z e v Y t n r w hv h hx hS hT
  · obtain rfl : r = wI v := by omega
    rw [← h2 rfl]
    obtain ⟨neg,A,ds,c,rfl,_⟩ := hx
    exact order_inf neg A c ds e v n w hv
set_option maxRecDepth 100000 in
set_option maxHeartbeats 8000000 in
theorem between_walk (na : Bool) (A : Option Addr) (c : Nat) (xs : List Int) (e wv : Int) (w : World) (hr : ReadsInt w .i64 A xs.length xs) (hc : xs.length ≤ c) (hT : Tab w) :
    Calls Tryz.prog 3 #[.agg #[.bool na,.slice A xs.length c,.int .i64 e],.int .i64 wv] w fun en w' => en = .returned (.bool true) ∧ Only w w' (fun _ => False) := by
  obtain ⟨q,hq,hq2⟩ : ∃ q,bits .and .i64 wv 1 = q ∧ (q = 0 ∨ q = 1) := ⟨_,rfl,by rw [Flt.i64_and_mask wv 1 (by omega) 1 (by decide)]; omega⟩
  have ho1 := (Only.refl w (fun _ => False)).alloc (.cells #[.bool na,.slice A xs.length c,.int .i64 e] 24)
  have hX := heap_alloc_new w (.cells #[.bool na,.slice A xs.length c,.int .i64 e] 24)
  have HR := Lib.hid (And.intro hr (And.intro hc hT))
  clear hr hc hT
  go_enter Tryz.func3,Tryz.ntmps3
  go_wp2_with fail
  generalize w.alloc (.cells #[.bool na,.slice A xs.length c,.int .i64 e] 24) = w1 at *
  refine (num_one na A c xs e w1 (reads_only HR.out.1 ho1 (fun _ _ h => h)) HR.out.2.1 (HR.out.2.2.only ho1)).mono ?_
  rintro en w2 ⟨va,z1,e1,rfl,hva,ho12,hb1,he1⟩
  obtain ⟨na1,A1,ds1,c1,rfl,_⟩ := id hva
  have hva := hva.only (w' := w2.alloc (.cells #[.bool na1,.slice A1 ds1.length c1,.int .i64 e1] 24)) ((Only.refl w2 _).alloc _)
  have hXa := heap_alloc_new w2 (.cells #[.bool na1,.slice A1 ds1.length c1,.int .i64 e1] 24)
  have ho3 := (ho1.trans ho12).alloc (.cells #[.bool na1,.slice A1 ds1.length c1,.int .i64 e1] 24)
  clear hX ho12 ho1
  have hT3 : Tab (w2.alloc (.cells #[.bool na1,.slice A1 ds1.length c1,.int .i64 e1] 24)) := HR.out.2.2.only ho3
  clear HR
  obtain ⟨wd,hwd,hwd2⟩ : ∃ wd,32 + 32 * q = wd ∧ (wd = 64 ∨ wd = 32) := ⟨_,rfl,by omega⟩
  have ka : ∀ W,Only (w2.alloc (.cells #[.bool na1,.slice A1 ds1.length c1,.int .i64 e1] 24)) W (fun _ => False) → NumV W (.agg #[.bool na1,.slice A1 ds1.length c1,.int .i64 e1]) z1 e1 ∧ Tab W ∧ W.cell? ⟨w2.heap.size,0,none⟩ = some (.bool na1) ∧ W.cell? ⟨w2.heap.size,1,none⟩ = some (.slice A1 ds1.length c1) ∧ W.cell? ⟨w2.heap.size,2,none⟩ = some (.int .i64 e1) := fun W h => by
    have hh := (h.kept _ (blk_lt hXa) (fun h => h)).trans hXa
    exact ⟨hva.only h,hT3.only h,blk_cell hh 0,blk_cell hh 1,blk_cell hh 2⟩
  have HA := Lib.hid ka
  obtain ⟨hva,hT3,a0,a1,a2⟩ := ka _ (Only.refl _ _)
  have HB := Lib.hid (And.intro hb1 (And.intro he1 hwd2))
  clear ka hXa hb1 he1
  go_wp2_with fail
  clear hwd hwd2 hq hq2
  generalize hXn : w2.heap.size = Xa at *
  generalize w2.alloc (.cells #[.bool na1,.slice A1 ds1.length c1,.int .i64 e1] 24) = w3 at *
  refine (round_num _ z1 e1 wd 1 w3 HB.out.2.2 (.inr (.inl rfl)) hva).mono ?_
  rintro en w4 ⟨⟨cd,o1,hs1,rfl⟩,ho34⟩
  clear a0 a1 a2 hva hT3
  obtain ⟨hva,hT3,a0,a1,a2⟩ := HA.out _ ho34
  go_wp2_with fail
  refine (round_num _ z1 e1 wd 2 w4 HB.out.2.2 (.inr (.inr rfl)) hva).mono ?_
  rintro en w5 ⟨⟨cu,o2,hs2,rfl⟩,ho45⟩
  have ho35 := ho34.trans ho45
  clear a0 a1 a2 hva hT3 ho34 ho45
  obtain ⟨hva,hT3,a0,a1,a2⟩ := HA.out _ ho35
  go_wp2_with fail
  refine (round_num _ z1 e1 wd 0 w5 HB.out.2.2 (.inl rfl) hva).mono ?_
  rintro en w6 ⟨⟨cn,o3,hs3,rfl⟩,ho56⟩
  have ho36 := ho35.trans ho56
  clear a0 a1 a2 hva hT3 ho35 ho56
  obtain ⟨rfl,rfl,n,t,Y,rd,ru,rn,hS,rfl,rfl,rfl,l1,l2,l3,hcase⟩ := between HB.out.2.2 hs1 hs2 hs3
  clear hs1 hs2 hs3
  rcases hcase with ⟨rfl,b1,rfl,rfl,hY⟩ | ⟨rfl,b1,b2,b3,b4,b5,b6,b7⟩
  · have HO : Hid (∀ W,Only w3 W (fun _ => False) → Calls Tryz.prog 7 #[.agg #[.bool na1,.slice A1 ds1.length c1,.int .i64 e1],.int .i64 (pat wd n rn),.int .i64 wd] W fun en w' => en = .returned (.int .i64 0) ∧ Only W w' (fun _ => False)) := Lib.hid fun W h =>
      order_at _ z1 e1 wd Y 0 t n rn W HB.out.2.2 l1 (HA.out W h).1 hS (HA.out W h).2.1 (fun _ => by rw [hY,Int.sub_self]; rfl) (fun h => by omega)
    generalize pat wd n rn = cd at *
    clear hS l1 b1 hY HB
    obtain ⟨hva,hT3,a0,a1,a2⟩ := HA.out _ ho36
    go_wp2_with fail
    refine (alive_calls _ hT3).mono ?_
    rintro en w7 ⟨rfl,ho⟩
    have ho37 := ho36.trans ho
    clear a0 a1 a2 hva hT3 ho36 ho
    obtain ⟨_,_,a0,a1,a2⟩ := HA.out _ ho37
    go_wp2_with fail
    refine (HO.out _ ho37).mono ?_
    rintro en w8 ⟨rfl,ho⟩
    have ho38 := ho37.trans ho
    clear a0 a1 a2 ho37 ho
    obtain ⟨_,_,a0,a1,a2⟩ := HA.out _ ho38
    go_wp2_with fail
    refine (HO.out _ ho38).mono ?_
    rintro en w9 ⟨rfl,ho⟩
    have ho39 := ho38.trans ho
    clear a0 a1 a2 ho38 ho
    obtain ⟨_,_,a0,a1,a2⟩ := HA.out _ ho39
    go_wp2_with fail
    refine (HO.out _ ho39).mono ?_
    rintro en w10 ⟨rfl,ho⟩
    have ho40 := ho39.trans ho
    clear a0 a1 a2 ho39 ho
    have hob := ho3.trans ho40
    clear HA HO
    go_wp2_with fail
    go_ret
    exact ⟨rfl,hob⟩
  · have HD : Hid (∀ W,Only w3 W (fun _ => False) → Calls Tryz.prog 7 #[.agg #[.bool na1,.slice A1 ds1.length c1,.int .i64 e1],.int .i64 (pat wd n rd),.int .i64 wd] W fun en w' => en = .returned (.int .i64 1) ∧ Only W w' (fun _ => False)) := Lib.hid fun W h =>
      order_at _ z1 e1 wd Y 1 t n rd W HB.out.2.2 l1 (HA.out W h).1 hS (HA.out W h).2.1 (fun h => by have := b3 h; exact Int.sign_eq_one_of_pos (by omega)) (fun h => by rw [(b4 h).1]; rfl)
    have HU : Hid (∀ W,Only w3 W (fun _ => False) → Calls Tryz.prog 7 #[.agg #[.bool na1,.slice A1 ds1.length c1,.int .i64 e1],.int .i64 (pat wd n ru),.int .i64 wd] W fun en w' => en = .returned (.int .i64 (-1)) ∧ Only W w' (fun _ => False)) := Lib.hid fun W h =>
      order_at _ z1 e1 wd Y (-1) t n ru W HB.out.2.2 l2 (HA.out W h).1 hS (HA.out W h).2.1 (fun h => by have := b5 h; exact Int.sign_eq_neg_one_of_neg (by omega)) (fun h => by rw [(b6 h).1]; rfl)
    have HFD := Lib.hid fun (W : World) (h : Only w3 W (fun _ => False)) => of_at wd n rd t W HB.out.2.2 l1 (HA.out W h).2.1
    have HFU := Lib.hid fun (W : World) (h : Only w3 W (fun _ => False)) => of_at wd n ru t W HB.out.2.2 l2 (HA.out W h).2.1
    have HN := Lib.hid (next_any (pat wd n rd) wd (pat_I _ _ _ HB.out.2.2 l1))
    have HCn : Hid (∀ W,Calls Tryz.prog 8 #[.int .i64 (Flt.nxt (pat wd n rd) wd),.int .i64 wd] W fun e w' => e = .returned (.int .i64 (pat wd n ru)) ∧ Only W w' (fun _ => False)) := Lib.hid fun W =>
      (F.bits_Canon.calls 2 _ _ _ W (by rw [canon_n,b1])).mono fun _ _ ⟨h1,h2⟩ => ⟨h1,Only.of_below h2⟩
    have HE : Hid ((pat wd n rn = pat wd n rd ∨ pat wd n rn = pat wd n ru) ∧ (rd < wI wd → ru < wI wd → (2 * Y < svl wd t n rd + svl wd t n ru → pat wd n rn = pat wd n rd) ∧ (svl wd t n rd + svl wd t n ru < 2 * Y → pat wd n rn = pat wd n ru) ∧ (2 * Y = svl wd t n rd + svl wd t n ru → bits .and .i64 (pat wd n rn) 1 = 0))) := Lib.hid
      ⟨by rcases b2 with h | h <;> rw [h] <;> simp,fun h1 h2 => ⟨fun h => by rw [(b7 h1 h2).1 h],fun h => by rw [(b7 h1 h2).2.1 h],fun h => pat_even wd n rn HB.out.2.2 l3 ((b7 h1 h2).2.2 h)⟩⟩
    have HSM : Hid (Small z1 e1) := Lib.hid ⟨HB.out.1.le (by omega),by have := HB.out.2.1; omega,by have := HB.out.2.1; omega⟩
    have HS := Lib.hid hS
    clear b1 b2 b3 b4 b5 b6 b7 hS HB l1 l2 l3
    generalize svl wd t n rd = P at *
    generalize svl wd t n ru = Q at *
    generalize pat wd n rd = cd at *
    generalize pat wd n ru = cu at *
    generalize pat wd n rn = cn at *
    generalize Flt.nxt cd wd = nx at *
    obtain ⟨hva,hT3,a0,a1,a2⟩ := HA.out _ ho36
    go_wp2_with fail
    refine (alive_calls _ hT3).mono ?_
    rintro en w7 ⟨rfl,ho⟩
    have ho37 := ho36.trans ho
    clear a0 a1 a2 hva hT3 ho36 ho
    obtain ⟨_,_,a0,a1,a2⟩ := HA.out _ ho37
    go_wp2_with fail
    refine (HD.out _ ho37).mono ?_
    rintro en w8 ⟨rfl,ho⟩
    have ho38 := ho37.trans ho
    clear a0 a1 a2 ho37 ho
    obtain ⟨_,_,a0,a1,a2⟩ := HA.out _ ho38
    go_wp2_with fail
    refine (HU.out _ ho38).mono ?_
    rintro en w9 ⟨rfl,ho⟩
    have ho39 := ho38.trans ho
    clear a0 a1 a2 ho38 ho HU
    obtain ⟨_,_,a0,a1,a2⟩ := HA.out _ ho39
    go_wp2_with fail
    refine (HD.out _ ho39).mono ?_
    rintro en w10 ⟨rfl,ho⟩
    have ho40 := ho39.trans ho
    clear a0 a1 a2 ho39 ho HD
    go_wp2_with fail
    refine (HN.out _).mono ?_
    rintro en w11 ⟨rfl,hb⟩
    have ho41 := ho40.trans (Only.of_below hb)
    clear hb ho40 HN
    go_wp2_with fail
    refine (HCn.out _).mono ?_
    rintro en w12 ⟨rfl,ho⟩
    have ho42 := ho41.trans ho
    clear ho ho41 HCn
    have HBO := Lib.hid ho3
    clear ho3
    have hcn : (cn != cd) = false ∨ ((cn != cd) = true ∧ (cn != cu) = false) := by
      by_cases h : cn = cd
      · left; simpa using h
      · right; rcases HE.out.1 with h2 | h2
        · exact absurd h2 h
        · exact ⟨by simpa using h,by simpa using h2⟩
    rcases hcn with hb1 | ⟨hb1,hb2⟩
    all_goals
      go_wp2_with fail
      refine (HFD.out _ ho42).mono ?_
      rintro en w13 ⟨xp,zp,ep,k1,rfl,hnp,ho,hk1⟩
      obtain ⟨np,Ap,dp,cp,rfl,_⟩ := id hnp
      have hoa := (Only.refl w13 (fun _ => False)).alloc (.cells #[.bool np,.slice Ap dp.length cp,.int .i64 ep] 24)
      have hnp := hnp.only hoa
      have hP := heap_alloc_new w13 (.cells #[.bool np,.slice Ap dp.length cp,.int .i64 ep] 24)
      have ho43 := (ho42.trans ho).trans hoa
      have kp : ∀ W,Only (w13.alloc (.cells #[.bool np,.slice Ap dp.length cp,.int .i64 ep] 24)) W (fun _ => False) → NumV W (.agg #[.bool np,.slice Ap dp.length cp,.int .i64 ep]) zp ep ∧ W.cell? ⟨w13.heap.size,0,none⟩ = some (.bool np) ∧ W.cell? ⟨w13.heap.size,1,none⟩ = some (.slice Ap dp.length cp) ∧ W.cell? ⟨w13.heap.size,2,none⟩ = some (.int .i64 ep) := fun W h => by
        have hh := (h.kept _ (blk_lt hP) (fun h => h)).trans hP
        exact ⟨hnp.only h,blk_cell hh 0,blk_cell hh 1,blk_cell hh 2⟩
      have HP := Lib.hid kp
      have HK1 := Lib.hid hk1
      clear kp hP hnp ho hoa ho42 HFD hk1
      go_wp2_with fail
      generalize hXp : w13.heap.size = Xp at *
      generalize w13.alloc (.cells #[.bool np,.slice Ap dp.length cp,.int .i64 ep] 24) = w14 at *
      refine (HFU.out _ ho43).mono ?_
      rintro en w15 ⟨xq,zq,eq,k2,rfl,hnq,ho,hk2⟩
      obtain ⟨nq,Aq,dq,cq,rfl,_⟩ := id hnq
      have hoa := (Only.refl w15 (fun _ => False)).alloc (.cells #[.bool nq,.slice Aq dq.length cq,.int .i64 eq] 24)
      have hnq := hnq.only hoa
      have hQ := heap_alloc_new w15 (.cells #[.bool nq,.slice Aq dq.length cq,.int .i64 eq] 24)
      have ho1416 := ho.trans hoa
      have ho44 := ho43.trans ho1416
      have kq : ∀ W,Only (w15.alloc (.cells #[.bool nq,.slice Aq dq.length cq,.int .i64 eq] 24)) W (fun _ => False) → NumV W (.agg #[.bool nq,.slice Aq dq.length cq,.int .i64 eq]) zq eq ∧ W.cell? ⟨w15.heap.size,0,none⟩ = some (.bool nq) ∧ W.cell? ⟨w15.heap.size,1,none⟩ = some (.slice Aq dq.length cq) ∧ W.cell? ⟨w15.heap.size,2,none⟩ = some (.int .i64 eq) := fun W h => by
        have hh := (h.kept _ (blk_lt hQ) (fun h => h)).trans hQ
        exact ⟨hnq.only h,blk_cell hh 0,blk_cell hh 1,blk_cell hh 2⟩
      have HQ := Lib.hid kq
      have HK2 := Lib.hid hk2
      clear kq hQ hnq ho hoa ho43 HFU hk2
      rcases HK1.out with ⟨rfl,_⟩ | ⟨rfl,l1,sm1,S1⟩
      · go_wp2_with fail
        go_ret
        exact ⟨rfl,HBO.out.trans ho44⟩
      · rcases HK2.out with ⟨rfl,_⟩ | ⟨rfl,l2,sm2,S2⟩
        · clear sm1 S1
          go_wp2_with fail
          go_ret
          exact ⟨rfl,HBO.out.trans ho44⟩
        · obtain ⟨hva,hT3,a0,a1,a2⟩ := HA.out _ ho44
          obtain ⟨hnp,p0,p1,p2⟩ := HP.out _ ho1416
          have H1 := Lib.hid (sub_at _ _ z1 e1 zp ep _ Y P _ hva hnp HSM.out sm1 HS.out S1 hT3)
          have HSS := Lib.hid (And.intro sm1 (And.intro sm2 (And.intro S1 (And.intro S2 (And.intro l1 l2)))))
          clear HK1 HK2 sm1 sm2 S1 S2 l1 l2 hva hT3 hnp
          go_wp2_with fail
          generalize hXq : w15.heap.size = Xq at *
          generalize w15.alloc (.cells #[.bool nq,.slice Aq dq.length cq,.int .i64 eq] 24) = w16 at *
          refine H1.out.mono ?_
          rintro en w17 ⟨xl,zl,el,rfl,hnl,Sl,ho⟩
          obtain ⟨nl,Al,dl,cl,rfl,_⟩ := id hnl
          have hoa := (Only.refl w17 (fun _ => False)).alloc (.cells #[.bool nl,.slice Al dl.length cl,.int .i64 el] 24)
          have hnl := hnl.only hoa
          have hL := heap_alloc_new w17 (.cells #[.bool nl,.slice Al dl.length cl,.int .i64 el] 24)
          have ho1618 := ho.trans hoa
          have ho45 := ho44.trans ho1618
          have kl : ∀ W,Only (w17.alloc (.cells #[.bool nl,.slice Al dl.length cl,.int .i64 el] 24)) W (fun _ => False) → NumV W (.agg #[.bool nl,.slice Al dl.length cl,.int .i64 el]) zl el ∧ W.cell? ⟨w17.heap.size,0,none⟩ = some (.bool nl) ∧ W.cell? ⟨w17.heap.size,1,none⟩ = some (.slice Al dl.length cl) ∧ W.cell? ⟨w17.heap.size,2,none⟩ = some (.int .i64 el) := fun W h => by
            have hh := (h.kept _ (blk_lt hL) (fun h => h)).trans hL
            exact ⟨hnl.only h,blk_cell hh 0,blk_cell hh 1,blk_cell hh 2⟩
          have HL := Lib.hid kl
          have HSl := Lib.hid Sl
          clear kl hL hnl ho hoa ho44 H1 HP a0 a1 a2 p0 p1 p2 Sl
          obtain ⟨hva,hT3,a0,a1,a2⟩ := HA.out _ ho45
          obtain ⟨hnq,q0,q1,q2⟩ := HQ.out _ ho1618
          have H1 := Lib.hid (sub_at _ _ zq eq z1 e1 _ Q Y _ hnq hva HSS.out.2.1 HSM.out HSS.out.2.2.2.1 HS.out hT3)
          clear hva hT3 hnq
          go_wp2_with fail
          generalize hXl : w17.heap.size = Xl at *
          generalize w17.alloc (.cells #[.bool nl,.slice Al dl.length cl,.int .i64 el] 24) = w18 at *
          refine H1.out.mono ?_
          rintro en w19 ⟨xh,zh,eh,rfl,hnh,Sh,ho⟩
          obtain ⟨nh,Ah,dh,ch,rfl,_⟩ := id hnh
          have hoa := (Only.refl w19 (fun _ => False)).alloc (.cells #[.bool nh,.slice Ah dh.length ch,.int .i64 eh] 24)
          have hnh := hnh.only hoa
          have hH := heap_alloc_new w19 (.cells #[.bool nh,.slice Ah dh.length ch,.int .i64 eh] 24)
          have ho46 := ho45.trans (ho.trans hoa)
          obtain ⟨hnl,m0,m1,m2⟩ := HL.out _ (ho.trans hoa)
          have h0 := blk_cell hH 0
          have h1 := blk_cell hH 1
          have h2 := blk_cell hH 2
          have H2 := Lib.hid (cmp_at _ _ zl el zh eh _ (Y - P) (Q - Y) _ hnl hnh HSl.out Sh)
          clear hH ho hoa ho45 H1 HQ HL a0 a1 a2 q0 q1 q2 hnl hnh Sh HSl HA HS HSM
          go_wp2_with fail
          refine H2.out.mono ?_
          rintro en w21 ⟨rfl,ho⟩
          have HF := Lib.hid (HBO.out.trans (ho46.trans ho))
          clear ho ho46 HBO H2 m0 m1 m2 h0 h1 h2
          have HE2 := Lib.hid (HE.out.2 HSS.out.2.2.2.2.1 HSS.out.2.2.2.2.2)
          clear HSS HE
          rcases Int.lt_trichotomy (Y - P - (Q - Y)) 0 with h | h | h
          · have hk : (cn == cd) = true := by rw [beq_iff_eq]; exact HE2.out.1 (by omega)
            rw [show (Y - P - (Q - Y)).sign = -1 from Int.sign_eq_neg_one_of_neg h]
            clear h HE2
            go_wp2_with fail
            go_ret
            exact ⟨rfl,HF.out⟩
          · have hk : bits .and .i64 cn 1 = 0 := HE2.out.2.2 (by omega)
            rw [show (Y - P - (Q - Y)).sign = 0 by rw [h]; rfl]
            clear h HE2
            go_wp2_with fail
            go_ret
            exact ⟨rfl,HF.out⟩
          · have hk : (cn == cu) = true := by rw [beq_iff_eq]; exact HE2.out.2.1 (by omega)
            rw [show (Y - P - (Q - Y)).sign = 1 from Int.sign_eq_one_of_pos h]
            clear h HE2
            go_wp2_with fail
            go_ret
            exact ⟨rfl,HF.out⟩
end Go.Proofs.YtlfmgdpbjapdjaaGreatFmtBesafter
