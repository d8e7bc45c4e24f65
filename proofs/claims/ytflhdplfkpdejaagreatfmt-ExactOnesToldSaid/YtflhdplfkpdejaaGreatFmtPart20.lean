/- Part 20 of the walk of ExactOnes: LawF LawH LawI LawJ LawK. -/
import Derived.Test.YtflhdplfkpdejaaGreatFmtPart19
import Derived.Lib.AppendZeros
namespace Go.Proofs.YtflhdplfkpdejaaGreatFmt
open Go.RowKit Go.Proofs.YtflhdplfkpdejaaGreatFmtW.PrintWords Go.Proofs.YtflhdplfkpdejaaGreatFmtW.PrintLast
abbrev Ent := Value × List Int
abbrev noEnt : Ent := (undef, [])
structure Kp (B k : Nat) (es : List Ent) (w : World) : Prop where
  ex : ∃ vL vW ws, w.heap[k]? = some (.cells #[vL, vW] 28 (0, 0)) ∧ w.ownsRow B 22 1 vL es.length (es.map Prod.fst) ∧ w.ownsRow B 22 1 vW es.length ws ∧ (∀ b, vL.ownBlock = some b → vW.ownBlock ≠ some b) ∧ (∀ i, i < es.length → w.ownsRow B 3 1 (ws.getD i undef) (es.getD i noEnt).2.length (nums .i64 (es.getD i noEnt).2))
  hB : B ≤ k
  own : ∀ i, i < es.length → w.ownsRow B 3 1 (es.getD i noEnt).1 (es.getD i noEnt).2.length (nums .i64 (es.getD i noEnt).2)
  apart : ∀ i j, i < es.length → j < es.length → i ≠ j → ∀ b, (es.getD i noEnt).1.ownBlock = some b → (es.getD j noEnt).1.ownBlock ≠ some b
def Spare (w w' : World) : Prop := ∀ (b : Nat) (cs : Array Value) (T : TypeId), w.heap[b]? = some (.cells cs T (0, 0)) → T ≠ 28 → T ≠ 22 → w'.heap[b]? = w.heap[b]?
theorem Spare.trans {a b c : World} (h : Spare a b) (k : Spare b c) : Spare a c := fun x cs T hx h1 h2 => (k x cs T ((h x cs T hx h1 h2).trans hx) h1 h2).trans (h x cs T hx h1 h2)
theorem Spare.of_only {w w' : World} (h : Only w w' (fun _ => False)) : Spare w w' := fun b _ _ hb _ _ => h.kept b (blk_lt hb) (fun h => h)
theorem Spare.of_grown {w w' : World} {row : Option Nat} (h : w.grownBy w' row) (hrow : ∀ r, row = some r → ∃ cs : Array Value, w.heap[r]? = some (.cells cs 22 (0, 0))) : Spare w w' := fun b cs T hb _ h2 => h.block b (blk_lt hb) (fun e => by
  obtain ⟨cs', hc⟩ := hrow b e.symm
  rw [hb] at hc
  injection hc with hc
  injection hc with _ hT
  exact h2 hT)
theorem Spare.own {w w' : World} (h : Spare w w') {B n : Nat} {v : Value} {xs : List Value} (ho : w.ownsRow B 3 1 v n xs) : w'.ownsRow B 3 1 v n xs :=
  own_move ho fun b hb => by
    obtain ⟨cs, hc⟩ := own_typed ho b hb
    exact h b cs _ hc (by decide) (by decide)
theorem Spare.set {w w' : World} (h : Spare w w') {k : Nat} {cs : Array Value} (hk : w'.heap[k]? = some (.cells cs 28 (0, 0))) (i : Nat) (v : Value) : Spare w (w'.setCell ⟨k, i, none⟩ v) := fun b cs' T hb h1 h2 => by
  have e := h b cs' T hb h1 h2
  have hne : b ≠ k := blk_ne (e.trans hb) hk h1
  exact (blk_far (e.trans hb) (p := ⟨k, i, none⟩) hne v).trans hb.symm
theorem lists3 : (Tryz.prog.info? 22).map (fun i => (i.zero, i.size, i.bytes)) = some (some (.slice none 0 0), 1, 24) := by kernel_rfl
theorem Kp.only {B k : Nat} {es : List Ent} {w w' : World} (h : Kp B k es w) (ho : Only w w' (fun _ => False)) : Kp B k es w' := by
  have mv : ∀ {e : TypeId} {v : Value} {n : Nat} {xs : List Value}, w.ownsRow B e 1 v n xs → w'.ownsRow B e 1 v n xs := fun h => own_move h (fun b hb => ho.kept b (own_lt h b hb) (fun h => h))
  obtain ⟨vL, vW, ws, h1, h2, h3, h4, h5⟩ := h.ex
  exact ⟨⟨vL, vW, ws, (ho.kept _ (blk_lt h1) (fun h => h)).trans h1, mv h2, mv h3, h4, fun i hi => mv (h5 i hi)⟩, h.hB, fun i hi => mv (h.own i hi), h.apart⟩
theorem getD_snoc {α : Type} (l : List α) (x d : α) (i : Nat) (h : i < (l ++ [x]).length) : (i < l.length ∧ (l ++ [x]).getD i d = l.getD i d) ∨ (i = l.length ∧ (l ++ [x]).getD i d = x) := by
  rw [List.length_append, List.length_singleton] at h
  by_cases h1 : i < l.length
  · left
    exact ⟨h1, by simp [List.getD, List.getElem?_append_left h1]⟩
  · right
    obtain rfl : i = l.length := by omega
    exact ⟨rfl, by simp [List.getD]⟩
theorem append_ints (base : Nat) (v : Value) (xs ds : List Int) (A : Option Addr) (c : Nat) (ty : TypeId) (w : World) (HO : w.ownsRow base 3 1 v xs.length (nums .i64 xs)) (HR : ReadsInt w .i64 A ds.length ds) (hbase : base ≤ w.heap.size) (hl : (xs.length + ds.length) * 8 ≤ 140737488355328) :
    ∃ v1 w1, (Builtin.append_ #[22, 22] ty #[v, .slice A ds.length c]).run Tryz.prog w = .ok v1 w1 ∧ w1.ownsRow base 3 1 v1 (xs ++ ds).length (nums .i64 (xs ++ ds)) ∧ w.grownBy w1 v.ownBlock ∧ (v1.ownBlock = v.ownBlock ∨ v1.ownBlock = some w.heap.size) := by
  obtain ⟨i, hi, hf⟩ := Option.map_eq_some_iff.1 int3
  simp only [Prod.mk.injEq] at hf
  obtain ⟨hz, hs, hby⟩ := hf
  have hmx : maxLen = 9223372036854775807 := by decide
  rcases A with _ | ad
  · have h0 : ds = [] := by
      cases ds with
      | nil => rfl
      | cons d ds =>
        obtain ⟨ad, h, _⟩ := HR.2.2 (by simp)
        cases h
    subst h0
    refine ⟨v, w, ?_, by simpa using HO, World.grownBy.refl w _, .inl rfl⟩
    rcases HO.2 with ⟨rfl, hn⟩ | ⟨g, cap, cur, rfl, _, _, hnc, _⟩
    · simp [Builtin.append_, run_underlying Tryz.underlying22, sizeOf, typeInfo, hi, Builtin.lenOf, Builtin.firstCells]
    · simp [Builtin.append_, run_underlying Tryz.underlying22, sizeOf, typeInfo, hi, Builtin.lenOf, Builtin.firstCells, hnc, storeCells]
  · have hcells : ∀ j u, (nums .i64 ds)[j]? = some u → w.cell? (ad.add j) = some u := by
      intro j u hu
      obtain ⟨h1, rfl⟩ := List.getElem?_eq_some_iff.1 hu
      rw [nums_length] at h1
      obtain ⟨ad', h', hc⟩ := HR.2.2 (by omega)
      cases h'
      rw [hc j h1]
      simp [nums, List.getD, h1]
    obtain ⟨v1, w1, hr, h2, h3, _, h5⟩ := run_append_own_at (P := Tryz.prog) w base 22 ty 3 i (.int .i64 0) 1 8 Tryz.underlying22 hi hz hs hby rfl (by omega) v xs.length (nums .i64 xs) HO ad ds.length c (nums .i64 ds) (by simp [nums]) hcells
      (by intro u hu; simp only [nums, List.mem_map] at hu; obtain ⟨q, _, rfl⟩ := hu; rfl) (by omega) hl hbase
    exact ⟨v1, w1, hr, by simpa [nums] using h2, h3, h5⟩
theorem append_list (base g : Nat) (v x : Value) (xs : List Value) (ty : TypeId) (w : World) (HO : w.ownsRow base 22 1 v xs.length xs) (hx : w.cell? ⟨g, 0, none⟩ = some x) (h1 : x.oneCell' = true) (hbase : base ≤ w.heap.size) (hl : xs.length ≤ 1000) :
    ∃ v1 w1, (Builtin.append_ #[26, 26] ty #[v, .slice (some ⟨g, 0, none⟩) 1 1]).run Tryz.prog w = .ok v1 w1 ∧ w1.ownsRow base 22 1 v1 (xs.length + 1) (xs ++ [x]) ∧ w.grownBy w1 v.ownBlock ∧ (v1.ownBlock = v.ownBlock ∨ v1.ownBlock = some w.heap.size) := by
  obtain ⟨i, hi, hf⟩ := Option.map_eq_some_iff.1 lists3
  simp only [Prod.mk.injEq] at hf
  obtain ⟨hz, hs, hby⟩ := hf
  have hmx : maxLen = 9223372036854775807 := by decide
  obtain ⟨v1, w1, hr, h2, h3, _, h5⟩ := run_append_own_at (P := Tryz.prog) w base 26 ty 22 i (.slice none 0 0) 1 24 Tryz.underlying26 hi hz hs hby rfl (by omega) v xs.length xs HO ⟨g, 0, none⟩ 1 1 [x] (by simp)
    (fun j u hu => by
      match j, hu with
      | 0, hu => simp at hu; subst hu; simpa [Addr.add] using hx) (by simpa using h1) (by omega) (by omega) hbase
  exact ⟨v1, w1, hr, h2, h3, h5⟩
theorem same_l0 (ds : List Int) (hl : ds.length < 4611686018427387904) : ∀ (k i : Nat), i ≤ ds.length → ds.length - i < k → F.pupillaw2_Same.l0 k ds ds (i : Int) = some true
  | 0, i, _, h => by omega
  | k + 1, i, hi, h => by
    unfold F.pupillaw2_Same.l0
    by_cases hlt : (i : Int) < (ds.length : Int)
    · rw [if_pos hlt, if_pos (by omega), if_pos hlt, if_pos rfl, wrap_near i (by omega)]
      exact same_l0 ds hl k (i + 1) (by omega) (by omega)
    · rw [if_neg hlt]
theorem same_calls (A A' : Option Addr) (c c' : Nat) (ds : List Int) (w : World) (hr : ReadsInt w .i64 A ds.length ds) (hc : ds.length ≤ c) (hr' : ReadsInt w .i64 A' ds.length ds) (hc' : ds.length ≤ c') (hl : ds.length < 4611686018427387904) :
    Calls Tryz.prog 24 #[.slice A ds.length c, .slice A' ds.length c'] w fun e w' => e = .returned (.bool true) ∧ Only w w' (fun _ => False) :=
  (F.pupillaw2_Same.calls (ds.length + 1) A c ds A' c' ds true w (kd_ints hr) hc (kd_ints hr') hc' (by
    unfold F.pupillaw2_Same.f
    rw [if_pos rfl]
    exact same_l0 ds hl (ds.length + 1) 0 (Nat.zero_le _) (by omega))).mono fun _ _ ⟨h1, h2⟩ => ⟨h1, Only.of_drawn h2⟩
theorem only_grown0 {w w1 : World} {n m : Nat} (h : w.grownBy w1 (Value.slice none n m).ownBlock) : Only w w1 (fun _ => False) := (Only.of_grown h).mono (fun _ _ h => by cases h)
theorem own_only {w w' : World} {B : Nat} {e : TypeId} {n : Nat} {v : Value} {xs : List Value} (h : w.ownsRow B e 1 v n xs) (ho : Only w w' (fun _ => False)) : w'.ownsRow B e 1 v n xs := own_move h (fun b hb => ho.kept b (own_lt h b hb) (fun h => h))
theorem add_end {w wA W1 W3 W4 : World} {B k : Nat} {es : List Ent} {Al AW Av AM AN : Option Addr} {cl cW cv cM cN : Nat} {ds : List Int} {ws : List Value} (hB : B ≤ w.heap.size) (h01 : Only wA W1 (fun _ => False)) (hk : Kp B k es w)
    (hAvW : ∀ b, (Value.slice Av (es.length + 1) cv).ownBlock = some b → (Value.slice AW es.length cW).ownBlock ≠ some b)
    (h5 : ∀ i, i < es.length → w.ownsRow B 3 1 (ws.getD i undef) (es.getD i noEnt).2.length (nums .i64 (es.getD i noEnt).2)) (hl : w.ownsRow B 3 1 (.slice Al ds.length cl) ds.length (nums .i64 ds))
    (hap : ∀ i, i < es.length → ∀ b, (es.getD i noEnt).1.ownBlock = some b → (Value.slice Al ds.length cl).ownBlock ≠ some b)
    (hBA : Below B w wA) (hsA : Spare w wA) (hL2 : wA.ownsRow B 22 1 (.slice Av (es.length + 1) cv) (es.length + 1) (es.map Prod.fst ++ [.slice Al ds.length cl])) (hW2 : W1.ownsRow B 22 1 (.slice AW es.length cW) es.length ws) (hwl : ws.length = es.length)
    (hoC : Only W1 W3 (fun _ => False)) (hgM : W3.grownBy W4 (Value.slice AW es.length cW).ownBlock) (hownM : W4.ownsRow B 22 1 (.slice AM (ws.length + 1) cM) (ws.length + 1) (ws ++ [.slice AN ds.length cN])) (hatM : (Value.slice AM (ws.length + 1) cM).ownBlock = (Value.slice AW es.length cW).ownBlock ∨ (Value.slice AM (ws.length + 1) cM).ownBlock = some W3.heap.size)
    (hN : W3.ownsRow W1.heap.size 3 1 (.slice AN ds.length cN) ds.length (nums .i64 ds)) (hkM : W4.heap[k]? = some (.cells #[.slice Av (es.length + 1) cv, .slice AW es.length cW] 28 (0, 0))) :
    Kp B k (es ++ [(.slice Al ds.length cl, ds)]) (W4.setCell ⟨k, 1, none⟩ (.slice AM (ws.length + 1) cM)) ∧ Below B w (W4.setCell ⟨k, 1, none⟩ (.slice AM (ws.length + 1) cM)) ∧ Spare w (W4.setCell ⟨k, 1, none⟩ (.slice AM (ws.length + 1) cM)) := by
  have hoA3 : Only wA W3 (fun _ => False) := h01.trans hoC
  have hW3 := own_only hW2 hoC
  have hs34 : Spare W3 W4 := Spare.of_grown hgM (fun r hr => own_typed hW3 r hr)
  have hs : Spare w (W4.setCell ⟨k, 1, none⟩ (.slice AM (ws.length + 1) cM)) := ((hsA.trans (Spare.of_only hoA3)).trans hs34).set hkM 1 _
  have hs3f : Spare W3 (W4.setCell ⟨k, 1, none⟩ (.slice AM (ws.length + 1) cM)) := hs34.set hkM 1 _
  have hBw := hBA.size
  have hB3 := hoA3.base.size
  have hL3 := own_only hL2 hoA3
  have hL4 := own_move hL3 (fun b hb => hgM.block b (own_lt hL3 b hb) (fun e => hAvW b hb e.symm))
  have fin : ∀ {v : Value} {n : Nat} {xs : List Value}, W4.ownsRow B 22 1 v n xs → (W4.setCell ⟨k, 1, none⟩ (.slice AM (ws.length + 1) cM)).ownsRow B 22 1 v n xs := fun h => own_move h (fun b hb => by
    obtain ⟨cs, hc⟩ := own_typed h b hb
    have hbk : b ≠ k := blk_ne hc hkM (by decide)
    exact (blk_far hc (p := ⟨k, 1, none⟩) hbk _).trans hc.symm)
  have hlen : (es ++ [((Value.slice Al ds.length cl, ds) : Ent)]).length = es.length + 1 := by simp
  refine ⟨⟨⟨.slice Av (es.length + 1) cv, .slice AM (ws.length + 1) cM, ws ++ [.slice AN ds.length cN], by simpa using blk_set hkM 1 (.slice AM (ws.length + 1) cM), ?_, ?_, ?_, ?_⟩, hk.hB, ?_, ?_⟩, ?_, hs⟩
  · rw [hlen, List.map_append]
    exact fin hL4
  · rw [hlen, ← hwl]
    exact fin hownM
  · intro b hb e
    rcases hatM with h | h
    · exact hAvW b hb (h ▸ e)
    · rw [h] at e
      cases e
      exact absurd (own_lt hL3 _ hb) (Nat.lt_irrefl _)
  · intro i hi
    rcases getD_snoc es (.slice Al ds.length cl, ds) noEnt i hi with ⟨h1, h2⟩ | ⟨h1, h2⟩
    · have e : (ws ++ [Value.slice AN ds.length cN]).getD i undef = ws.getD i undef := by simp [List.getD, List.getElem?_append_left (show i < ws.length by omega)]
      rw [h2, e]
      exact hs.own (h5 i h1)
    · have e : (ws ++ [Value.slice AN ds.length cN]).getD i undef = .slice AN ds.length cN := by
        rw [h1, ← hwl]; simp [List.getD]
      rw [h2, e]
      have hB2 : B ≤ W1.heap.size := by
        have := h01.base.size
        omega
      exact own_weaken (hs3f.own hN) hB2
  · intro i hi
    rcases getD_snoc es (.slice Al ds.length cl, ds) noEnt i hi with ⟨h1, h2⟩ | ⟨h1, h2⟩
    · rw [h2]; exact hs.own (hk.own i h1)
    · rw [h2]; exact hs.own hl
  · intro i j hi hj hne b hb
    rcases getD_snoc es (.slice Al ds.length cl, ds) noEnt i hi with ⟨h1, h2⟩ | ⟨h1, h2⟩ <;> rcases getD_snoc es (.slice Al ds.length cl, ds) noEnt j hj with ⟨h3, h4⟩ | ⟨h3, h4⟩
    · rw [h2] at hb; rw [h4]; exact hk.apart i j h1 h3 hne b hb
    · rw [h2] at hb; rw [h4]; exact hap i h1 b hb
    · rw [h2] at hb; rw [h4]; exact fun e => hap j h3 b e hb
    · omega
  · exact ((hBA.trans (hoA3.below (Nat.le_trans hB hBw) (fun _ h => h.elim))).grown hgM (by omega) (own_base hW3)).setCell (p := ⟨k, 1, none⟩) hk.hB _
set_option linter.unusedVariables false in
set_option linter.unusedSimpArgs false in
set_option maxRecDepth 100000 in
set_option maxHeartbeats 8000000 in
theorem keepAdd (B k : Nat) (es : List Ent) (Al A : Option Addr) (cl c : Nat) (ds : List Int) (w : World) (hB : B ≤ w.heap.size) (hk : Kp B k es w) (hl : w.ownsRow B 3 1 (.slice Al ds.length cl) ds.length (nums .i64 ds)) (hap : ∀ i, i < es.length → ∀ b, (es.getD i noEnt).1.ownBlock = some b → (Value.slice Al ds.length cl).ownBlock ≠ some b) (hr : ReadsInt w .i64 A ds.length ds) (hc : ds.length ≤ c) (hd : ds.length ≤ 100000) (hn : es.length < 300)
    (hrl : ReadsInt w .i64 Al ds.length ds) (hcl : ds.length ≤ cl) (hrf : ∀ W, Below B w W → Spare w W → ReadsInt W .i64 A ds.length ds) :
    Calls Tryz.prog 23 #[.pointer (some ⟨k, 0, none⟩), .slice Al ds.length cl, .slice A ds.length c] w fun e w' => e = .returned (.bool true) ∧ Kp B k (es ++ [(.slice Al ds.length cl, ds)]) w' ∧ Below B w w' ∧ Spare w w' := by
  obtain ⟨vL, vW, ws, h1, h2, h3, h4, h5⟩ := hk.ex
  obtain ⟨AL, cL, rfl⟩ := own_slice h2
  obtain ⟨AW, cW, rfl⟩ := own_slice h3
  have c0 : w.cell? ⟨k, 0, none⟩ = some (.slice AL es.length cL) := blk_cell h1 0
  have f0 := blk_frozen h1 0
  have hlen : (es.map Prod.fst).length = es.length := by simp
  have hnn : (es.length : Int) < 300 := by omega
  have H2 : Hid (w.ownsRow B 22 1 (.slice AL es.length cL) (es.map Prod.fst).length (es.map Prod.fst)) := Lib.hid (by rw [hlen]; exact h2)
  have HL : Hid (((es.map Prod.fst).length + 1) * 24 ≤ 140737488355328) := Lib.hid (by rw [hlen]; omega)
  have HBB := Lib.hid hB
  have HK := Lib.hid (And.intro hk (And.intro h1 (And.intro h2 (And.intro h3 (And.intro h4 h5)))))
  have HR := Lib.hid (And.intro hl (And.intro hap (And.intro hr (And.intro hc (And.intro hd (And.intro hrl hcl))))))
  have HRF := Lib.hid hrf
  clear h1 h2 h3 h4 h5 hk hl hap hr hc hd hrl hcl hlen hn hB hrf
  go_enter Tryz.func23, Tryz.ntmps23
  go_wp2_with (at_builtin; refine print_append (w0 := w) B rfl _ _ 26 22 (.slice none 0 0) 24 rfl Tryz.underlying26 lists3 rfl (by decide) (.slice AL es.length cL) (es.map Prod.fst) (.slice Al ds.length cl) rfl rfl rfl H2.out (Below.refl _ _) HBB.out HL.out ?_)
  intro v1 w1 hown1 hB1 hg1 hat1
  obtain ⟨hk, h1, h2, h3, h4, h5⟩ := HK.out
  have hkL : (Value.slice AL es.length cL).ownBlock ≠ some k := fun e => by
    obtain ⟨cs, hc⟩ := own_typed h2 k e
    exact blk_ne h1 hc (by decide) rfl
  have hkW : (Value.slice AW es.length cW).ownBlock ≠ some k := fun e => by
    obtain ⟨cs, hc⟩ := own_typed h3 k e
    exact blk_ne h1 hc (by decide) rfl
  have hk1 := (hg1.block k (blk_lt h1) (fun e => hkL e.symm)).trans h1
  have c0' : w1.cell? ⟨k, 0, none⟩ = some (.slice AL es.length cL) := blk_cell hk1 0
  have f0' := blk_frozen hk1 0
  have hs1 : Spare w w1 := Spare.of_grown hg1 (fun r hr => own_typed h2 r hr)
  obtain ⟨Av, cv, rfl⟩ := own_slice hown1
  have hsA := (hs1.set hk1 0 (.slice Av (es.length + 1) cv))
  have hkA : (w1.setCell ⟨k, 0, none⟩ (.slice Av (es.length + 1) cv)).heap[k]? = some (.cells #[.slice Av (es.length + 1) cv, .slice AW es.length cW] 28 (0, 0)) := by simpa using blk_set hk1 0 (.slice Av (es.length + 1) cv)
  have hW2 : (w1.setCell ⟨k, 0, none⟩ (.slice Av (es.length + 1) cv)).ownsRow B 22 1 (.slice AW es.length cW) es.length ws := own_move h3 (fun b hb => by
    have hbk : b ≠ k := fun e => hkW (e ▸ hb)
    have hb1 := (hg1.block b (own_lt h3 b hb) (fun e => h4 b e.symm hb)).trans (own_typed h3 b hb).choose_spec
    exact (blk_far hb1 (p := ⟨k, 0, none⟩) hbk (.slice Av (es.length + 1) cv)).trans (own_typed h3 b hb).choose_spec.symm)
  have hL2 : (w1.setCell ⟨k, 0, none⟩ (.slice Av (es.length + 1) cv)).ownsRow B 22 1 (.slice Av (es.length + 1) cv) (es.length + 1) (es.map Prod.fst ++ [.slice Al ds.length cl]) := by
    have h := hown1
    exact own_move h (fun b hb => by
      obtain ⟨cs, hc⟩ := own_typed h b hb
      have hbk : b ≠ k := blk_ne hc hk1 (by decide)
      exact (blk_far hc (p := ⟨k, 0, none⟩) hbk (.slice Av (es.length + 1) cv)).trans hc.symm)
  have hBA : Below B w (w1.setCell ⟨k, 0, none⟩ (.slice Av (es.length + 1) cv)) := hB1.setCell (p := ⟨k, 0, none⟩) hk.hB (.slice Av (es.length + 1) cv)
  have hAvW : ∀ b, (Value.slice Av (es.length + 1) cv).ownBlock = some b → (Value.slice AW es.length cW).ownBlock ≠ some b := fun b hb e => by
    rcases hat1 with ha | ⟨b', ha, hlt⟩
    · exact h4 b (ha ▸ hb) e
    · rw [ha] at hb
      cases hb
      exact absurd (own_lt h3 _ e) (Nat.not_lt.2 hlt)
  clear hg1 hat1 hown1 hB1 hs1 h2 h3
  go_wp2_with fail
  generalize w1.setCell ⟨k, 0, none⟩ (.slice Av (es.length + 1) cv) = wA at *
  clear c0' f0' hk1 c0 f0
  have hW1 : wA.drew.cell? ⟨k, 1, none⟩ = some (.slice AW es.length cW) := blk_cell hkA 1
  have hrd : ReadsInt wA.drew .i64 A ds.length ds := reads_only (HRF.out wA hBA hsA) ((Only.refl wA (fun _ => False)).drew) (fun _ _ h => h)
  have hBs : B ≤ wA.drew.heap.size := hBA.size |> fun h => Nat.le_trans HBB.out h
  have hkC : wA.drew.heap[k]? = _ := hkA
  replace hW2 : wA.drew.ownsRow B 22 1 (.slice AW es.length cW) es.length ws := hW2
  have hwl : ws.length = es.length := by have := hW2.1; omega
  have HA := Lib.hid (And.intro hBA (And.intro hsA hL2))
  have HO1 := Lib.hid ((Only.refl wA (fun _ => False)).drew)
  refine start_ (S := (fun W => W.cell? ⟨k, 1, none⟩ = some (.slice AW es.length cW))) (ds := [11]) #[false, false, false, false, false, false, false, false, false, false, false, false] (by kernel_rfl) rfl rfl ?_ (fun hHeld => ?_)
  · exact hW1
  generalize wA.drew = W1 at *
  refine pure_ (i := 0) (oi := ?o0) (v := ?v0) #[true, false, false, false, false, false, false, false, false, false, false, false] ?h0 rfl (by kernel_rfl) ?q0 (Or.inl ⟨?w0, ?y0⟩) rfl ?r0
  case h0 => (simp only [List.getElem?_toArray, List.getElem?_cons_succ, List.getElem?_cons_zero]; rfl)
  case q0 => exact fun _ _ _ h => h
  case w0 => rfl
  case y0 => (intro W; go_simp; first | done | with_reducible rfl)
  simp only [Act.put, List.setIfInBounds_toArray, List.set_cons_zero, List.set_cons_succ]
  refine pure_ (i := 1) (oi := ?o1) (v := ?v1) #[true, true, false, false, false, false, false, false, false, false, false, false] ?h1 rfl (by kernel_rfl) ?q1 (Or.inl ⟨?w1, ?y1⟩) rfl ?r1
  case h1 => (simp only [List.getElem?_toArray, List.getElem?_cons_succ, List.getElem?_cons_zero]; rfl)
  case q1 => exact fun _ _ _ h => h
  case w1 => rfl
  case y1 => (intro W; go_simp; first | done | with_reducible rfl)
  simp only [Act.put, List.setIfInBounds_toArray, List.set_cons_zero, List.set_cons_succ]
  refine pure_ (i := 2) (oi := ?o2) (v := ?v2) #[true, true, true, false, false, false, false, false, false, false, false, false] ?h2 rfl (by kernel_rfl) ?q2 (Or.inl ⟨?w2, ?y2⟩) rfl ?r2
  case h2 => (simp only [List.getElem?_toArray, List.getElem?_cons_succ, List.getElem?_cons_zero]; rfl)
  case q2 => exact fun _ _ _ h => h
  case w2 => rfl
  case y2 => (intro W; go_simp; first | done | with_reducible rfl)
  simp only [Act.put, List.setIfInBounds_toArray, List.set_cons_zero, List.set_cons_succ]
  refine pure_ (i := 3) (oi := ?o3) (v := ?v3) #[true, true, true, true, false, false, false, false, false, false, false, false] ?h3 rfl (by kernel_rfl) ?q3 (Or.inl ⟨?w3, ?y3⟩) rfl ?r3
  case h3 => (simp only [List.getElem?_toArray, List.getElem?_cons_succ, List.getElem?_cons_zero]; rfl)
  case q3 => exact fun _ _ _ h => h
  case w3 => rfl
  case y3 => (intro W; go_simp; first | done | with_reducible rfl)
  simp only [Act.put, List.setIfInBounds_toArray, List.set_cons_zero, List.set_cons_succ]
  refine pure_ (i := 5) (oi := ?o4) (v := ?v4) #[true, true, true, true, false, true, false, false, false, false, false, false] ?h4 rfl (by kernel_rfl) ?q4 (Or.inl ⟨?w4, ?y4⟩) rfl ?r4
  case h4 => (simp only [List.getElem?_toArray, List.getElem?_cons_succ, List.getElem?_cons_zero]; rfl)
  case q4 => exact fun _ _ _ h => h
  case w4 => rfl
  case y4 => (intro W; go_simp; first | done | with_reducible rfl)
  simp only [Act.put, List.setIfInBounds_toArray, List.set_cons_zero, List.set_cons_succ]
  refine wpAnyLast_take (i := 4) (oi := ?o5) (v := ?v5) ?h5 (by kernel_rfl) (by kernel_rfl) (by kernel_rfl) (by kernel_rfl) (by kernel_rfl) ?q5 (Or.inl ⟨?w5, ?y5⟩) hHeld ?r5
  case h5 => (simp only [List.getElem?_toArray, List.getElem?_cons_succ, List.getElem?_cons_zero]; rfl)
  case q5 => exact fun _ _ _ h => h
  case w5 => rfl
  case y5 => (intro W hSw; go_simp; first | done | with_reducible rfl)
  simp only [Act.put, List.setIfInBounds_toArray, List.set_cons_zero, List.set_cons_succ]
  refine wpAnyLast_ready (rs := [6]) (by kernel_rfl) (by simp) ?_
  refine AllReadyL.cons (o := ?o6) ?h6 (by simp) (fun K hK => ?s6) ?m6
  case h6 => (simp only [List.getElem?_toArray, List.getElem?_cons_succ, List.getElem?_cons_zero]; rfl)
  case m6 => exact AllReadyL.nil
  rw [if_pos (by kernel_rfl)]
  obtain ⟨vN, W2, hrun, hownN, hgN, hatN⟩ := append_ints W1.heap.size (.slice none 0 0) [] ds A c 22 W1 (own_nil _ _ _ _) hrd (Nat.le_refl _) (by have := HR.out.2.2.2.2.1; simp; omega)
  refine Lib.wp_append_run W1 _ _ 22 22 rfl _ _ rfl rfl vN W2 hrun ?_
  replace hownN : W2.ownsRow W1.heap.size 3 1 vN ds.length (nums .i64 ds) := by simpa using hownN
  obtain ⟨AN, cN, rfl⟩ := own_slice hownN
  have hoN : Only W1 W2 (fun _ => False) := only_grown0 hgN
  refine hK.out _ _ ((World.cell?_of_block (hoN.kept k (World.block_lt_of_cell? _ _ hHeld) (fun h => h))).trans hHeld) (fun hHeldN => ?_)
  clear hK K hHeld
  have hHeld := hHeldN
  clear hHeldN
  clear hrun hgN hatN hrd
  simp only [Act.put, List.setIfInBounds_toArray, List.set_cons_zero, List.set_cons_succ]
  refine wpAnyLast_ready (rs := [7]) (by kernel_rfl) (by simp) ?_
  refine AllReadyL.cons (o := ?o7) ?h7 (by simp) (fun K hK => ?s7) ?m7
  case h7 => (simp only [List.getElem?_toArray, List.getElem?_cons_succ, List.getElem?_cons_zero]; rfl)
  case m7 => exact AllReadyL.nil
  go_simp
  have hbx := heap_alloc_new W2 (.cells #[.slice AN ds.length cN] 22)
  have hoB := (Only.refl W2 (fun _ => False)).alloc (.cells #[.slice AN ds.length cN] 22)
  have hownN2 := pw_own_below hownN (hoB.below (Nat.le_refl _) (fun _ h => h.elim))
  refine hK.out _ _ ((World.cell?_of_block (hoB.kept k (World.block_lt_of_cell? _ _ hHeld) (fun h => h))).trans hHeld) (fun hHeldN => ?_)
  clear hK K hHeld
  have hHeld := hHeldN
  clear hHeldN
  have hoC := hoN.trans hoB
  clear hoN hoB hownN
  simp only [Act.put, List.setIfInBounds_toArray, List.set_cons_zero, List.set_cons_succ]
  generalize W2.heap.size = gb at *
  generalize W2.alloc (.cells #[.slice AN ds.length cN] 22) = W3 at *
  refine wpAnyLast_ready (rs := [8]) (by kernel_rfl) (by simp) ?_
  refine AllReadyL.cons (o := ?o8) ?h8 (by simp) (fun K hK => ?s8) ?m8
  case h8 => (simp only [List.getElem?_toArray, List.getElem?_cons_succ, List.getElem?_cons_zero]; rfl)
  case m8 => exact AllReadyL.nil
  rw [if_pos (by kernel_rfl)]
  have hWs := hoC.base.size
  have hkC3 := (hoC.kept _ (blk_lt hkC) (fun h => h)).trans hkC
  obtain ⟨vM, W4, hrun, hownM, hgM, hatM⟩ := append_list B gb (.slice AW es.length cW) (.slice AN ds.length cN) ws 26 W3 (by rw [hwl]; exact own_only hW2 hoC) (blk_cell hbx 0) rfl (by omega) (by omega)
  refine Lib.wp_append_run W3 _ _ 26 26 rfl _ _ rfl rfl vM W4 hrun ?_
  refine hK.out _ _ ?_ (fun hHeldN => ?_)
  · exact (World.cell?_of_block (hgM.block k (World.block_lt_of_cell? _ _ hHeld) (by rintro e; exact hkW e.symm))).trans hHeld
  clear hK K hHeld
  have hHeld := hHeldN
  clear hHeldN
  clear hrun
  simp only [Act.put, List.setIfInBounds_toArray, List.set_cons_zero, List.set_cons_succ]
  refine pure_ (i := 9) (oi := ?o9) (v := ?v9) #[true, true, true, true, true, true, true, true, true, true, false, false] ?h9 rfl (by kernel_rfl) ?q9 (Or.inl ⟨?w9, ?y9⟩) rfl ?r9
  case h9 => (simp only [List.getElem?_toArray, List.getElem?_cons_succ, List.getElem?_cons_zero]; rfl)
  case q9 => exact fun _ _ _ h => h
  case w9 => rfl
  case y9 => (intro W; go_simp; first | done | with_reducible rfl)
  simp only [Act.put, List.setIfInBounds_toArray, List.set_cons_zero, List.set_cons_succ]
  refine pure_ (i := 10) (oi := ?o10) (v := ?v10) #[true, true, true, true, true, true, true, true, true, true, true, false] ?h10 rfl (by kernel_rfl) ?q10 (Or.inl ⟨?w10, ?y10⟩) rfl ?r10
  case h10 => (simp only [List.getElem?_toArray, List.getElem?_cons_succ, List.getElem?_cons_zero]; rfl)
  case q10 => exact fun _ _ _ h => h
  case w10 => rfl
  case y10 => (intro W; go_simp; first | done | with_reducible rfl)
  simp only [Act.put, List.setIfInBounds_toArray, List.set_cons_zero, List.set_cons_succ]
  refine wpAnyLast_ready (rs := [11]) (by kernel_rfl) (by simp) ?_
  refine AllReadyL.cons_last (o := ?o11) ?h11 (by simp) (fun K hK => ?s11) ?m11
  case h11 => (simp only [List.getElem?_toArray, List.getElem?_cons_succ, List.getElem?_cons_zero]; rfl)
  case m11 => exact AllReadyL.nil
  have hkM := (hgM.block k (blk_lt hkC3) (by rintro e; exact hkW e.symm)).trans hkC3
  obtain ⟨AM, cM, rfl⟩ := own_slice hownM
  have k1 : W4.cell? ⟨k, 1, none⟩ = some (.slice AW es.length cW) := blk_cell hkM 1
  have f1 := blk_frozen hkM 1
  go_simp
  refine hK.out _ _ ?_
  clear hK K k1 f1
  simp only [Act.put, List.setIfInBounds_toArray, List.set_cons_zero, List.set_cons_succ]
  refine done_ (by kernel_rfl) ?_
  have HF := Lib.hid (add_end HBB.out HO1.out hk hAvW h5 HR.out.1 HR.out.2.1 HA.out.1 HA.out.2.1 HA.out.2.2 hW2 hwl hoC hgM hownM hatM hownN2 hkM)
  rw [hwl] at HF
  clear hkM hownM hatM hgM hownN2 hoC hbx hkC hkC3 hHeld hWs hk h1 h4 h5 hW2 hwl hBs hBA hsA hL2 hAvW hkL hkW HA hkA
  obtain ⟨hl, hap, hr, hc, hd, hrl, hcl⟩ := HR.out
  obtain ⟨f1, f2, f3⟩ := HF.out
  have HS := Lib.hid (same_calls Al A cl c ds _ (own_reads1 (f3.own hl)) hcl (HRF.out _ f2 f3) hc (by omega))
  clear f1 f2 f3 hl hap hr hrl HR HRF
  go_wp2_with fail
  refine HS.out.mono ?_
  rintro en w9 ⟨rfl, ho9⟩
  obtain ⟨f1, f2, f3⟩ := HF.out
  go_wp2_with fail
  go_ret
  exact ⟨rfl, f1.only ho9, f2.trans (ho9.below (Nat.le_trans HBB.out f2.size) (fun _ h => h.elim)), f3.trans (Spare.of_only ho9)⟩
end Go.Proofs.YtflhdplfkpdejaaGreatFmt
namespace Go.Proofs.YtflhdplfkpdejaaGreatFmt
open Go.RowKit Go.Proofs.YtflhdplfkpdejaaGreatFmtW.PrintWords
theorem results_ans {fn : Func} {p q : Tmp} (h : fn.results = #[.cell p 24, .tmp q]) (tmps : Array Value) (w : World) (Y : Nat) (l a b c : Value)
    (hp : tmps.getD p undef = .pointer (some ⟨Y, 0, none⟩)) (hq : tmps.getD q undef = l) (hg : w.heap[Y]? = some (.cells #[a, b, c] 24 (0, 0))) :
    (results fn tmps).run Tryz.prog w = .ok (.tuple #[.agg #[a, b, c], l]) w := by
  have hp' : tmps[p]?.getD undef = .pointer (some ⟨Y, 0, none⟩) := by simpa using hp
  have hq' : tmps[q]?.getD undef = l := by simpa using hq
  have h0 : w.cell? ⟨Y, 0, none⟩ = some a := blk_cell hg 0
  have h1 : w.cell? ⟨Y, 1, none⟩ = some b := blk_cell hg 1
  have h2 : w.cell? ⟨Y, 2, none⟩ = some c := blk_cell hg 2
  simp [results, h, hp', hq', asAddr, go_sem, h0, h1, h2]
abbrev zeroNum : Obj := .cells #[.bool false, .slice none 0 0, .int .i64 0] 24
abbrev numObj (neg : Bool) (A : Option Addr) (n c : Nat) (e : Int) : Obj := .cells #[.bool neg, .slice A n c, .int .i64 e] 24
set_option maxRecDepth 100000 in
set_option maxHeartbeats 4000000 in
theorem turned_calls (neg : Bool) (A : Option Addr) (n c : Nat) (e : Int) (w : World) :
    Calls Tryz.prog 21 #[.agg #[.bool neg, .slice A n c, .int .i64 e]] w fun en w' => en = .returned (.agg #[.bool (if 0 < n then !neg else neg), .slice A n c, .int .i64 e]) ∧ Only w w' (fun _ => False) := by
  obtain ⟨h1, h2⟩ : ((w.alloc (numObj neg A n c e)).alloc zeroNum).heap[w.heap.size]? = some (numObj neg A n c e) ∧ ((w.alloc (numObj neg A n c e)).alloc zeroNum).heap[w.heap.size + 1]? = some zeroNum := ⟨heap_two' w _ _, heap_two w _ _⟩
  have ho := ((Only.refl w (fun _ => False)).alloc (numObj neg A n c e)).alloc zeroNum
  obtain ⟨w2, hw2⟩ : ∃ w2, w2 = (w.alloc (numObj neg A n c e)).alloc zeroNum := ⟨_, rfl⟩
  rw [← hw2] at h1 h2 ho
  have c0 : w2.cell? ⟨w.heap.size, 0, none⟩ = some (.bool neg) := blk_cell h1 0
  have c1 : w2.cell? ⟨w.heap.size, 1, none⟩ = some (.slice A n c) := blk_cell h1 1
  have c2 : w2.cell? ⟨w.heap.size, 2, none⟩ = some (.int .i64 e) := blk_cell h1 2
  have d0 : w2.cell? ⟨w.heap.size + 1, 0, none⟩ = some (.bool false) := blk_cell h2 0
  have d1 : w2.cell? ⟨w.heap.size + 1, 1, none⟩ = some (.slice none 0 0) := blk_cell h2 1
  have d2 : w2.cell? ⟨w.heap.size + 1, 2, none⟩ = some (.int .i64 0) := blk_cell h2 2
  have f0 := blk_frozen h1 0
  have g0 := blk_frozen h2 0
  have g1 := blk_frozen h2 1
  have g2 := blk_frozen h2 2
  have HO := Lib.hid (And.intro ho (And.intro h1 h2))
  clear ho h1 h2
  by_cases hn : 0 < n
  · have hn2 : (0 : Int) < n := by omega
    rw [if_pos hn]
    go_enter Tryz.func21, Tryz.ntmps21
    go_upto_region 1 with (fail)
    rw [← hw2]
    clear hw2
    go_wp2_with fail
    obtain ⟨ho, h1, h2⟩ := HO.out
    have h3 := blk_far h2 (p := ⟨w.heap.size, 0, none⟩) (by show w.heap.size + 1 ≠ w.heap.size; omega) (.bool !neg)
    obtain ⟨s1, s2⟩ := stored3 h3 (.bool !neg) (.slice A n c) (.int .i64 e)
    refine bodyPost_ret (results_cell_row rfl _ _ (w.heap.size + 1) 24 #[.bool !neg, .slice A n c, .int .i64 e] (0, 0) _ rfl s1 Tryz.underlying24 rfl (by kernel_rfl)) rfl ?_
    refine ⟨rfl, (ho.set (p := ⟨w.heap.size, 0, none⟩) (.inl (Nat.le_refl _)) _).step s2 ?_⟩
    rintro i hi rfl
    omega
  · obtain rfl : n = 0 := by omega
    rw [if_neg hn]
    go_enter Tryz.func21, Tryz.ntmps21
    go_upto_region 1 with (fail)
    rw [← hw2]
    clear hw2
    go_wp2_with fail
    obtain ⟨ho, h1, h2⟩ := HO.out
    obtain ⟨s1, s2⟩ := stored3 h2 (.bool neg) (.slice A 0 c) (.int .i64 e)
    refine bodyPost_ret (results_cell_row rfl _ _ (w.heap.size + 1) 24 #[.bool neg, .slice A 0 c, .int .i64 e] (0, 0) _ rfl s1 Tryz.underlying24 rfl (by kernel_rfl)) rfl ?_
    refine ⟨rfl, ho.step s2 ?_⟩
    rintro i hi rfl
    omega
set_option maxRecDepth 100000 in
set_option maxHeartbeats 4000000 in
theorem answer_calls (neg : Bool) (A : Option Addr) (c : Nat) (ds : List Int) (e : Int) (w : World) (hr : ReadsInt w .i64 A ds.length ds) (hc : ds.length ≤ c) (hl : ds.length < 4611686018427387904) :
    Calls Tryz.prog 41 #[.agg #[.bool neg, .slice A ds.length c, .int .i64 e]] w fun en w' => en = (if vB neg ds e then .returned (.tuple #[.agg #[.bool neg, .slice A ds.length c, .int .i64 e], .int .i64 0]) else errNum 2) ∧ Only w w' (fun _ => False) := by
  obtain ⟨h1, h2⟩ : ((w.alloc (numObj neg A ds.length c e)).alloc zeroNum).heap[w.heap.size]? = some (numObj neg A ds.length c e) ∧ ((w.alloc (numObj neg A ds.length c e)).alloc zeroNum).heap[w.heap.size + 1]? = some zeroNum := ⟨heap_two' w _ _, heap_two w _ _⟩
  have ho := ((Only.refl w (fun _ => False)).alloc (numObj neg A ds.length c e)).alloc zeroNum
  obtain ⟨w2, hw2⟩ : ∃ w2, w2 = (w.alloc (numObj neg A ds.length c e)).alloc zeroNum := ⟨_, rfl⟩
  rw [← hw2] at h1 h2 ho
  have K : ∀ W, Only w2 W (fun _ => False) → W.cell? ⟨w.heap.size, 0, none⟩ = some (.bool neg) ∧ W.cell? ⟨w.heap.size, 1, none⟩ = some (.slice A ds.length c) ∧ W.cell? ⟨w.heap.size, 2, none⟩ = some (.int .i64 e) ∧ W.heap[w.heap.size + 1]? = some zeroNum := fun W hW => by
    have a := (hW.kept _ (blk_lt h1) (fun h => h)).trans h1
    exact ⟨blk_cell a 0, blk_cell a 1, blk_cell a 2, (hW.kept _ (blk_lt h2) (fun h => h)).trans h2⟩
  obtain ⟨c0, c1, c2, _⟩ := K w2 (Only.refl _ _)
  have HK := Lib.hid K
  have HV := Lib.hid (refValid_calls neg A c ds e w2 (reads_only hr ho (fun _ _ h => h)) hc hl)
  have HO := Lib.hid ho
  clear ho h1 h2 K
  cases hv : vB neg ds e with
  | false =>
    rw [hv] at HV
    rw [if_neg (by decide)]
    go_enter Tryz.func41, Tryz.ntmps41
    go_upto_region 1 with (fail)
    rw [← hw2]
    clear hw2
    go_wp2_with fail
    refine HV.out.mono ?_
    rintro en w3 ⟨rfl, ho3⟩
    obtain ⟨c0, c1, c2, h2⟩ := HK.out w3 ho3
    have d0 : w3.cell? ⟨w.heap.size + 1, 0, none⟩ = some (.bool false) := blk_cell h2 0
    have d1 : w3.cell? ⟨w.heap.size + 1, 1, none⟩ = some (.slice none 0 0) := blk_cell h2 1
    have d2 : w3.cell? ⟨w.heap.size + 1, 2, none⟩ = some (.int .i64 0) := blk_cell h2 2
    have g0 := blk_frozen h2 0
    have g1 := blk_frozen h2 1
    have g2 := blk_frozen h2 2
    have H2 := Lib.hid (And.intro h2 (HO.out.trans ho3))
    clear h2 ho3
    go_wp2_with fail
    obtain ⟨h2, ho⟩ := H2.out
    obtain ⟨s1, s2⟩ := stored3 h2 (.bool false) (.slice none 0 0) (.int .i64 0)
    refine bodyPost_ret (results_ans rfl _ _ (w.heap.size + 1) _ _ _ _ rfl rfl s1) rfl ?_
    refine ⟨rfl, ho.step s2 ?_⟩
    rintro i hi rfl
    omega
  | true =>
    rw [hv] at HV
    rw [if_pos rfl]
    go_enter Tryz.func41, Tryz.ntmps41
    go_upto_region 1 with (fail)
    rw [← hw2]
    clear hw2
    go_wp2_with fail
    refine HV.out.mono ?_
    rintro en w3 ⟨rfl, ho3⟩
    obtain ⟨c0, c1, c2, h2⟩ := HK.out w3 ho3
    have d0 : w3.cell? ⟨w.heap.size + 1, 0, none⟩ = some (.bool false) := blk_cell h2 0
    have d1 : w3.cell? ⟨w.heap.size + 1, 1, none⟩ = some (.slice none 0 0) := blk_cell h2 1
    have d2 : w3.cell? ⟨w.heap.size + 1, 2, none⟩ = some (.int .i64 0) := blk_cell h2 2
    have g0 := blk_frozen h2 0
    have g1 := blk_frozen h2 1
    have g2 := blk_frozen h2 2
    have H2 := Lib.hid (And.intro h2 (HO.out.trans ho3))
    clear h2 ho3
    go_wp2_with fail
    obtain ⟨h2, ho⟩ := H2.out
    obtain ⟨s1, s2⟩ := stored3 h2 (.bool neg) (.slice A ds.length c) (.int .i64 e)
    refine bodyPost_ret (results_ans rfl _ _ (w.heap.size + 1) _ _ _ _ rfl rfl s1) rfl ?_
    refine ⟨rfl, ho.step s2 ?_⟩
    rintro i hi rfl
    omega
end Go.Proofs.YtflhdplfkpdejaaGreatFmt
namespace Go.Proofs.YtflhdplfkpdejaaGreatFmt
open Go.RowKit Go.Proofs.YtflhdplfkpdejaaGreatFmtW.PrintWords
set_option maxRecDepth 100000 in
set_option maxHeartbeats 4000000 in
theorem scaleRef_zero (neg : Bool) (A : Option Addr) (c : Nat) (ds : List Int) (e k : Int) (w : World) (h0 : ds.length = 0) :
    Calls Tryz.prog 20 #[.agg #[.bool neg, .slice A ds.length c, .int .i64 e], .int .i64 k] w fun en w' => en = .returned (.tuple #[.agg #[.bool neg, .slice A ds.length c, .int .i64 e], .int .i64 0]) ∧ Only w w' (fun _ => False) := by
  obtain ⟨h1, h2⟩ : ((w.alloc (numObj neg A ds.length c e)).alloc zeroNum).heap[w.heap.size]? = some (numObj neg A ds.length c e) ∧ ((w.alloc (numObj neg A ds.length c e)).alloc zeroNum).heap[w.heap.size + 1]? = some zeroNum := ⟨heap_two' w _ _, heap_two w _ _⟩
  have ho := ((Only.refl w (fun _ => False)).alloc (numObj neg A ds.length c e)).alloc zeroNum
  obtain ⟨w2, hw2⟩ : ∃ w2, w2 = (w.alloc (numObj neg A ds.length c e)).alloc zeroNum := ⟨_, rfl⟩
  rw [← hw2] at h1 h2 ho
  have c0 : w2.cell? ⟨w.heap.size, 0, none⟩ = some (.bool neg) := blk_cell h1 0
  have c1 : w2.cell? ⟨w.heap.size, 1, none⟩ = some (.slice A ds.length c) := blk_cell h1 1
  have c2 : w2.cell? ⟨w.heap.size, 2, none⟩ = some (.int .i64 e) := blk_cell h1 2
  have d0 : w2.cell? ⟨w.heap.size + 1, 0, none⟩ = some (.bool false) := blk_cell h2 0
  have d1 : w2.cell? ⟨w.heap.size + 1, 1, none⟩ = some (.slice none 0 0) := blk_cell h2 1
  have d2 : w2.cell? ⟨w.heap.size + 1, 2, none⟩ = some (.int .i64 0) := blk_cell h2 2
  have f2 := blk_frozen h1 2
  have g0 := blk_frozen h2 0
  have g1 := blk_frozen h2 1
  have g2 := blk_frozen h2 2
  have HO := Lib.hid (And.intro ho (And.intro h1 h2))
  have hz : ((ds.length : Nat) : Int) = 0 := by omega
  clear ho h1 h2 h0
  go_enter Tryz.func20, Tryz.ntmps20
  go_upto_region 1 with (fail)
  rw [← hw2]
  clear hw2
  go_wp2_with fail
  obtain ⟨ho, h1, h2⟩ := HO.out
  obtain ⟨s1, s2⟩ := stored3 h2 (.bool neg) (.slice A ds.length c) (.int .i64 e)
  refine bodyPost_ret (results_ans rfl _ _ (w.heap.size + 1) _ _ _ _ rfl rfl s1) rfl ?_
  refine ⟨rfl, ho.step s2 ?_⟩
  rintro i hi rfl
  omega
set_option maxRecDepth 100000 in
set_option maxHeartbeats 4000000 in
theorem scaleRef_far (neg : Bool) (A : Option Addr) (c : Nat) (ds : List Int) (e k : Int) (w : World) (h0 : 0 < ds.length) (hk : 3145728 < k ∨ k < -3145728) :
    Calls Tryz.prog 20 #[.agg #[.bool neg, .slice A ds.length c, .int .i64 e], .int .i64 k] w fun en w' => en = errNum 2 ∧ Only w w' (fun _ => False) := by
  obtain ⟨h1, h2⟩ : ((w.alloc (numObj neg A ds.length c e)).alloc zeroNum).heap[w.heap.size]? = some (numObj neg A ds.length c e) ∧ ((w.alloc (numObj neg A ds.length c e)).alloc zeroNum).heap[w.heap.size + 1]? = some zeroNum := ⟨heap_two' w _ _, heap_two w _ _⟩
  have ho := ((Only.refl w (fun _ => False)).alloc (numObj neg A ds.length c e)).alloc zeroNum
  obtain ⟨w2, hw2⟩ : ∃ w2, w2 = (w.alloc (numObj neg A ds.length c e)).alloc zeroNum := ⟨_, rfl⟩
  rw [← hw2] at h1 h2 ho
  have c0 : w2.cell? ⟨w.heap.size, 0, none⟩ = some (.bool neg) := blk_cell h1 0
  have c1 : w2.cell? ⟨w.heap.size, 1, none⟩ = some (.slice A ds.length c) := blk_cell h1 1
  have c2 : w2.cell? ⟨w.heap.size, 2, none⟩ = some (.int .i64 e) := blk_cell h1 2
  have d0 : w2.cell? ⟨w.heap.size + 1, 0, none⟩ = some (.bool false) := blk_cell h2 0
  have d1 : w2.cell? ⟨w.heap.size + 1, 1, none⟩ = some (.slice none 0 0) := blk_cell h2 1
  have d2 : w2.cell? ⟨w.heap.size + 1, 2, none⟩ = some (.int .i64 0) := blk_cell h2 2
  have f2 := blk_frozen h1 2
  have g0 := blk_frozen h2 0
  have g1 := blk_frozen h2 1
  have g2 := blk_frozen h2 2
  have HO := Lib.hid (And.intro ho (And.intro h1 h2))
  have hz : ((ds.length : Nat) : Int) ≠ 0 := by omega
  clear ho h1 h2
  rcases hk with hk | hk
  · go_enter Tryz.func20, Tryz.ntmps20
    go_upto_region 1 with (fail)
    rw [← hw2]
    clear hw2
    go_wp2_with fail
    obtain ⟨ho, h1, h2⟩ := HO.out
    obtain ⟨s1, s2⟩ := stored3 h2 (.bool false) (.slice none 0 0) (.int .i64 0)
    refine bodyPost_ret (results_ans rfl _ _ (w.heap.size + 1) _ _ _ _ rfl rfl s1) rfl ?_
    refine ⟨rfl, ho.step s2 ?_⟩
    rintro i hi rfl
    omega
  · have hk2 : ¬ 3145728 < k := by omega
    go_enter Tryz.func20, Tryz.ntmps20
    go_upto_region 1 with (fail)
    rw [← hw2]
    clear hw2
    go_wp2_with fail
    obtain ⟨ho, h1, h2⟩ := HO.out
    obtain ⟨s1, s2⟩ := stored3 h2 (.bool false) (.slice none 0 0) (.int .i64 0)
    refine bodyPost_ret (results_ans rfl _ _ (w.heap.size + 1) _ _ _ _ rfl rfl s1) rfl ?_
    refine ⟨rfl, ho.step s2 ?_⟩
    rintro i hi rfl
    omega
set_option maxRecDepth 100000 in
set_option maxHeartbeats 4000000 in
theorem scaleRef_near (neg : Bool) (A : Option Addr) (c : Nat) (ds : List Int) (e k : Int) (w : World) (h0 : 0 < ds.length) (hk : k ≤ 3145728) (hk2 : -3145728 ≤ k) (he : -1048576 ≤ e) (he2 : e ≤ 1048576) (hr : ReadsInt w .i64 A ds.length ds) (hc : ds.length ≤ c) (hl : ds.length < 4611686018427387904) :
    Calls Tryz.prog 20 #[.agg #[.bool neg, .slice A ds.length c, .int .i64 e], .int .i64 k] w fun en w' => en = (if vB neg ds (e + k) then .returned (.tuple #[.agg #[.bool neg, .slice A ds.length c, .int .i64 (e + k)], .int .i64 0]) else errNum 2) ∧ Only w w' (fun _ => False) := by
  obtain ⟨h1, h2⟩ : ((w.alloc (numObj neg A ds.length c e)).alloc zeroNum).heap[w.heap.size]? = some (numObj neg A ds.length c e) ∧ ((w.alloc (numObj neg A ds.length c e)).alloc zeroNum).heap[w.heap.size + 1]? = some zeroNum := ⟨heap_two' w _ _, heap_two w _ _⟩
  have ho := ((Only.refl w (fun _ => False)).alloc (numObj neg A ds.length c e)).alloc zeroNum
  obtain ⟨w2, hw2⟩ : ∃ w2, w2 = (w.alloc (numObj neg A ds.length c e)).alloc zeroNum := ⟨_, rfl⟩
  rw [← hw2] at h1 h2 ho
  have c0 : w2.cell? ⟨w.heap.size, 0, none⟩ = some (.bool neg) := blk_cell h1 0
  have c1 : w2.cell? ⟨w.heap.size, 1, none⟩ = some (.slice A ds.length c) := blk_cell h1 1
  have c2 : w2.cell? ⟨w.heap.size, 2, none⟩ = some (.int .i64 e) := blk_cell h1 2
  have d0 : w2.cell? ⟨w.heap.size + 1, 0, none⟩ = some (.bool false) := blk_cell h2 0
  have d1 : w2.cell? ⟨w.heap.size + 1, 1, none⟩ = some (.slice none 0 0) := blk_cell h2 1
  have d2 : w2.cell? ⟨w.heap.size + 1, 2, none⟩ = some (.int .i64 0) := blk_cell h2 2
  have f2 := blk_frozen h1 2
  have g0 := blk_frozen h2 0
  have g1 := blk_frozen h2 1
  have g2 := blk_frozen h2 2
  have HO := Lib.hid (And.intro ho (And.intro h1 h2))
  have hz : ((ds.length : Nat) : Int) ≠ 0 := by omega
  have hw : wrap64 (e + k) = e + k := IntWalk.wrap64_in _ ⟨by omega, by omega⟩
  have ho3 : Only w (w2.setCell ⟨w.heap.size, 2, none⟩ (.int .i64 (e + k))) (fun _ => False) := ho.set (p := ⟨w.heap.size, 2, none⟩) (.inl (Nat.le_refl _)) _
  have h2' : (w2.setCell ⟨w.heap.size, 2, none⟩ (.int .i64 (e + k))).heap[w.heap.size + 1]? = some zeroNum := blk_far h2 (p := ⟨w.heap.size, 2, none⟩) (by show w.heap.size + 1 ≠ w.heap.size; omega) _
  have HAN := Lib.hid (answer_calls neg A c ds (e + k) (w2.setCell ⟨w.heap.size, 2, none⟩ (.int .i64 (e + k))) (reads_only hr ho3 (fun _ _ h => h)) hc hl)
  have H3 := Lib.hid (And.intro ho3 h2')
  clear ho h1 h2 hr ho3 h2' HO
  cases hv : vB neg ds (e + k) with
  | false =>
    rw [hv] at HAN
    rw [if_neg (by decide)] at HAN ⊢
    unfold errNum at HAN ⊢
    go_enter Tryz.func20, Tryz.ntmps20
    go_upto_region 1 with (fail)
    rw [← hw2]
    clear hw2
    go_wp2_with fail
    refine HAN.out.mono ?_
    rintro en w3 ⟨rfl, ho3⟩
    have h2 := (ho3.kept _ (blk_lt H3.out.2) (fun h => h)).trans H3.out.2
    have HO := Lib.hid (And.intro (H3.out.1.trans ho3) (And.intro trivial h2))
    have d0 : w3.cell? ⟨w.heap.size + 1, 0, none⟩ = some (.bool false) := blk_cell h2 0
    have d1 : w3.cell? ⟨w.heap.size + 1, 1, none⟩ = some (.slice none 0 0) := blk_cell h2 1
    have d2 : w3.cell? ⟨w.heap.size + 1, 2, none⟩ = some (.int .i64 0) := blk_cell h2 2
    have g0 := blk_frozen h2 0
    have g1 := blk_frozen h2 1
    have g2 := blk_frozen h2 2
    clear h2 ho3
    go_wp2_with fail
    obtain ⟨ho, h1, h2⟩ := HO.out
    obtain ⟨s1, s2⟩ := stored3 h2 (.bool false) (.slice none 0 0) (.int .i64 0)
    refine bodyPost_ret (results_ans rfl _ _ (w.heap.size + 1) _ _ _ _ rfl rfl s1) rfl ?_
    refine ⟨rfl, ho.step s2 ?_⟩
    rintro i hi rfl
    omega
  | true =>
    rw [hv] at HAN
    rw [if_pos rfl] at HAN ⊢
    go_enter Tryz.func20, Tryz.ntmps20
    go_upto_region 1 with (fail)
    rw [← hw2]
    clear hw2
    go_wp2_with fail
    refine HAN.out.mono ?_
    rintro en w3 ⟨rfl, ho3⟩
    have h2 := (ho3.kept _ (blk_lt H3.out.2) (fun h => h)).trans H3.out.2
    have HO := Lib.hid (And.intro (H3.out.1.trans ho3) (And.intro trivial h2))
    have d0 : w3.cell? ⟨w.heap.size + 1, 0, none⟩ = some (.bool false) := blk_cell h2 0
    have d1 : w3.cell? ⟨w.heap.size + 1, 1, none⟩ = some (.slice none 0 0) := blk_cell h2 1
    have d2 : w3.cell? ⟨w.heap.size + 1, 2, none⟩ = some (.int .i64 0) := blk_cell h2 2
    have g0 := blk_frozen h2 0
    have g1 := blk_frozen h2 1
    have g2 := blk_frozen h2 2
    clear h2 ho3
    go_wp2_with fail
    obtain ⟨ho, h1, h2⟩ := HO.out
    obtain ⟨s1, s2⟩ := stored3 h2 (.bool neg) (.slice A ds.length c) (.int .i64 (e + k))
    refine bodyPost_ret (results_ans rfl _ _ (w.heap.size + 1) _ _ _ _ rfl rfl s1) rfl ?_
    refine ⟨rfl, ho.step s2 ?_⟩
    rintro i hi rfl
    omega
end Go.Proofs.YtflhdplfkpdejaaGreatFmt
namespace Go.Proofs.YtflhdplfkpdejaaGreatFmt
open Go.RowKit Go.Proofs.YtflhdplfkpdejaaGreatFmtW.PrintWords
theorem wrap64_in2 (x : Int) (h0 : 0 ≤ x) (h1 : x ≤ 1000000) : wrap64 x = x := IntWalk.wrap64_in _ ⟨by omega, by omega⟩
theorem marks_at (ds : List Int) : rd (ds ++ [-71, -72, -73]) (ds.length : Int) = -71 ∧ rd (ds ++ [-71, -72, -73]) ((ds.length + 1 : Nat) : Int) = -72 ∧ rd (ds ++ [-71, -72, -73]) ((ds.length + 2 : Nat) : Int) = -73 := by
  refine ⟨?_, ?_, ?_⟩ <;> rw [rd_at] <;> simp [List.getD]
set_option linter.unusedVariables false in
set_option linter.unusedSimpArgs false in
set_option maxRecDepth 100000 in
set_option maxHeartbeats 8000000 in
theorem back_calls (B g cap : Nat) (A : Option Addr) (c : Nat) (ds : List Int) (w : World) (ho : w.ownsRow B 3 1 (.slice (some ⟨g, 0, none⟩) (ds.length + 3) cap) (ds.length + 3) (nums .i64 (ds ++ [-71, -72, -73]))) (hr : ReadsInt w .i64 A ds.length ds) (hc : ds.length ≤ c) (hl : ds.length ≤ 100000) (hcap : ds.length + 3 ≤ cap) :
    Calls Tryz.prog 18 #[.slice (some ⟨g, 0, none⟩) (ds.length + 3) cap, .slice A ds.length c] w fun e w' => e = .returned (.bool true) ∧ Only w w' (fun k => k = g) := by
  have hw1 := wrap64_in2 ((ds.length : Int) + 1) (by omega) (by omega)
  have hw2 := wrap64_in2 ((ds.length : Int) + 2) (by omega) (by omega)
  have hw3 := wrap64_in2 ((ds.length : Int) + 3) (by omega) (by omega)
  have hcut : ReadsInt w .i64 (some ⟨g, 0, none⟩) ds.length ds := by
    have h := own_reads1 ho
    refine ⟨rfl, by omega, fun _ => ⟨_, rfl, fun j hj => ?_⟩⟩
    obtain ⟨ad, e, hcell⟩ := h.2.2 (by omega)
    cases e
    rw [hcell j (by omega)]
    simp [List.getD, List.getElem?_append_left hj]
  have HS := Lib.hid (same_calls (some ⟨g, 0, none⟩) A cap c ds w hcut (by omega) hr hc (by omega))
  obtain ⟨m1, m2, m3⟩ := marks_at ds
  have K : ∀ W, Only w W (fun _ => False) → W.cell? ⟨g, ds.length, none⟩ = some (.int .i64 (-71)) ∧ W.cell? ⟨g, ds.length + 1, none⟩ = some (.int .i64 (-72)) ∧ W.cell? ⟨g, ds.length + 2, none⟩ = some (.int .i64 (-73)) := fun W hW => by
    have h := own_only ho hW
    have a := (own_at h (ds.length : Int) (by omega) (by omega)).1
    have b := (own_at h ((ds.length + 1 : Nat) : Int) (by omega) (by omega)).1
    have d := (own_at h ((ds.length + 2 : Nat) : Int) (by omega) (by omega)).1
    rw [m1] at a
    rw [m2] at b
    rw [m3] at d
    exact ⟨a, b, d⟩
  have HK := Lib.hid K
  have HO := Lib.hid ho
  have hlen : (ds ++ [-71, -72, -73]).length = ds.length + 3 := by simp
  generalize ds ++ [-71, -72, -73] = cs at *
  clear K m1 m2 m3 hcut hr ho
  generalize ds.length = n at *
  go_enter Tryz.func18, Tryz.ntmps18
  go_wp2_with fail
  refine HS.out.mono ?_
  rintro e w1 ⟨rfl, ho1⟩
  obtain ⟨x0, x1, x2⟩ := HK.out w1 ho1
  have n1 : (n : Int) + 1 < (n : Int) + 3 := by omega
  have n2 : (n : Int) + 2 < (n : Int) + 3 := by omega
  have n3 : (0 : Int) ≤ (n : Int) + 1 := by omega
  have n4 : (0 : Int) ≤ (n : Int) + 2 := by omega
  have n5 : ((n : Int) + 1).toNat = n + 1 := by omega
  have n6 : ((n : Int) + 2).toNat = n + 2 := by omega
  go_wp2_with fail
  have hor := own_only HO.out ho1
  have HE := Lib.hid (And.intro hor ho1)
  clear x0 x1 x2 n1 n2 n3 n4 n5 n6 hw1 hw2 hw3 hor ho1
  go_loopw [7] (fun v7 wr => ∃ i : Nat, i ≤ n + 3 ∧ v7 = .int .i64 i ∧ ∃ l : List Int, wr.ownsRow B 3 1 (.slice (some ⟨g, 0, none⟩) (n + 3) cap) (n + 3) (nums .i64 l) ∧ Only w wr (fun k => k = g)) (fun v _ => n + 3 - (intOf v).toNat)
  case atStart => exact ⟨0, Nat.zero_le _, rfl, cs, HE.out.1, HE.out.2.mono (fun _ _ h => h.elim)⟩
  case round =>
    obtain ⟨i, hi, rfl, l, h, hw⟩ := hrel
    by_cases hlt : i < n + 3
    · have hlt2 : (i : Int) < (n : Int) + 3 := by omega
      obtain ⟨y0, y1⟩ := own_at h (i : Int) (by omega) (by omega)
      have y0 : wr.cell? ⟨g, i, none⟩ = some (.int .i64 (rd l i)) := y0
      have y1 : wr.frozen? ⟨g, i, none⟩ = false := y1
      obtain ⟨s1, _⟩ := own_store h (i : Int) (-9)
      have s1 : (wr.setCell ⟨g, i, none⟩ (.int .i64 (-9))).ownsRow B 3 1 (.slice (some ⟨g, 0, none⟩) (n + 3) cap) (n + 3) (nums .i64 (l.set i (-9))) := s1
      have HX := Lib.hid (And.intro s1 (hw.set (p := ⟨g, i, none⟩) (.inr rfl) (.int .i64 (-9))))
      generalize rd l i = x at y0
      clear h hw s1
      go_wp2_with fail
      go_roundw
      case rel => exact ⟨i + 1, by omega, by go_num, _, HX.out.1, HX.out.2⟩
      case measure => simp [intOf]; omega
    · obtain rfl : i = n + 3 := by omega
      have HX := Lib.hid hw
      clear h hw
      go_wp2_with fail
      go_ret
      exact ⟨rfl, HX.out⟩
end Go.Proofs.YtflhdplfkpdejaaGreatFmt
namespace Go.Proofs.YtflhdplfkpdejaaGreatFmt
open Go.RowKit Go.Proofs.YtflhdplfkpdejaaGreatFmtW.PrintWords
theorem reads_under {B : Nat} {w w' : World} {A : Option Addr} {n : Nat} {ds : List Int} (h : ReadsInt w .i64 A n ds) (hb : Below B w w') (hA : 0 < n → ∀ ad, A = some ad → ad.block < B) : ReadsInt w' .i64 A n ds :=
  ⟨h.1, h.2.1, fun hn => by
    obtain ⟨ad, e, hc⟩ := h.2.2 hn
    refine ⟨ad, e, fun j hj => ?_⟩
    have hbl : (ad.add j).block = ad.block := by unfold Addr.add; split <;> rfl
    exact (World.cell?_of_block (a := ad.add j) (by rw [hbl]; exact hb.block _ (hA hn ad e))).trans (hc j hj)⟩
theorem same_num_f (neg : Bool) (ds : List Int) (e : Int) (hl : ds.length < 4611686018427387904) : F.pupillaw2_SameNum.f (ds.length + 1) neg ds e neg ds e = some true := by
  unfold F.pupillaw2_SameNum.f F.pupillaw2_Same.f
  rw [if_pos (by simp), if_pos rfl, if_pos rfl, show F.pupillaw2_Same.l0 (ds.length + 1) ds ds 0 = some true from same_l0 ds hl (ds.length + 1) 0 (Nat.zero_le _) (by omega)]
  rfl
set_option linter.unusedVariables false in
set_option linter.unusedSimpArgs false in
set_option maxRecDepth 100000 in
set_option maxHeartbeats 8000000 in
theorem is_bad (k : Nat) (v : Value) (A : Option Addr) (n c : Nat) (neg : Bool) (e : Int) (w : World) :
    Calls Tryz.prog 19 #[v, .agg #[.bool false, .slice none 0 0, .int .i64 0], .int .i64 7, .bool true, .agg #[.bool neg, .slice A n c, .int .i64 e]] w fun en w' => en = .returned (.bool true) ∧ Only w w' (fun _ => False) := by
  obtain ⟨h1, h2⟩ : ((w.alloc zeroNum).alloc (numObj neg A n c e)).heap[w.heap.size]? = some zeroNum ∧ ((w.alloc zeroNum).alloc (numObj neg A n c e)).heap[w.heap.size + 1]? = some (numObj neg A n c e) := ⟨heap_two' w _ _, heap_two w _ _⟩
  have ho := ((Only.refl w (fun _ => False)).alloc zeroNum).alloc (numObj neg A n c e)
  obtain ⟨w2, hw2⟩ : ∃ w2, w2 = (w.alloc zeroNum).alloc (numObj neg A n c e) := ⟨_, rfl⟩
  rw [← hw2] at h1 h2 ho
  have c0 : w2.cell? ⟨w.heap.size, 0, none⟩ = some (.bool false) := blk_cell h1 0
  have c1 : w2.cell? ⟨w.heap.size, 1, none⟩ = some (.slice none 0 0) := blk_cell h1 1
  have c2 : w2.cell? ⟨w.heap.size, 2, none⟩ = some (.int .i64 0) := blk_cell h1 2
  have HO := Lib.hid ho
  have hz : ReadsInt w2 .i64 none 0 [] := ⟨rfl, by omega, fun h => absurd h (by omega)⟩
  have HS := Lib.hid (same_num false [] 0 false [] 0 none none 0 0 true 1 w2 hz (by decide) hz (by decide) (by decide +kernel))
  clear h1 h2 ho hz
  go_enter Tryz.func19, Tryz.ntmps19
  go_upto_region 1 with (fail)
  rw [← hw2]
  clear hw2
  go_wp2_with fail
  refine HS.out.mono ?_
  rintro en w3 ⟨rfl, ho3⟩
  go_wp2_with fail
  go_ret
  exact ⟨rfl, HO.out.trans ho3⟩
set_option linter.unusedVariables false in
set_option linter.unusedSimpArgs false in
set_option maxRecDepth 100000 in
set_option maxHeartbeats 8000000 in
theorem is_ok (B k : Nat) (es : List Ent) (neg : Bool) (Al A : Option Addr) (cl c : Nat) (ds : List Int) (e : Int) (w : World) (hB : B ≤ w.heap.size) (hk : Kp B k es w) (hl : w.ownsRow B 3 1 (.slice Al ds.length cl) ds.length (nums .i64 ds)) (hap : ∀ i, i < es.length → ∀ b, (es.getD i noEnt).1.ownBlock = some b → (Value.slice Al ds.length cl).ownBlock ≠ some b) (hr : ReadsInt w .i64 A ds.length ds) (hc : ds.length ≤ c) (hd : ds.length ≤ 100000) (hn : es.length < 300) (hcl : ds.length ≤ cl) (hA : 0 < ds.length → ∀ ad, A = some ad → ad.block < B) (hv : vB neg ds e = true) :
    Calls Tryz.prog 19 #[.pointer (some ⟨k, 0, none⟩), .agg #[.bool neg, .slice Al ds.length cl, .int .i64 e], .int .i64 0, .bool false, .agg #[.bool neg, .slice A ds.length c, .int .i64 e]] w fun en w' => en = .returned (.bool true) ∧ Kp B k (es ++ [(.slice Al ds.length cl, ds)]) w' ∧ Below B w w' ∧ Spare w w' := by
  obtain ⟨h1, h2⟩ : ((w.alloc (numObj neg Al ds.length cl e)).alloc (numObj neg A ds.length c e)).heap[w.heap.size]? = some (numObj neg Al ds.length cl e) ∧ ((w.alloc (numObj neg Al ds.length cl e)).alloc (numObj neg A ds.length c e)).heap[w.heap.size + 1]? = some (numObj neg A ds.length c e) := ⟨heap_two' w _ _, heap_two w _ _⟩
  have ho := ((Only.refl w (fun _ => False)).alloc (numObj neg Al ds.length cl e)).alloc (numObj neg A ds.length c e)
  obtain ⟨w2, hw2⟩ : ∃ w2, w2 = (w.alloc (numObj neg Al ds.length cl e)).alloc (numObj neg A ds.length c e) := ⟨_, rfl⟩
  rw [← hw2] at h1 h2 ho
  have K : ∀ W, Only w2 W (fun _ => False) → (W.cell? ⟨w.heap.size, 0, none⟩ = some (.bool neg) ∧ W.cell? ⟨w.heap.size, 1, none⟩ = some (.slice Al ds.length cl) ∧ W.cell? ⟨w.heap.size, 2, none⟩ = some (.int .i64 e)) ∧ (W.cell? ⟨w.heap.size + 1, 0, none⟩ = some (.bool neg) ∧ W.cell? ⟨w.heap.size + 1, 1, none⟩ = some (.slice A ds.length c) ∧ W.cell? ⟨w.heap.size + 1, 2, none⟩ = some (.int .i64 e)) := fun W hW => by
    have a := (hW.kept _ (blk_lt h1) (fun h => h)).trans h1
    have b := (hW.kept _ (blk_lt h2) (fun h => h)).trans h2
    exact ⟨⟨blk_cell a 0, blk_cell a 1, blk_cell a 2⟩, blk_cell b 0, blk_cell b 1, blk_cell b 2⟩
  have HK := Lib.hid K
  have HV : Hid (Calls Tryz.prog 41 #[.agg #[.bool neg, .slice A ds.length c, .int .i64 e]] w2 fun en w' => en = .returned (.tuple #[.agg #[.bool neg, .slice A ds.length c, .int .i64 e], .int .i64 0]) ∧ Only w2 w' (fun _ => False)) := Lib.hid (by
    have := answer_calls neg A c ds e w2 (reads_only hr ho (fun _ _ h => h)) hc (by omega)
    rw [hv, if_pos rfl] at this
    exact this)
  have HX := Lib.hid (And.intro hB (And.intro hk (And.intro hl (And.intro hap (And.intro hr (And.intro hA ho))))))
  have HY := Lib.hid (And.intro hc (And.intro hd (And.intro hn hcl)))
  obtain ⟨_, c0, c1, c2⟩ := K w2 (Only.refl _ _)
  clear K h1 h2 ho hB hk hl hap hr hc hd hn hcl hA hv
  go_enter Tryz.func19, Tryz.ntmps19
  go_upto_region 1 with (fail)
  rw [← hw2]
  clear hw2
  go_wp2_with fail
  refine HV.out.mono ?_
  rintro en w3 ⟨rfl, ho3⟩
  obtain ⟨⟨q0, q1, q2⟩, _⟩ := HK.out (w3.alloc (numObj neg A ds.length c e)) (ho3.alloc _)
  clear c0 c1 c2
  go_wp2_with fail
  obtain ⟨hB, hk, hl, hap, hr, hA, ho⟩ := HX.out
  obtain ⟨hc, hd, hn, hcl⟩ := HY.out
  have hY := heap_alloc_new w3 (numObj neg A ds.length c e)
  have ho24 := ho3.alloc (numObj neg A ds.length c e)
  generalize w3.alloc (numObj neg A ds.length c e) = w4 at *
  generalize w3.heap.size = Y at *
  have ho4 := ho.trans ho24
  refine (same_num neg ds e neg ds e Al A cl c true (ds.length + 1) w4 (reads_only (own_reads1 hl) ho4 (fun _ _ h => h)) hcl (reads_only hr ho4 (fun _ _ h => h)) hc (same_num_f neg ds e (by omega))).mono ?_
  rintro en w5 ⟨rfl, ho5⟩
  obtain ⟨⟨q0, q1, q2⟩, _⟩ := HK.out w5 (ho24.trans ho5)
  have hY5 := (ho5.kept _ (blk_lt hY) (fun h => h)).trans hY
  have y1 : w5.cell? ⟨Y, 1, none⟩ = some (.slice A ds.length c) := blk_cell hY5 1
  have ho05 := ho4.trans ho5
  have hB5 : B ≤ w5.heap.size := Nat.le_trans hB ho05.base.size
  have hr5 := reads_only hr ho05 (fun _ _ h => h)
  have HADD := Lib.hid (keepAdd B k es Al A cl c ds w5 hB5 (hk.only ho05) (own_only hl ho05) hap hr5 hc hd hn (own_reads1 (own_only hl ho05)) hcl (fun W hb _ => reads_under hr5 hb hA))
  have HO := Lib.hid (And.intro (ho05.below hB (fun _ h => h.elim)) (Spare.of_only ho05))
  clear hB hk hl hap hr hA ho hc hd hn hcl hY ho24 ho4 ho5 hY5 ho05 hB5 hr5 q0 q2 HX HY
  go_wp2_with fail
  refine HADD.out.mono ?_
  rintro en w6 ⟨rfl, h1, h2, h3⟩
  have HF := Lib.hid (And.intro h1 (And.intro (HO.out.1.trans h2) (HO.out.2.trans h3)))
  clear h1 h2 h3 q1 y1
  go_wp2_with fail
  go_ret
  exact ⟨rfl, HF.out⟩
end Go.Proofs.YtflhdplfkpdejaaGreatFmt
