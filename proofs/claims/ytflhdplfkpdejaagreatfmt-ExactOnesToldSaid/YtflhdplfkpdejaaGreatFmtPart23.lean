/- Part 23 of the walk of ExactOnes: LawG LawO LawP LawQ. -/
import Derived.Test.YtflhdplfkpdejaaGreatFmtPart20
import Derived.Test.YtflhdplfkpdejaaGreatFmtPart22
import Derived.Lib.SmallJoins
import Derived.ChangeSlices
import Derived.ProofKit
namespace Go.Proofs.YtflhdplfkpdejaaGreatFmt
open Go.RowKit Go.Proofs.YtflhdplfkpdejaaGreatFmtW.PrintWords
structure Ap (B k gL n cL : Nat) (vW : Value) (V : Nat → Value) (w0 w : World) (cs : Nat → List Int) : Prop where
  hk : w.heap[k]? = some (.cells #[.slice (some ⟨gL, 0, none⟩) n cL, vW] 28 (0, 0))
  cell : ∀ i, i < n → w.cell? ⟨gL, i, none⟩ = some (V i)
  gt : ∃ cells, w.heap[gL]? = some (.cells cells 22 (0, 0))
  own : ∀ i, i < n → w.ownsRow B 3 1 (V i) (cs i).length (nums .i64 (cs i))
  apart : ∀ i j, i < n → j < n → i ≠ j → ∀ b, (V i).ownBlock = some b → (V j).ownBlock ≠ some b
  below : Below B w0 w
theorem Ap.only {B k gL n cL : Nat} {vW : Value} {V : Nat → Value} {w0 w w' : World} {cs : Nat → List Int} (h : Ap B k gL n cL vW V w0 w cs) (ho : Only w w' (fun _ => False)) (hB : B ≤ w.heap.size) : Ap B k gL n cL vW V w0 w' cs := by
  obtain ⟨cells, hc⟩ := h.gt
  have hg := (ho.kept _ (blk_lt hc) (fun h => h))
  exact ⟨(ho.kept _ (blk_lt h.hk) (fun h => h)).trans h.hk, fun i hi => (World.cell?_of_block (a := ⟨gL, i, none⟩) hg).trans (h.cell i hi), ⟨cells, hg.trans hc⟩, fun i hi => own_only (h.own i hi) ho, h.apart, h.below.trans (ho.below hB (fun _ h => h.elim))⟩
theorem Ap.move {B k gL n cL : Nat} {vW : Value} {V : Nat → Value} {w0 w w' : World} {cs cs' : Nat → List Int} (h : Ap B k gL n cL vW V w0 w cs) (i : Nat) (hi : i < n) (hg : w.grownBy w' (V i).ownBlock) (hB : B ≤ w.heap.size) (hown : w'.ownsRow B 3 1 (V i) (cs' i).length (nums .i64 (cs' i))) (hcs : ∀ j, j < n → j ≠ i → cs' j = cs j) : Ap B k gL n cL vW V w0 w' cs' := by
  obtain ⟨cells, hc⟩ := h.gt
  have ne : ∀ {b : Nat} {cs : Array Value} {T : TypeId}, w.heap[b]? = some (.cells cs T (0, 0)) → T ≠ 3 → w'.heap[b]? = w.heap[b]? := fun {b cs T} hb hT => hg.block b (blk_lt hb) (fun e => by
    obtain ⟨cs', hc'⟩ := own_typed (h.own i hi) b e.symm
    rw [hb] at hc'
    injection hc' with hc'
    injection hc' with _ hT'
    exact hT hT')
  have hgl := ne hc (by decide)
  refine ⟨(ne h.hk (by decide)).trans h.hk, fun j hj => (World.cell?_of_block (a := ⟨gL, j, none⟩) hgl).trans (h.cell j hj), ⟨cells, hgl.trans hc⟩, fun j hj => ?_, h.apart, h.below.grown hg hB (own_base (h.own i hi))⟩
  by_cases e : j = i
  · subst e; exact hown
  · rw [hcs j hj e]
    exact own_move (h.own j hj) (fun b hb => hg.block b (own_lt (h.own j hj) b hb) (fun e' => h.apart j i hj hi e b hb e'.symm))
theorem own_beyond {w : World} {B g n c j : Nat} {e : TypeId} {xs : List Value} (h : w.ownsRow B e 1 (.slice (some ⟨g, 0, none⟩) n c) n xs) (hj : n ≤ j) (x : Value) : (w.setCell ⟨g, j, none⟩ x).ownsRow B e 1 (.slice (some ⟨g, 0, none⟩) n c) n xs := by
  rcases h.2 with ⟨h', _⟩ | ⟨g', cap, cur, h', hb, hh, hc, hm, hs, ht⟩
  · cases h'
  · injection h' with h1 h2 h3
    injection h1 with h1
    injection h1 with h1
    subst h1 h3
    refine ⟨h.1, .inr ⟨g, c, _, rfl, hb, blk_set hh j x, hc, hm, by simpa using hs, ?_⟩⟩
    rw [← ht, Nat.mul_one]
    apply List.ext_getElem?
    intro i
    rw [List.getElem?_take, List.getElem?_take]
    by_cases hi : i < n
    · rw [if_pos hi, if_pos hi]
      simp [show j ≠ i by omega]
    · rw [if_neg hi, if_neg hi]
theorem Ap.mark {B k gL n cL : Nat} {vW : Value} {V : Nat → Value} {w0 w : World} {cs : Nat → List Int} (h : Ap B k gL n cL vW V w0 w cs) (i j gi ci : Nat) (x : Int) (hi : i < n) (hV : V i = .slice (some ⟨gi, 0, none⟩) (cs i).length ci) (hB : B ≤ w.heap.size) :
    Ap B k gL n cL vW V w0 (w.setCell ⟨gi, j, none⟩ (.int .i64 x)) (fun i' => if i' = i then (cs i).set j x else cs i') := by
  have ho := h.own i hi
  rw [hV] at ho
  obtain ⟨h1, h2⟩ := own_store ho (j : Int) x
  refine h.move i hi (by rw [hV]; exact h2) hB ?_ (fun j' _ hne => by rw [if_neg hne])
  rw [if_pos rfl, hV, List.length_set]
  exact h1
theorem own_form {w : World} {B n : Nat} {e : TypeId} {v : Value} {xs : List Value} (h : w.ownsRow B e 1 v n xs) (g : Nat) (hg : v.ownBlock = some g) : ∃ c, v = .slice (some ⟨g, 0, none⟩) n c := by
  rcases h.2 with ⟨rfl, _⟩ | ⟨g', cap, cur, rfl, _⟩
  · simp [Value.ownBlock] at hg
  · have : g' = g := by simpa [Value.ownBlock] using hg
    subst this
    exact ⟨cap, rfl⟩
theorem Ap.beyond {B k gL n cL : Nat} {vW : Value} {V : Nat → Value} {w0 w : World} {cs : Nat → List Int} (h : Ap B k gL n cL vW V w0 w cs) (g j : Nat) (x : Value) (hgt : ∃ cells, w.heap[g]? = some (.cells cells 3 (0, 0))) (hBg : B ≤ g) (hfar : ∀ i, i < n → ∀ c, V i = .slice (some ⟨g, 0, none⟩) (cs i).length c → (cs i).length ≤ j) :
    Ap B k gL n cL vW V w0 (w.setCell ⟨g, j, none⟩ x) cs := by
  obtain ⟨cells, hc⟩ := h.gt
  obtain ⟨cg, hcg⟩ := hgt
  have hkg : k ≠ g := blk_ne h.hk hcg (by decide)
  have hlg : gL ≠ g := blk_ne hc hcg (by decide)
  have hl := blk_far hc (p := ⟨g, j, none⟩) hlg x
  refine ⟨blk_far h.hk (p := ⟨g, j, none⟩) hkg x, fun i hi => (World.cell?_of_block (a := ⟨gL, i, none⟩) (hl.trans hc.symm)).trans (h.cell i hi), ⟨cells, hl⟩, fun i hi => ?_, h.apart, h.below.setCell (p := ⟨g, j, none⟩) hBg x⟩
  have ho := h.own i hi
  by_cases e : (V i).ownBlock = some g
  · obtain ⟨c, hc'⟩ := own_form ho g e
    have := hfar i hi c hc'
    rw [hc'] at ho ⊢
    exact own_beyond ho this x
  · exact own_move ho (fun b hb => by
      obtain ⟨cb, hcb⟩ := own_typed ho b hb
      have hbg : b ≠ g := fun e' => e (e' ▸ hb)
      exact (blk_far hcb (p := ⟨g, j, none⟩) hbg x).trans hcb.symm)
theorem wrap64_small (x : Int) (h0 : 0 ≤ x) (h1 : x ≤ 1000000) : wrap64 x = x := IntWalk.wrap64_in _ ⟨by omega, by omega⟩
theorem step_len (g q p m : Nat) (hp : p = q * 80) (hm : m = g + p) (hq : q ≤ 100) (hg : g ≤ 100) : wrap64 ((g : Int) + wrap64 (wrap64 (q : Int) * 80)) = m := by
  rw [wrap64_small (q : Int) (by omega) (by omega), wrap64_small ((q : Int) * 80) (by omega) (by omega), wrap64_small _ (by omega) (by omega)]
  omega
def marks (i m : Nat) : List Int := List.replicate m (-2 - (i : Int))
theorem marks_of {l : List Int} {i m : Nat} (hl : l.length = m) (h : ∀ j, j < m → l.getD j 0 = -2 - (i : Int)) : l = marks i m := by
  apply List.ext_getElem
  · simp [marks, hl]
  · intro j h1 h2
    have := h j (by omega)
    simp [List.getD, h1] at this
    simp [marks, this]
theorem same_quiet (A A' : Option Addr) (c c' : Nat) (ds : List Int) (w : World) (hr : ReadsInt w .i64 A ds.length ds) (hc : ds.length ≤ c) (hr' : ReadsInt w .i64 A' ds.length ds) (hc' : ds.length ≤ c') (hl : ds.length < 4611686018427387904) :
    Calls Tryz.prog 24 #[.slice A ds.length c, .slice A' ds.length c'] w fun e w' => e = .returned (.bool true) ∧ ∃ n, w' = w.drewN n :=
  (F.pupillaw2_Same.calls (ds.length + 1) A c ds A' c' ds true w (kd_ints hr) hc (kd_ints hr') hc' (by
    unfold F.pupillaw2_Same.f
    rw [if_pos rfl]
    exact same_l0 ds hl (ds.length + 1) 0 (Nat.zero_le _) (by omega))).mono fun _ _ ⟨h1, h2⟩ => ⟨h1, h2.out⟩
set_option linter.unusedVariables false in
set_option linter.unusedSimpArgs false in
set_option maxRecDepth 100000 in
set_option maxHeartbeats 16000000 in
theorem apart_some (B k gL gW n cL cW : Nat) (V : Nat → Value) (cs0 : Nat → List Int) (w : World) (hB : B ≤ w.heap.size) (h : Ap B k gL n cL (.slice (some ⟨gW, 0, none⟩) n cW) V w w cs0) (hn0 : 0 < n) (hn : n ≤ 1000) (hL : ∀ i, i < n → (cs0 i).length ≤ 100000) (hV : ∀ i, i < n → ∃ A c, V i = .slice A (cs0 i).length c ∧ (cs0 i).length ≤ c)
    (hW : ∀ i, i < n → ∃ A c, w.cell? ⟨gW, i, none⟩ = some (.slice A (cs0 i).length c) ∧ ReadsInt w .i64 A (cs0 i).length (cs0 i) ∧ (cs0 i).length ≤ c) :
    Calls Tryz.prog 6 #[.pointer (some ⟨k, 0, none⟩)] w fun e w' => e = .returned (.bool true) ∧ Below B w w' := by
  have HAp := Lib.hid (And.intro h (And.intro hL hV))
  have HW := Lib.hid hW
  clear h hL hV hW
  go_enter Tryz.func6, Tryz.ntmps6
  go_wp2_with fail
  go_loopw [3] (fun v3 wr => ∃ i : Nat, i ≤ n ∧ v3 = .int .i64 i ∧ Only w wr (fun _ => False)) (fun v _ => n - (intOf v).toNat)
  case atStart => exact ⟨0, Nat.zero_le _, rfl, Only.refl _ _⟩
  case round =>
    obtain ⟨i, hi, rfl, ho⟩ := hrel
    obtain ⟨h, hL, hV⟩ := HAp.out
    by_cases hlt : i < n
    · have hlt2 : (i : Int) < n := by omega
      obtain ⟨A, c, hVi, hcA⟩ := hV i hlt
      obtain ⟨A', c', hWi, hrW, hcW⟩ := HW.out i hlt
      have hr := ho
      have h1 := h.only ho hB
      have c0 : wr.cell? ⟨k, 0, none⟩ = some (.slice (some ⟨gL, 0, none⟩) n cL) := blk_cell h1.hk 0
      have c1 : wr.cell? ⟨k, 1, none⟩ = some (.slice (some ⟨gW, 0, none⟩) n cW) := blk_cell h1.hk 1
      have c2 : wr.cell? ⟨gL, i, none⟩ = some (.slice A (cs0 i).length c) := by rw [← hVi]; exact h1.cell i hlt
      have c3 : wr.cell? ⟨gW, i, none⟩ = some (.slice A' (cs0 i).length c') := (World.cell?_of_block (ho.kept _ (World.block_lt_of_cell? w _ hWi) (fun h => h))).trans hWi
      have hro : ReadsInt wr .i64 A (cs0 i).length (cs0 i) := by
        have := h1.own i hlt
        rw [hVi] at this
        exact own_reads1 this
      have hli := hL i hlt
      have HS := Lib.hid (fun m => same_quiet A A' c c' (cs0 i) (wr.drewN m) (reads_only hro ((Only.refl wr (fun _ => False)).drewN m) (fun _ _ h => h)) hcA (reads_only hrW (ho.drewN m) (fun _ _ h => h)) hcW (by omega))
      have HO := Lib.hid ho
      clear hr h1 h hL hV hro hrW ho hWi hVi
      generalize (cs0 i).length = li at *
      go_wp2_with fail
      go_quiet ((go_at_call 24; exact Calls.quiet_of (HS.out _)))
      go_wp2_with fail
      go_roundw
      case rel => exact ⟨i + 1, by omega, by go_num, HO.out.drewN nq⟩
      case measure => simp [intOf]; omega
    · obtain rfl : n = i := by omega
      have h1 := h.only ho hB
      have c0 : wr.cell? ⟨k, 0, none⟩ = some (.slice (some ⟨gL, 0, none⟩) n cL) := blk_cell h1.hk 0
      have HO1 := Lib.hid (And.intro h1 (Nat.le_trans hB ho.base.size))
      clear h h1
      go_wp2_with fail
      go_loopw [4] (fun v4 wr => ∃ r : Nat, r ≤ 3 ∧ v4 = .int .i64 r ∧ ∃ cs, Ap B k gL n cL (.slice (some ⟨gW, 0, none⟩) n cW) V w wr cs ∧ B ≤ wr.heap.size ∧ (∀ i, i < n → (cs i).length = (cs0 i).length) ∧ (1 ≤ r → ∀ i, i < n → cs i = marks i (cs0 i).length)) (fun v _ => 3 - (intOf v).toNat)
      case atStart => exact ⟨0, by decide, rfl, cs0, HO1.out.1, HO1.out.2, fun _ _ => rfl, fun h => absurd h (by decide)⟩
      case round =>
        clear c0 HO1 hL hV
        obtain ⟨r, hr3, rfl, cs, h, hBr, hlen, hmk⟩ := hrel
        have hrr : r = 0 ∨ r = 1 ∨ r = 2 ∨ r = 3 := by omega
        rcases hrr with rfl | rfl | rfl | rfl
        · go_wp2_with fail
          go_loopw [5] (fun v5 wr => ∃ i : Nat, i ≤ n ∧ v5 = .int .i64 i ∧ ∃ cs, Ap B k gL n cL (.slice (some ⟨gW, 0, none⟩) n cW) V w wr cs ∧ B ≤ wr.heap.size ∧ (∀ i, i < n → (cs i).length = (cs0 i).length) ∧ ∀ i', i' < i → cs i' = marks i' (cs0 i').length) (fun v _ => n - (intOf v).toNat)
          case atStart => exact ⟨0, Nat.zero_le _, rfl, cs, h, hBr, hlen, fun _ h => absurd h (Nat.not_lt_zero _)⟩
          case round =>
            obtain ⟨i, hi, rfl, cs, h, hBr, hlen, hmk⟩ := hrel
            obtain ⟨_, hL, hV⟩ := HAp.out
            by_cases hlt : i < n
            · have hlt2 : (i : Int) < n := by omega
              obtain ⟨Ai, ci, hVi, hci⟩ := hV i hlt
              have c0 : wr.cell? ⟨k, 0, none⟩ = some (.slice (some ⟨gL, 0, none⟩) n cL) := blk_cell h.hk 0
              have c2 : wr.cell? ⟨gL, i, none⟩ = some (.slice Ai (cs0 i).length ci) := by rw [← hVi]; exact h.cell i hlt
              have hli := hL i hlt
              have HH := Lib.hid (And.intro h (And.intro hBr (And.intro hlen hmk)))
              clear h hBr hlen hmk hL hV
              go_wp2_with fail
              obtain ⟨h, hBr, hlen, hmk⟩ := HH.out
              go_loopw [6] (fun v6 wr => ∃ j : Nat, j ≤ (cs0 i).length ∧ v6 = .int .i64 j ∧ ∃ cs, Ap B k gL n cL (.slice (some ⟨gW, 0, none⟩) n cW) V w wr cs ∧ B ≤ wr.heap.size ∧ (∀ i, i < n → (cs i).length = (cs0 i).length) ∧ (∀ i', i' < i → cs i' = marks i' (cs0 i').length) ∧ ∀ j', j' < j → (cs i).getD j' 0 = -2 - (i : Int)) (fun v _ => (cs0 i).length - (intOf v).toNat)
              case atStart => exact ⟨0, Nat.zero_le _, rfl, cs, h, hBr, hlen, hmk, fun _ h => absurd h (Nat.not_lt_zero _)⟩
              case round =>
                clear c0 c2 h hBr hlen hmk HH
                obtain ⟨j, hj, rfl, cs, h, hBr, hlen, hmk, hjs⟩ := hrel
                have c0 : wr.cell? ⟨k, 0, none⟩ = some (.slice (some ⟨gL, 0, none⟩) n cL) := blk_cell h.hk 0
                have c2 : wr.cell? ⟨gL, i, none⟩ = some (.slice Ai (cs0 i).length ci) := by rw [← hVi]; exact h.cell i hlt
                by_cases hjl : j < (cs0 i).length
                · have hjl2 : (j : Int) < (cs0 i).length := by omega
                  obtain ⟨gi, ci', e, _, _⟩ := own_row_some (h.own i hlt) (by rw [hlen i hlt]; omega)
                  rw [hlen i hlt] at e
                  rw [hVi] at e
                  cases e
                  have hoi := h.own i hlt
                  rw [hVi, hlen i hlt] at hoi
                  obtain ⟨x0, x1⟩ := own_at hoi (j : Int) (by omega) hjl2
                  have x0 : wr.cell? ⟨gi, j, none⟩ = some (.int .i64 (rd (cs i) j)) := x0
                  have x1 : wr.frozen? ⟨gi, j, none⟩ = false := x1
                  have hw : IntKind.i64.wrap (-2 - (i : Int)) = -2 - (i : Int) := by rw [IntKind.wrap_i64]; omega
                  have HM := Lib.hid (h.mark i j gi _ (-2 - (i : Int)) hlt ((hlen i hlt).symm ▸ hVi) hBr)
                  have HX := Lib.hid (And.intro hBr (And.intro hlen (And.intro hmk hjs)))
                  generalize hli' : (cs0 i).length = li at *
                  have HLI := Lib.hid hli'
                  clear h hBr hlen hmk hjs hoi hli'
                  go_wp2_with fail
                  go_roundw
                  case rel =>
                    obtain ⟨hBr, hlen, hmk, hjs⟩ := HX.out
                    refine ⟨j + 1, by omega, by go_num, _, HM.out, by simpa using hBr, ?_, ?_, ?_⟩
                    · intro i' hi'
                      by_cases e : i' = i
                      · rw [if_pos e, List.length_set, ← e]; exact hlen i' hi'
                      · rw [if_neg e]; exact hlen i' hi'
                    · intro i' hi'
                      rw [if_neg (by omega)]; exact hmk i' hi'
                    · intro j' hj'
                      rw [if_pos rfl]
                      by_cases e : j = j'
                      · subst e; simp [List.getD, List.getElem?_set, hlen i hlt, HLI.out, hjl]
                      · have := hjs j' (by omega)
                        simpa [List.getD, List.getElem?_set, e] using this
                  case measure => simp [intOf]; omega
                · obtain rfl : j = (cs0 i).length := by omega
                  have HX := Lib.hid (And.intro h (And.intro hBr (And.intro hlen (And.intro hmk hjs))))
                  generalize hli' : (cs0 i).length = li at *
                  have HLI := Lib.hid hli'
                  clear h hBr hlen hmk hjs hli'
                  go_wp2_with fail
                  refine wp_loop_rounds 1 ?_
                  rw [rounds_succ]
                  go_wp2_with fail
                  go_roundw
                  case rel =>
                    obtain ⟨h, hBr, hlen, hmk, hjs⟩ := HX.out
                    refine ⟨i + 1, by omega, by go_num, cs, h, hBr, hlen, ?_⟩
                    intro i' hi'
                    by_cases e : i' = i
                    · subst e
                      exact marks_of (hlen i' hlt) (fun j' hj' => hjs j' (by rw [← HLI.out]; exact hj'))
                    · exact hmk i' (by omega)
                  case measure => simp [intOf]; omega
            · obtain rfl : n = i := by omega
              have c0 : wr.cell? ⟨k, 0, none⟩ = some (.slice (some ⟨gL, 0, none⟩) n cL) := blk_cell h.hk 0
              have HX := Lib.hid (And.intro h (And.intro hBr (And.intro hlen hmk)))
              clear h hBr hlen hmk
              go_wp2_with fail
              go_roundw
              case rel =>
                obtain ⟨h, hBr, hlen, hmk⟩ := HX.out
                exact ⟨1, by decide, rfl, cs, h, hBr, hlen, fun _ => hmk⟩
              case measure => simp [intOf]
        · have hmk := hmk (by decide)
          rw [show (((1 : Nat) : Int)) = 1 from rfl]
          go_wp2_with fail
          go_loopw [5] (fun v5 wr => ∃ i : Nat, i ≤ n ∧ v5 = .int .i64 i ∧ ∃ cs, Ap B k gL n cL (.slice (some ⟨gW, 0, none⟩) n cW) V w wr cs ∧ B ≤ wr.heap.size ∧ (∀ i, i < n → (cs i).length = (cs0 i).length) ∧ (∀ i, i < n → cs i = marks i (cs0 i).length)) (fun v _ => n - (intOf v).toNat)
          case atStart => exact ⟨0, Nat.zero_le _, rfl, cs, h, hBr, hlen, hmk⟩
          case round =>
            clear h hBr hlen hmk
            obtain ⟨i, hi, rfl, cs, h, hBr, hlen, hmk⟩ := hrel
            obtain ⟨_, hL, hV⟩ := HAp.out
            by_cases hlt : i < n
            · have hlt2 : (i : Int) < n := by omega
              obtain ⟨Ai, ci, hVi, hci⟩ := hV i hlt
              have c0 : wr.cell? ⟨k, 0, none⟩ = some (.slice (some ⟨gL, 0, none⟩) n cL) := blk_cell h.hk 0
              have c2 : wr.cell? ⟨gL, i, none⟩ = some (.slice Ai (cs0 i).length ci) := by rw [← hVi]; exact h.cell i hlt
              have hli := hL i hlt
              have HH := Lib.hid (And.intro h (And.intro hBr (And.intro hlen hmk)))
              clear h hBr hlen hmk hL hV
              go_wp2_with fail
              obtain ⟨h, hBr, hlen, hmk⟩ := HH.out
              go_loopw [6] (fun v6 wr => ∃ j : Nat, j ≤ (cs0 i).length ∧ v6 = .int .i64 j ∧ ∃ cs, Ap B k gL n cL (.slice (some ⟨gW, 0, none⟩) n cW) V w wr cs ∧ B ≤ wr.heap.size ∧ (∀ i, i < n → (cs i).length = (cs0 i).length) ∧ (∀ i, i < n → cs i = marks i (cs0 i).length)) (fun v _ => (cs0 i).length - (intOf v).toNat)
              case atStart => exact ⟨0, Nat.zero_le _, rfl, cs, h, hBr, hlen, hmk⟩
              case round =>
                clear c0 c2 h hBr hlen hmk HH
                obtain ⟨j, hj, rfl, cs, h, hBr, hlen, hmk⟩ := hrel
                have c0 : wr.cell? ⟨k, 0, none⟩ = some (.slice (some ⟨gL, 0, none⟩) n cL) := blk_cell h.hk 0
                have c2 : wr.cell? ⟨gL, i, none⟩ = some (.slice Ai (cs0 i).length ci) := by rw [← hVi]; exact h.cell i hlt
                by_cases hjl : j < (cs0 i).length
                · have hjl2 : (j : Int) < (cs0 i).length := by omega
                  have HX := Lib.hid (And.intro h (And.intro hBr (And.intro hlen hmk)))
                  generalize hli' : (cs0 i).length = li at *
                  have HLI := Lib.hid hli'
                  clear h hBr hlen hmk hli'
                  go_wp2_with fail
                  go_roundw
                  case rel =>
                    obtain ⟨h, hBr, hlen, hmk⟩ := HX.out
                    exact ⟨j + 1, by omega, by go_num, cs, h, hBr, hlen, hmk⟩
                  case measure => simp [intOf]; omega
                · obtain rfl : j = (cs0 i).length := by omega
                  clear c0 c2
                  have HX := Lib.hid (And.intro h (And.intro hBr (And.intro hlen hmk)))
                  have c0 : wr.cell? ⟨k, 0, none⟩ = some (.slice (some ⟨gL, 0, none⟩) n cL) := blk_cell h.hk 0
                  have c2 : wr.cell? ⟨gL, i, none⟩ = some (.slice Ai (cs0 i).length ci) := by rw [← hVi]; exact h.cell i hlt
                  clear h hBr hlen hmk
                  go_wp2_with fail
                  go_loopw [7] (fun v7 wr => ∃ g : Nat, 1 ≤ g ∧ g ≤ 18 ∧ v7 = .int .i64 g ∧ ∃ cs, Ap B k gL n cL (.slice (some ⟨gW, 0, none⟩) n cW) V w wr cs ∧ B ≤ wr.heap.size ∧ (∀ i, i < n → (cs i).length = (cs0 i).length) ∧ (∀ i, i < n → cs i = marks i (cs0 i).length)) (fun v _ => 18 - (intOf v).toNat)
                  case atStart => exact ⟨1, by decide, by decide, rfl, cs, HX.out⟩
                  case round =>
                    clear c0 c2 HX
                    obtain ⟨g, hg1, hg2, rfl, cs, h, hBr, hlen, hmk⟩ := hrel
                    have c0 : wr.cell? ⟨k, 0, none⟩ = some (.slice (some ⟨gL, 0, none⟩) n cL) := blk_cell h.hk 0
                    have c2 : wr.cell? ⟨gL, i, none⟩ = some (.slice Ai (cs0 i).length ci) := by rw [← hVi]; exact h.cell i hlt
                    by_cases hgl : g ≤ 17
                    · have hgl2 : (g : Int) ≤ 17 := by omega
                      obtain ⟨q, hq⟩ : ∃ q : Nat, q = g / 17 := ⟨_, rfl⟩
                      obtain ⟨p, hp⟩ : ∃ p : Nat, p = q * 80 := ⟨_, rfl⟩
                      obtain ⟨m, hm⟩ : ∃ m : Nat, m = g + p := ⟨_, rfl⟩
                      obtain ⟨M, hM⟩ : ∃ M : Nat, (cs0 i).length + m = M + 1 := ⟨(cs0 i).length + m - 1, by omega⟩
                      have t1 : (g : Int).tdiv 17 = q := by rw [Int.tdiv_eq_ediv_of_nonneg (by omega)]; omega
                      have HM := Lib.hid (step_len g q p m hp hm (by omega) (by omega))
                      have HT4 := Lib.hid (wrap64_small (M : Int) (by omega) (by omega))
                      have hoi := h.own i hlt
                      rw [hVi, hlen i hlt] at hoi
                      obtain ⟨v', w', hrun, hown', hgr, hat, hold⟩ := append_zeros B (.slice Ai (cs0 i).length ci) (cs0 i).length m (nums .i64 (cs i)) 22 wr (by omega) (by omega) hoi hBr
                      obtain ⟨g', cap', rfl, hBg, hcap⟩ := own_row_some hown' (by omega)
                      have hA1 := h.move (cs' := cs) i hlt (by rw [hVi]; exact hgr) hBr (by rw [hVi, hlen i hlt]; exact hold) (fun _ _ _ => rfl)
                      obtain ⟨cg, hcg⟩ := own_typed hown' g' rfl
                      have hA2 := hA1.beyond g' M (.int .i64 7) ⟨cg, hcg⟩ hBg (fun i' hi' c' e' => by
                        rw [hlen i' hi'] at e' ⊢
                        by_cases ei : i' = i
                        · subst ei; omega
                        · exfalso
                          rcases hat with ha | ha
                          · have hVb : (V i).ownBlock = some g' := by rw [hVi]; exact ha.symm
                            exact h.apart i' i hi' hlt ei g' (by rw [e']; rfl) hVb
                          · have := own_lt (h.own i' hi') g' (by rw [e']; rfl)
                            have ha : g' = wr.heap.size := by simpa [Value.ownBlock] using ha
                            omega)
                      have hBr2 : B ≤ (w'.setCell ⟨g', M, none⟩ (.int .i64 7)).heap.size := by
                        have := hgr.size
                        simp
                        omega
                      have hown2 : w'.ownsRow B 3 1 (.slice (some ⟨g', 0, none⟩) (M + 1) cap') (M + 1) (nums .i64 (cs i ++ List.replicate m 0)) := by
                        rw [hM, ← nums_append] at hown'
                        exact hown'
                      obtain ⟨y0, y1⟩ := own_at hown2 (M : Int) (by omega) (by omega)
                      have y0 : w'.cell? ⟨g', M, none⟩ = some (.int .i64 (rd (cs i ++ List.replicate m 0) M)) := y0
                      have y1 : w'.frozen? ⟨g', M, none⟩ = false := y1
                      generalize rd (cs i ++ List.replicate m 0) M = rr at y0
                      rw [hM] at hrun
                      have HX := Lib.hid (And.intro hA2 (And.intro hBr2 (And.intro hlen hmk)))
                      clear h hBr hlen hmk hoi hq hp hm hown' hgr hat hold hA1 hA2 hBr2 hown2 hcg hcap hM hBg
                      have t4 := HT4.out
                      go_wp2_with (at_builtin; refine Lib.wpList_append_run _ rfl _ _ 22 3 rfl _ _ rfl (congrArg (Value.int .i64) HM.out) _ w' hrun ?_)
                      go_roundw
                      case rel =>
                        obtain ⟨h, hBr, hlen, hmk⟩ := HX.out
                        exact ⟨g + 1, by omega, by omega, by go_num, cs, h, hBr, hlen, hmk⟩
                      case measure => simp [intOf]; omega
                    · obtain rfl : g = 18 := by omega
                      have HX := Lib.hid (And.intro h (And.intro hBr (And.intro hlen hmk)))
                      clear h hBr hlen hmk
                      go_wp2_with fail
                      go_roundw
                      case rel =>
                        obtain ⟨h, hBr, hlen, hmk⟩ := HX.out
                        exact ⟨i + 1, by omega, by go_num, cs, h, hBr, hlen, hmk⟩
                      case measure => simp [intOf]; omega
            · obtain rfl : n = i := by omega
              have c0 : wr.cell? ⟨k, 0, none⟩ = some (.slice (some ⟨gL, 0, none⟩) n cL) := blk_cell h.hk 0
              have HX := Lib.hid (And.intro h (And.intro hBr (And.intro hlen hmk)))
              clear h hBr hlen hmk
              go_wp2_with fail
              go_roundw
              case rel =>
                obtain ⟨h, hBr, hlen, hmk⟩ := HX.out
                exact ⟨2, by decide, rfl, cs, h, hBr, hlen, fun _ => hmk⟩
              case measure => simp [intOf]
        · have hmk := hmk (by decide)
          rw [show (((2 : Nat) : Int)) = 2 from rfl]
          go_wp2_with fail
          go_loopw [5] (fun v5 wr => ∃ i : Nat, i ≤ n ∧ v5 = .int .i64 i ∧ ∃ cs, Ap B k gL n cL (.slice (some ⟨gW, 0, none⟩) n cW) V w wr cs ∧ B ≤ wr.heap.size ∧ (∀ i, i < n → (cs i).length = (cs0 i).length) ∧ (∀ i, i < n → cs i = marks i (cs0 i).length)) (fun v _ => n - (intOf v).toNat)
          case atStart => exact ⟨0, Nat.zero_le _, rfl, cs, h, hBr, hlen, hmk⟩
          case round =>
            clear h hBr hlen hmk
            obtain ⟨i, hi, rfl, cs, h, hBr, hlen, hmk⟩ := hrel
            obtain ⟨_, hL, hV⟩ := HAp.out
            by_cases hlt : i < n
            · have hlt2 : (i : Int) < n := by omega
              obtain ⟨Ai, ci, hVi, hci⟩ := hV i hlt
              have c0 : wr.cell? ⟨k, 0, none⟩ = some (.slice (some ⟨gL, 0, none⟩) n cL) := blk_cell h.hk 0
              have c2 : wr.cell? ⟨gL, i, none⟩ = some (.slice Ai (cs0 i).length ci) := by rw [← hVi]; exact h.cell i hlt
              have hli := hL i hlt
              have HH := Lib.hid (And.intro h (And.intro hBr (And.intro hlen hmk)))
              clear h hBr hlen hmk hL hV
              go_wp2_with fail
              obtain ⟨h, hBr, hlen, hmk⟩ := HH.out
              go_loopw [6] (fun v6 wr => ∃ j : Nat, j ≤ (cs0 i).length ∧ v6 = .int .i64 j ∧ ∃ cs, Ap B k gL n cL (.slice (some ⟨gW, 0, none⟩) n cW) V w wr cs ∧ B ≤ wr.heap.size ∧ (∀ i, i < n → (cs i).length = (cs0 i).length) ∧ (∀ i, i < n → cs i = marks i (cs0 i).length)) (fun v _ => (cs0 i).length - (intOf v).toNat)
              case atStart => exact ⟨0, Nat.zero_le _, rfl, cs, h, hBr, hlen, hmk⟩
              case round =>
                clear c0 c2 h hBr hlen hmk HH
                obtain ⟨j, hj, rfl, cs, h, hBr, hlen, hmk⟩ := hrel
                have c0 : wr.cell? ⟨k, 0, none⟩ = some (.slice (some ⟨gL, 0, none⟩) n cL) := blk_cell h.hk 0
                have c2 : wr.cell? ⟨gL, i, none⟩ = some (.slice Ai (cs0 i).length ci) := by rw [← hVi]; exact h.cell i hlt
                by_cases hjl : j < (cs0 i).length
                · have hjl2 : (j : Int) < (cs0 i).length := by omega
                  obtain ⟨gi, ci', e, _, _⟩ := own_row_some (h.own i hlt) (by rw [hlen i hlt]; omega)
                  rw [hlen i hlt] at e
                  rw [hVi] at e
                  cases e
                  have hoi := h.own i hlt
                  rw [hVi, hlen i hlt] at hoi
                  obtain ⟨x0, _⟩ := own_at hoi (j : Int) (by omega) hjl2
                  have x0 : wr.cell? ⟨gi, j, none⟩ = some (.int .i64 (rd (cs i) j)) := x0
                  rw [rd_at, hmk i hlt, show (marks i (cs0 i).length).getD j 0 = -2 - (i : Int) by simp [marks, List.getD, hjl]] at x0
                  have hw : IntKind.i64.wrap (-2 - (i : Int)) = -2 - (i : Int) := by rw [IntKind.wrap_i64]; omega
                  clear hoi
                  have HX := Lib.hid (And.intro h (And.intro hBr (And.intro hlen hmk)))
                  generalize hli' : (cs0 i).length = li at *
                  have HLI := Lib.hid hli'
                  clear h hBr hlen hmk hli'
                  go_wp2_with fail
                  go_roundw
                  case rel =>
                    obtain ⟨h, hBr, hlen, hmk⟩ := HX.out
                    exact ⟨j + 1, by omega, by go_num, cs, h, hBr, hlen, hmk⟩
                  case measure => simp [intOf]; omega
                · obtain rfl : j = (cs0 i).length := by omega
                  have HX := Lib.hid (And.intro h (And.intro hBr (And.intro hlen hmk)))
                  generalize hli' : (cs0 i).length = li at *
                  have HLI := Lib.hid hli'
                  clear h hBr hlen hmk hli'
                  go_wp2_with fail
                  refine wp_loop_rounds 1 ?_
                  rw [rounds_succ]
                  go_wp2_with fail
                  go_roundw
                  case rel =>
                    obtain ⟨h, hBr, hlen, hmk⟩ := HX.out
                    exact ⟨i + 1, by omega, by go_num, cs, h, hBr, hlen, hmk⟩
                  case measure => simp [intOf]; omega
            · obtain rfl : n = i := by omega
              have c0 : wr.cell? ⟨k, 0, none⟩ = some (.slice (some ⟨gL, 0, none⟩) n cL) := blk_cell h.hk 0
              have HX := Lib.hid (And.intro h (And.intro hBr (And.intro hlen hmk)))
              clear h hBr hlen hmk
              go_wp2_with fail
              go_roundw
              case rel =>
                obtain ⟨h, hBr, hlen, hmk⟩ := HX.out
                exact ⟨3, by decide, rfl, cs, h, hBr, hlen, fun _ => hmk⟩
              case measure => simp [intOf]
        · go_wp2_with fail
          go_ret
          exact ⟨rfl, h.below⟩
end Go.Proofs.YtflhdplfkpdejaaGreatFmt
namespace Go.Proofs.YtflhdplfkpdejaaGreatFmt
open Go.RowKit Go.Proofs.YtflhdplfkpdejaaGreatFmtW.PrintWords
set_option linter.unusedVariables false in
set_option linter.unusedSimpArgs false in
set_option maxRecDepth 100000 in
set_option maxHeartbeats 8000000 in
theorem apart_none (k : Nat) (AL : Option Addr) (cL : Nat) (vW : Value) (w : World) (h : w.heap[k]? = some (.cells #[.slice AL 0 cL, vW] 28 (0, 0))) :
    Calls Tryz.prog 6 #[.pointer (some ⟨k, 0, none⟩)] w fun e w' => e = .returned (.bool true) ∧ w' = w := by
  have c0 : w.cell? ⟨k, 0, none⟩ = some (.slice AL 0 cL) := blk_cell h 0
  clear h
  go_enter Tryz.func6, Tryz.ntmps6
  go_wp2_with fail
  refine wp_loop_rounds 1 ?_
  rw [rounds_succ]
  go_wp2_with fail
  refine wp_loop_rounds 4 ?_
  rw [rounds_succ]
  go_wp2_with fail
  refine wp_loop_rounds 1 ?_
  rw [rounds_succ]
  go_wp2_with fail
  rw [rounds_succ]
  go_wp2_with fail
  refine wp_loop_rounds 1 ?_
  rw [rounds_succ]
  go_wp2_with fail
  rw [rounds_succ]
  go_wp2_with fail
  refine wp_loop_rounds 1 ?_
  rw [rounds_succ]
  go_wp2_with fail
  rw [rounds_succ]
  go_wp2_with fail
  go_ret
  exact ⟨rfl, rfl⟩
theorem apart_calls (B k : Nat) (es : List Ent) (w : World) (hB : B ≤ w.heap.size) (hk : Kp B k es w) (hn : es.length ≤ 1000) (hd : ∀ i, i < es.length → (es.getD i noEnt).2.length ≤ 2000) :
    Calls Tryz.prog 6 #[.pointer (some ⟨k, 0, none⟩)] w fun e w' => e = .returned (.bool true) ∧ Below B w w' := by
  obtain ⟨vL, vW, ws, h1, h2, h3, h4, h5⟩ := hk.ex
  by_cases h0 : 0 < es.length
  · obtain ⟨gL, cL, rfl, hgB, hcL⟩ := own_row_some h2 h0
    obtain ⟨gW, cW, rfl, _, _⟩ := own_row_some h3 h0
    have hwl : ws.length = es.length := by have := h3.1; omega
    have cellL : ∀ i, i < es.length → w.cell? ⟨gL, i, none⟩ = some (es.getD i noEnt).1 := fun i hi => by
      have := h2.cells (g := gL) rfl i (es.getD i noEnt).1 (by simp [List.getD, hi])
      rwa [add_plain] at this
    have cellW : ∀ i, i < es.length → w.cell? ⟨gW, i, none⟩ = some (ws.getD i undef) := fun i hi => by
      have := h3.cells (g := gW) rfl i (ws.getD i undef) (by simp [List.getD, show i < ws.length by omega])
      rwa [add_plain] at this
    have opn : ∀ {v : Value} {n : Nat} {xs : List Value}, w.ownsRow B 3 1 v n xs → ∃ A c, v = .slice A n c ∧ n ≤ c := fun {v n xs} h => by
      rcases h.2 with ⟨rfl, rfl⟩ | ⟨g, cap, cur, rfl, _, _, hc, _⟩
      · exact ⟨none, 0, rfl, Nat.le_refl _⟩
      · exact ⟨_, cap, rfl, hc⟩
    refine apart_some B k gL gW es.length cL cW (fun i => (es.getD i noEnt).1) (fun i => (es.getD i noEnt).2) w hB ⟨h1, cellL, own_typed h2 gL rfl, hk.own, hk.apart, Below.refl _ _⟩ h0 hn (fun i hi => Nat.le_trans (hd i hi) (by decide)) (fun i hi => opn (hk.own i hi)) (fun i hi => ?_)
    obtain ⟨A, c, e, hc⟩ := opn (h5 i hi)
    have hr := h5 i hi
    rw [e] at hr
    exact ⟨A, c, by rw [cellW i hi, e], own_reads1 hr, hc⟩
  · have he : es.length = 0 := by omega
    obtain ⟨AL, cL, rfl⟩ := own_slice h2
    rw [he] at h1
    refine (apart_none k AL cL vW w h1).mono ?_
    rintro e w' ⟨rfl, rfl⟩
    exact ⟨rfl, Below.refl _ _⟩
end Go.Proofs.YtflhdplfkpdejaaGreatFmt
namespace Go.Proofs.YtflhdplfkpdejaaGreatFmt
open Go.RowKit Go.Proofs.YtflhdplfkpdejaaGreatFmtW.PrintWords
theorem kp_new (w : World) (o : Obj) : Kp w.heap.size (w.heap.size + 1) [] ((w.alloc o).alloc (.cells #[.slice none 0 0, .slice none 0 0] 28)) :=
  ⟨⟨.slice none 0 0, .slice none 0 0, [], heap_two w _ _, own_nil _ _ _ _, own_nil _ _ _ _, fun b h => by simp [Value.ownBlock] at h, fun i hi => absurd hi (Nat.not_lt_zero _)⟩, by omega, fun i hi => absurd hi (Nat.not_lt_zero _), fun i j hi => absurd hi (Nat.not_lt_zero _)⟩
set_option linter.unusedVariables false in
set_option linter.unusedSimpArgs false in
set_option maxRecDepth 100000 in
set_option maxHeartbeats 8000000 in
theorem exactOnes_long (neg : Bool) (A : Option Addr) (c : Nat) (ds : List Int) (e n : Int) (w : World) (hr : ReadsInt w .i64 A ds.length ds) (hc : ds.length ≤ c) (hA : 0 < ds.length → ∀ ad, A = some ad → ad.block < w.heap.size) (hT : Tab w) (hlen : 2100 < ds.length) :
    Calls Tryz.prog 3 #[.agg #[.bool neg, .slice A ds.length c, .int .i64 e], .int .i64 n] w fun en w' => en = .returned (.bool true) ∧ Below w.heap.size w w' := by
  obtain ⟨w2, hw2, h1, hK, hO⟩ : ∃ w2, w2 = (w.alloc (.cells #[.bool neg, .slice A ds.length c, .int .i64 e] 24)).alloc (.cells #[.slice none 0 0, .slice none 0 0] 28) ∧ w2.heap[w.heap.size]? = some (.cells #[.bool neg, .slice A ds.length c, .int .i64 e] 24 (0, 0)) ∧ Kp w.heap.size (w.heap.size + 1) [] w2 ∧ Only w w2 (fun _ => False) :=
    ⟨_, rfl, heap_two' w _ _, kp_new w _, ((Only.refl w (fun _ => False)).alloc _).alloc _⟩
  have HAL := Lib.hid (alive_calls w2 (hT.only hO))
  have HR := Lib.hid (fun W (h : Only w W (fun _ => False)) => reads_only hr h (fun _ _ h => h))
  have HT := Lib.hid (fun W (h : Only w W (fun _ => False)) => hT.only h)
  have HC := Lib.hid (And.intro hc hA)
  have HK := Lib.hid (And.intro h1 (And.intro hK hO))
  clear hr hT hc hA h1 hK hO
  have hl2 : (2100 : Int) < ds.length := by omega
  go_enter Tryz.func3, Tryz.ntmps3
  go_upto_region 2 with (fail)
  rw [← hw2]
  clear hw2
  go_wp2_with fail
  refine HAL.out.mono ?_
  rintro en w3 ⟨rfl, ho3⟩
  obtain ⟨h1, hK, hO⟩ := HK.out
  replace h1 := (ho3.kept _ (blk_lt h1) (fun h => h)).trans h1
  replace hK := hK.only ho3
  replace hO := hO.trans ho3
  have c0 : w3.cell? ⟨w.heap.size, 0, none⟩ = some (.bool neg) := blk_cell h1 0
  have c1 : w3.cell? ⟨w.heap.size, 1, none⟩ = some (.slice A ds.length c) := blk_cell h1 1
  have c2 : w3.cell? ⟨w.heap.size, 2, none⟩ = some (.int .i64 e) := blk_cell h1 2
  clear ho3 HAL HK h1
  go_wp2_with fail
  refine (apart_calls w.heap.size (w.heap.size + 1) [] w3 (hO.base.size) hK (by decide) (fun i hi => absurd hi (Nat.not_lt_zero _))).mono ?_
  rintro en w9 ⟨rfl, hb⟩
  have HF := Lib.hid ((hO.below (Nat.le_refl _) (fun _ h => h.elim)).trans hb)
  clear hb hO hK
  go_wp2_with fail
  go_ret
  exact ⟨rfl, HF.out⟩
set_option linter.unusedVariables false in
set_option linter.unusedSimpArgs false in
set_option maxRecDepth 100000 in
set_option maxHeartbeats 8000000 in
theorem exactOnes_bad (neg : Bool) (A : Option Addr) (c : Nat) (ds : List Int) (e n : Int) (w : World) (hr : ReadsInt w .i64 A ds.length ds) (hc : ds.length ≤ c) (hA : 0 < ds.length → ∀ ad, A = some ad → ad.block < w.heap.size) (hT : Tab w) (hlen : ds.length ≤ 2100) (hv : vB neg ds e = false) :
    Calls Tryz.prog 3 #[.agg #[.bool neg, .slice A ds.length c, .int .i64 e], .int .i64 n] w fun en w' => en = .returned (.bool true) ∧ Below w.heap.size w w' := by
  obtain ⟨w2, hw2, h1, hK, hO⟩ : ∃ w2, w2 = (w.alloc (.cells #[.bool neg, .slice A ds.length c, .int .i64 e] 24)).alloc (.cells #[.slice none 0 0, .slice none 0 0] 28) ∧ w2.heap[w.heap.size]? = some (.cells #[.bool neg, .slice A ds.length c, .int .i64 e] 24 (0, 0)) ∧ Kp w.heap.size (w.heap.size + 1) [] w2 ∧ Only w w2 (fun _ => False) :=
    ⟨_, rfl, heap_two' w _ _, kp_new w _, ((Only.refl w (fun _ => False)).alloc _).alloc _⟩
  have HAL := Lib.hid (alive_calls w2 (hT.only hO))
  have HR := Lib.hid (fun W (h : Only w W (fun _ => False)) => reads_only hr h (fun _ _ h => h))
  have HT := Lib.hid (fun W (h : Only w W (fun _ => False)) => hT.only h)
  have HC := Lib.hid (And.intro hc hA)
  have HK := Lib.hid (And.intro h1 (And.intro hK hO))
  clear hr hT hc hA h1 hK hO
  have hl2 : ¬ (2100 : Int) < ds.length := by omega
  go_enter Tryz.func3, Tryz.ntmps3
  go_upto_region 2 with (fail)
  rw [← hw2]
  clear hw2
  go_wp2_with fail
  refine HAL.out.mono ?_
  rintro en w3 ⟨rfl, ho3⟩
  obtain ⟨h1, hK, hO⟩ := HK.out
  replace h1 := (ho3.kept _ (blk_lt h1) (fun h => h)).trans h1
  replace hK := hK.only ho3
  replace hO := hO.trans ho3
  have c0 : w3.cell? ⟨w.heap.size, 0, none⟩ = some (.bool neg) := blk_cell h1 0
  have c1 : w3.cell? ⟨w.heap.size, 1, none⟩ = some (.slice A ds.length c) := blk_cell h1 1
  have c2 : w3.cell? ⟨w.heap.size, 2, none⟩ = some (.int .i64 e) := blk_cell h1 2
  clear ho3 HAL HK h1
  have HN := Lib.hid (ones_bad (w.heap.size + 1) neg A c ds e n w3 (HR.out _ hO) HC.out.1 hlen hv)
  go_wp2_with fail
  refine HN.out.mono ?_
  rintro en w4 ⟨rfl, ho4⟩
  replace hK := hK.only ho4
  replace hO := hO.trans ho4
  clear ho4 c0 c1 c2
  go_wp2_with fail
  refine (apart_calls w.heap.size (w.heap.size + 1) [] w4 (hO.base.size) hK (by decide) (fun i hi => absurd hi (Nat.not_lt_zero _))).mono ?_
  rintro en w9 ⟨rfl, hb⟩
  have HF := Lib.hid ((hO.below (Nat.le_refl _) (fun _ h => h.elim)).trans hb)
  clear hb hO hK
  go_wp2_with fail
  go_ret
  exact ⟨rfl, HF.out⟩
set_option linter.unusedVariables false in
set_option linter.unusedSimpArgs false in
set_option maxRecDepth 100000 in
set_option maxHeartbeats 8000000 in
theorem exactOnes_ok (neg : Bool) (A : Option Addr) (c : Nat) (ds : List Int) (e n : Int) (w : World) (hr : ReadsInt w .i64 A ds.length ds) (hc : ds.length ≤ c) (hA : 0 < ds.length → ∀ ad, A = some ad → ad.block < w.heap.size) (hT : Tab w) (hlen : ds.length ≤ 2100) (hv : vB neg ds e = true) :
    Calls Tryz.prog 3 #[.agg #[.bool neg, .slice A ds.length c, .int .i64 e], .int .i64 n] w fun en w' => en = .returned (.bool true) ∧ Below w.heap.size w w' := by
  obtain ⟨w2, hw2, h1, hK, hO⟩ : ∃ w2, w2 = (w.alloc (.cells #[.bool neg, .slice A ds.length c, .int .i64 e] 24)).alloc (.cells #[.slice none 0 0, .slice none 0 0] 28) ∧ w2.heap[w.heap.size]? = some (.cells #[.bool neg, .slice A ds.length c, .int .i64 e] 24 (0, 0)) ∧ Kp w.heap.size (w.heap.size + 1) [] w2 ∧ Only w w2 (fun _ => False) :=
    ⟨_, rfl, heap_two' w _ _, kp_new w _, ((Only.refl w (fun _ => False)).alloc _).alloc _⟩
  have HAL := Lib.hid (alive_calls w2 (hT.only hO))
  have HR := Lib.hid (fun W (h : Only w W (fun _ => False)) => reads_only hr h (fun _ _ h => h))
  have HT := Lib.hid (fun W (h : Only w W (fun _ => False)) => hT.only h)
  have HC := Lib.hid (And.intro hc hA)
  have HK := Lib.hid (And.intro h1 (And.intro hK hO))
  clear hr hT hc hA h1 hK hO
  have hl2 : ¬ (2100 : Int) < ds.length := by omega
  go_enter Tryz.func3, Tryz.ntmps3
  go_upto_region 2 with (fail)
  rw [← hw2]
  clear hw2
  go_wp2_with fail
  refine HAL.out.mono ?_
  rintro en w3 ⟨rfl, ho3⟩
  obtain ⟨h1, hK, hO⟩ := HK.out
  replace h1 := (ho3.kept _ (blk_lt h1) (fun h => h)).trans h1
  replace hK := hK.only ho3
  replace hO := hO.trans ho3
  have c0 : w3.cell? ⟨w.heap.size, 0, none⟩ = some (.bool neg) := blk_cell h1 0
  have c1 : w3.cell? ⟨w.heap.size, 1, none⟩ = some (.slice A ds.length c) := blk_cell h1 1
  have c2 : w3.cell? ⟨w.heap.size, 2, none⟩ = some (.int .i64 e) := blk_cell h1 2
  clear ho3 HAL HK h1
  have HN := Lib.hid (ones_ok w.heap.size (w.heap.size + 1) neg A c ds e n w3 hO.base.size hK (HT.out _ hO) HC.out.2 (HR.out _ hO) HC.out.1 hv)
  have HOB := Lib.hid (hO.below (Nat.le_refl _) (fun _ h => h.elim))
  have HSZ := Lib.hid hO.base.size
  clear hK hO
  go_wp2_with fail
  refine HN.out.mono ?_
  rintro en w4 ⟨rfl, hb4, es, hes, hed, hK4⟩
  have HAP := Lib.hid (apart_calls w.heap.size (w.heap.size + 1) es w4 (Nat.le_trans HSZ.out hb4.size) hK4 (by omega) hed)
  have HB4 := Lib.hid (HOB.out.trans hb4)
  clear hb4 hK4 hed c0 c1 c2
  go_wp2_with fail
  refine HAP.out.mono ?_
  rintro en w9 ⟨rfl, hb⟩
  have HF := Lib.hid (HB4.out.trans hb)
  clear hb
  go_wp2_with fail
  go_ret
  exact ⟨rfl, HF.out⟩
theorem exactOnes_walk (neg : Bool) (A : Option Addr) (c : Nat) (ds : List Int) (e n : Int) (w : World) (hr : ReadsInt w .i64 A ds.length ds) (hc : ds.length ≤ c) (hA : 0 < ds.length → ∀ ad, A = some ad → ad.block < w.heap.size) (hT : Tab w) :
    Calls Tryz.prog 3 #[.agg #[.bool neg, .slice A ds.length c, .int .i64 e], .int .i64 n] w fun en w' => en = .returned (.bool true) ∧ Below w.heap.size w w' := by
  by_cases hlen : 2100 < ds.length
  · exact exactOnes_long neg A c ds e n w hr hc hA hT hlen
  · cases hv : vB neg ds e with
    | false => exact exactOnes_bad neg A c ds e n w hr hc hA hT (by omega) hv
    | true => exact exactOnes_ok neg A c ds e n w hr hc hA hT (by omega) hv
end Go.Proofs.YtflhdplfkpdejaaGreatFmt
namespace Go.Proofs.YtflhdplfkpdejaaGreatFmt
open Go.RowKit Go.Proofs.YtflhdplfkpdejaaGreatFmtW.PrintWords Go.ChangeShapes Go.ChangeAt
set_option maxRecDepth 100000 in
theorem num_open {H : Type} {enc : TypeId × Value → H} {W : World} {b0 : Nat} {v : Value} {d : DataW H} {p : List MemPlace} (hval : Value.okWide Tryz.prog W .any b0 24 v) (h : DataW.Trod enc Tryz.prog W 0 (fun _ => true) true 24 v d p) :
    ∃ neg A c ds e, v = .agg #[.bool neg, .slice A ds.length c, .int .i64 e] ∧ ReadsInt W .i64 A ds.length ds ∧ ds.length ≤ c ∧ (0 < ds.length → ∀ ad, A = some ad → ad.block < W.heap.size) ∧
      (∀ (W' : World) (sp : Nat → Bool), Below W.heap.size W W' → (∀ q ∈ p, sp q.block = true) → DataW.Trod enc Tryz.prog W' 0 sp true 24 v d p) := by
  obtain ⟨u0, u1, u2, y0, y1, y2, n, rfl, rfl, rfl, t0, t1, t2⟩ := Joins.open_agg3 Tryz.underlying24 (by kernel_rfl) (by kernel_rfl) hval h
  obtain ⟨neg, e0, rfl⟩ := DataW.trod_bool Tryz.underlying4 t0
  obtain ⟨e, e2, rfl, hwf⟩ := DataW.trod_int Tryz.underlying3 t2
  have e0 : u0 = .bool neg := by simpa using e0
  have e2 : u2 = .int .i64 e := by simpa using e2
  subst e0 e2
  rcases open_ints Tryz.underlying22 Tryz.underlying3 (by kernel_rfl) t1 with ⟨e1, rfl⟩ | ⟨a, len, cap, zs, e1, hb, hl, hm, hz, rfl, hcell, hw⟩
  · have e1 : u1 = .slice none 0 0 := by simpa using e1
    subst e1
    refine ⟨neg, none, 0, [], e, rfl, ⟨rfl, by simp, fun h => absurd h (by simp)⟩, Nat.le_refl _, fun h => absurd h (by simp), fun W' sp hB hp => ?_⟩
    exact Joins.shut_agg3 (y0 := (.lit (.bool neg), [])) (y1 := (.nil, [])) (y2 := (.lit (.int .i64 e), [])) Tryz.underlying24 (by kernel_rfl) (by kernel_rfl) ⟨1, by simp [DataW.trod, Tryz.underlying4]⟩ ⟨1, by simp [DataW.trod, Tryz.underlying22]⟩ ⟨1, trod_int_mk 0 Tryz.underlying3 hwf⟩
  · have e1 : u1 = .slice (some a) len cap := by simpa using e1
    subst e1
    rw [if_pos rfl] at hz
    have htl : (zs.take len).length = len := by rw [List.length_take]; omega
    refine ⟨neg, some a, cap, zs.take len, e, by rw [htl], ⟨rfl, ?_, fun h0 => ⟨a, rfl, fun j hj => ?_⟩⟩, by omega, fun h0 ad h => ?_, fun W' sp hB hp => ?_⟩
    · rw [htl]
      have : maxLen = 9223372036854775807 := by decide
      omega
    · have hj : j < len := by omega
      rw [hcell j (by omega)]
      simp [List.getD, hj]
    · cases h
      have := World.block_lt_of_cell? W _ (hcell 0 (by omega))
      have hbl : (a.add 0).block = a.block := by unfold Addr.add; split <;> rfl
      rwa [hbl] at this
    · have hlt : 0 < zs.length → a.block < W.heap.size := fun h0 => by
        have := World.block_lt_of_cell? W _ (hcell 0 h0)
        have hbl : (a.add 0).block = a.block := by unfold Addr.add; split <;> rfl
        rwa [hbl] at this
      have hsp : zs.length = (if sp a.block then cap else len) := by
        by_cases h0 : 0 < zs.length
        · have hpl : sp a.block = true := hp (.cell a.block (a.off + 0)) (by
            have hm : MemPlace.cell a.block (a.off + 0) ∈ MemPlace.row a zs.length := MemPlace.mem_row.2 ⟨0, h0, rfl⟩
            exact List.mem_append_right _ (List.mem_append_left _ hm))
          rw [if_pos hpl]
          exact hz
        · split <;> omega
      exact Joins.shut_agg3 (y0 := (.lit (.bool neg), [])) (y1 := (.slice (lits .i64 (zs.take len)) (lits .i64 (zs.drop len)), MemPlace.row a zs.length)) (y2 := (.lit (.int .i64 e), [])) Tryz.underlying24 (by kernel_rfl) (by kernel_rfl) ⟨1, by simp [DataW.trod, Tryz.underlying4]⟩
        ⟨2, shut_ints 0 Tryz.underlying22 Tryz.underlying3 (by kernel_rfl) hb hl hm hsp (fun i hi => by
          have hbl : (a.add i).block = a.block := by unfold Addr.add; split <;> rfl
          have hk : W'.heap[(a.add i).block]? = W.heap[(a.add i).block]? := by rw [hbl]; exact hB.block _ (hlt (by omega))
          exact (World.cell?_of_block hk).trans (hcell i hi)) hw⟩ ⟨1, trod_int_mk 0 Tryz.underlying3 hwf⟩
end Go.Proofs.YtflhdplfkpdejaaGreatFmt
