/- For any two exact numbers, any width and way, the law ExactMirrors answers true. The row's statement and its told and tied card. The call asks fmt nothing and reads none of the open variables. -/
import Derived.Test.YtbmmaabjeejjkaaGreatFmtRows
import Derived.Test.YtbmmaabjeejjkaaGreatFmtCards
import Derived.Test.YtbmmaabjeejjkaaGreatFmtTie
import Derived.WalkKit
import Derived.ProofKit
import Derived.OpenShut
import Derived.Stop.JoinedAt
import Derived.Stop.JoinedTold
import Derived.SevenTiedAt
import Derived.LaidLaws
import Derived.Test.YtbmmaabjeejjkaaGreatFmtPart01
import Derived.Test.YtbmmaabjeejjkaaGreatFmtPart20
import Derived.Lib.LaidTab
import Derived.Stop.LaidErr
import Derived.Test.YtbmmaabjeejjkaaGreatFmtFact0
import Derived.Test.YtbmmaabjeejjkaaGreatFmtFact1
import Derived.Test.YtbmmaabjeejjkaaGreatFmtFact2
import Derived.Test.YtbmmaabjeejjkaaGreatFmtFact3
import Derived.Test.YtbmmaabjeejjkaaGreatFmtFact4
import Derived.Test.YtbmmaabjeejjkaaGreatFmtFact5
import Derived.Test.YtbmmaabjeejjkaaGreatFmtFact6
import Derived.Test.YtbmmaabjeejjkaaGreatFmtFact7
namespace Go.Proofs.YtbmmaabjeejjkaaGreatFmt.exactMirrors
open Go.ChangeShapes Go.WideShapes Go.ChangeAt Go.RowKit
open Go.Extern.Stop Go.Stop Go.Extern Go.Proofs.YtbmmaabjeejjkaaGreatFmtW.PrintWords
theorem own : ownKnob Tryz.prog.godebug = none := by kernel_rfl
def one : DataW Unit → List Value
  | .lit (.int k z) => [.int k z]
  | _ => []
def two : DataW Unit → List Value
  | .agg xs => xs.flatMap one
  | x => one x
def flat : DataW Unit → List Value
  | .agg xs => xs.flatMap two
  | x => one x
def lay (h : Array Obj) (g : Nat) (d : DataW Unit) : Array Obj := h.modify g fun
  | .cells _ t frozen => .cells (flat d).toArray t frozen
  | o => o
noncomputable def laidHeap (h : Array Obj) : Array Obj :=
  lay (lay (lay (lay (lay (lay (lay (lay (lay (lay h 3 Rows.laid_math_bits_deBruijn32tab) 4 Rows.laid_math_bits_deBruijn64tab) 15 Rows.laid_internal_strconv_uint64pow10) 17 Rows.laid_unicode_utf8_acceptRanges) 13 Rows.laid_math_big_leafSize) 2 Rows.laid_math_big_divRecursiveThreshold) 8 Rows.laid_math_big_karatsubaThreshold) 11 Rows.laid_math_big_basicSqrThreshold) 12 Rows.laid_math_big_karatsubaSqrThreshold) 16 Rows.laid_unicode_utf8_first
noncomputable def laidWorld (os : Os) : World :=
  { World.holding Tryz.prog os ⟨#[], #[], []⟩ with heap := laidHeap (World.holding Tryz.prog os ⟨#[], #[], []⟩).heap }
theorem laid_met (os : Os) : laidMet Tryz.prog Rows.exactMirrorsRow.laid ((laidWorld os).forCall (fun _ _ => 0) ⟨#[], #[.agg #[.bool false, .slice none 0 0, .int .i64 0], .agg #[.bool false, .slice none 0 0, .int .i64 0], .int .i64 0, .int .i64 0], []⟩).memory :=
  laidMet_of_run' 8 (by kernel_rfl) (by kernel_rfl)
theorem reads (os : Os) {H : Type} (enc : TypeId × Value → H) : ∃ places, DataW.whole enc Tryz.prog ((laidWorld os).forCall (fun _ _ => 0) ⟨#[], #[.agg #[.bool false, .slice none 0 0, .int .i64 0], .agg #[.bool false, .slice none 0 0, .int .i64 0], .int .i64 0, .int .i64 0], []⟩).memory Tryz.f3.params.toList Rows.exactMirrorsSpec.vars false #[Value.agg #[.bool false, .slice none 0 0, .int .i64 0], Value.agg #[.bool false, .slice none 0 0, .int .i64 0], Value.int .i64 0, Value.int .i64 0].toList 8 = some ([.agg [.lit (.bool false), .nil, .lit (.int .i64 0)], .agg [.lit (.bool false), .nil, .lit (.int .i64 0)], .lit (.int .i64 0), .lit (.int .i64 0)], [], places) :=
  ⟨[], by kernel_rfl⟩
set_option maxRecDepth 100000 in
theorem lifted (os : Os) (started : os.Started) (H : Type) (enc : TypeId × Value → H) :
    ReturnsInTold none {} Tryz.checked os 3 .any Input.okWide ((OpenSpec.ofChange Rows.exactMirrorsSpec).preRow enc Tryz.prog Tryz.f3 Rows.exactMirrorsRow.domain false Rows.exactMirrorsRow.laid) (fun F => ((OpenSpec.ofChange Rows.exactMirrorsSpec).at F).post enc Tryz.prog Tryz.f3 false true false false) (aloneAtReturn Tryz.prog) nothingAlways := by
  obtain ⟨places, hx⟩ := reads os enc
  refine returnsInTold_of_row (C := Tryz.checked) (s := OpenSpec.ofChange Rows.exactMirrorsSpec) (by kernel_rfl) own started (by kernel_rfl) Tryz.func3
    (OpenSpec.witness_stopped_at (enc := enc) (C := Tryz.checked) false (laidWorld os) #[.agg #[.bool false, .slice none 0 0, .int .i64 0], .agg #[.bool false, .slice none 0 0, .int .i64 0], .int .i64 0, .int .i64 0] rfl (by kernel_rfl) (by kernel_rfl) (by kernel_rfl)
      (OpenSpec.preRow_of_cond 8 hx (by kernel_rfl) (fun k hk => by cases hk) (by kernel_rfl) (laid_met os))) ?_
  intro F W base args ds gs before g1 g2 hval0 hW g3 g4 g5 g6 g7
  have hval : ∀ (j : Nat) t v, Tryz.f3.params[j]? = some t → args[j]? = some v → Value.okWide Tryz.prog W .any base t v := hval0
  have hW' := hW
  obtain ⟨p, q, hA0, hV, rfl, hfz, hnd⟩ := hW
  have hA : DataW.TrodAll enc Tryz.prog W 0 (fun _ => true) true Tryz.f3.params.toList args.toList ds p := hA0
  rw [Tryz.params3] at hA hval
  obtain ⟨v0, vs0, d0, ds0, p0, q0, hargs, rfl, rfl, h0, r0⟩ := trodAll_cons hA
  obtain ⟨v1, vs1, d1, ds1, p1, q1, rfl, rfl, rfl, h1, r1⟩ := trodAll_cons r0
  obtain ⟨v2, vs2, d2, ds2, p2, q2, rfl, rfl, rfl, h2, r2⟩ := trodAll_cons r1
  obtain ⟨v3, vs3, d3, ds3, p3, q3, rfl, rfl, rfl, h3, r3⟩ := trodAll_cons r2
  obtain ⟨rfl, rfl, rfl⟩ := trodAll_nil r3
  obtain rfl : args = #[v0, v1, v2, v3] := by cases args; simp_all
  obtain ⟨rfl, rfl⟩ := trodVars_none hV
  obtain ⟨n2, rfl, rfl, rfl, w2⟩ := open_int Tryz.underlying3 (hval 2 3 v2 rfl rfl) h2
  obtain ⟨n3, rfl, rfl, rfl, w3⟩ := open_int Tryz.underlying3 (hval 3 3 v3 rfl rfl) h3
  obtain ⟨neg, A, c, xs, e, rfl, hr, hc, hA1, hshut⟩ := num_open (hval 0 24 v0 rfl rfl) h0
  obtain ⟨neg', A', c', xs', e', rfl, hr', hc', hA1', hshut'⟩ := num_open (hval 1 24 v1 rfl rfl) h1
  clear hA0 hval0
  simp only [List.append_nil] at hW'
  have hTab : Tab W := by
    have hl : laidMet Tryz.prog Rows.exactMirrorsRow.laid W := g6
    have h2 : laidMet Tryz.prog (("math/bits.deBruijn64tab", Lib.tabData .u8 (Lib.deBruijn64tab.map fun x : Nat => (x : Int))) :: Rows.exactMirrorsRow.laid.drop 2) W := laidMet.tail hl
    have hT := Lib.tabIs_of_head (g := 4) (t := 167) (e := 5) (n := 64) (by kernel_rfl) (by kernel_rfl) (by kernel_rfl) (by kernel_rfl) (by kernel_rfl) (by kernel_rfl) h2
    intro j hj
    have := hT.cell (g := 4) (by kernel_rfl) j hj
    rw [this]
    congr 2
    simp only [List.getD, List.getElem?_map]
    cases Lib.deBruijn64tab[j]? <;> rfl
  refine (mirrors_walk neg neg' A A' c c' xs xs' e e' n2 n3 W hr hc hr' hc' hTab).mono fun en W' ⟨he, ho⟩ => ?_
  have hg : Below W.heap.size W W' := ho.below (Nat.le_refl _) (fun _ h => h.elim)
  subst he
  exact ⟨_, rfl, post_of_below (pv := []) hW' (fun _ _ _ => (trodAll_cons_mk (shut_bool Tryz.underlying4 _) trodAll_mk0)) (fun sp hsp => (trodAll_cons_mk (hshut W' sp hg (fun q hq => hsp q (by simp [hq]))) (trodAll_cons_mk (hshut' W' sp hg (fun q hq => hsp q (by simp [hq]))) (trodAll_cons_mk (shut_int Tryz.underlying3 w2) (trodAll_cons_mk (shut_int Tryz.underlying3 w3) trodAll_mk0))))) (fun _ _ => rfl) (by simp)
    hg (ok_one (by kernel_rfl) rfl (okWide_bool_mk Tryz.underlying4 _))⟩
theorem stopKnobs : Tryz.pinned.checked.prog.stopKnobs = [] := by kernel_rfl
theorem quiet (os : Os) : Stop.quiet Tryz.pinned.checked.prog os := by
  intro k hk
  rw [stopKnobs] at hk
  cases hk
theorem proved : Rows.ExactMirrorsToldSaid :=
  Claim7.holds_of_told_tied_any_at .later 3 Tryz.f3 "fmt.Sprintf" [] [] _ _ _ _ _ hw rfl rfl rfl hl hmr rfl ⟨rfl, rfl, rfl, rfl, rfl, rfl, rfl⟩ rfl rfl htie hfn Tryz.func3 hr
    hinst hwrap hstops rfl hknobs hword
    hin hop hrc hvs hmp hif hmo hlo hwk rfl hvars rfl rfl
    rfl rfl
    rfl hmain hlooks hfun (by decide) hgoes exactMirrors_row_tie
    (OpenClaim.moreEntering_of m2 m4 m5 m6 m7 (by kernel_rfl) m9 m10 m11 m12)
    ⟨_, WideRow.started_initial, quiet _⟩
    (fun os started _ H enc _ => lifted os started H enc) ⟨v1, v2⟩
#print axioms proved
end Go.Proofs.YtbmmaabjeejjkaaGreatFmt.exactMirrors
