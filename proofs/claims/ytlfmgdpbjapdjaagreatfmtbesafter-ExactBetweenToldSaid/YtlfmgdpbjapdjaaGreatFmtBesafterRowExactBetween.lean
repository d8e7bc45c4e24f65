/- For any exact number and any width, the law ExactBetween answers true. The row's statement and its told and tied card. The call asks fmt nothing and reads none of the open variables. -/
import Derived.Test.YtlfmgdpbjapdjaaGreatFmtBesafterRows
import Derived.Test.YtlfmgdpbjapdjaaGreatFmtBesafterCards
import Derived.Test.YtlfmgdpbjapdjaaGreatFmtBesafterTie
import Derived.WalkKit
import Derived.ProofKit
import Derived.OpenShut
import Derived.Stop.JoinedAt
import Derived.Stop.JoinedTold
import Derived.SevenTiedAt
import Derived.LaidLaws
import Derived.Test.YtlfmgdpbjapdjaaGreatFmtBesafterPt01
import Derived.Test.YtlfmgdpbjapdjaaGreatFmtBesafterPt21
import Derived.Test.YtlfmgdpbjapdjaaGreatFmtBesafterPt20
import Derived.Lib.LaidTab
import Derived.Stop.LaidErr
import Derived.Test.YtlfmgdpbjapdjaaGreatFmtBesafterFact0
import Derived.Test.YtlfmgdpbjapdjaaGreatFmtBesafterFact1
import Derived.Test.YtlfmgdpbjapdjaaGreatFmtBesafterFact2
import Derived.Test.YtlfmgdpbjapdjaaGreatFmtBesafterFact3
import Derived.Test.YtlfmgdpbjapdjaaGreatFmtBesafterFact4
import Derived.Test.YtlfmgdpbjapdjaaGreatFmtBesafterFact5
import Derived.Test.YtlfmgdpbjapdjaaGreatFmtBesafterFact6
import Derived.Test.YtlfmgdpbjapdjaaGreatFmtBesafterFact7
namespace Go.Proofs.YtlfmgdpbjapdjaaGreatFmtBesafter.exactBetween
open Go.ChangeShapes Go.WideShapes Go.ChangeAt Go.RowKit
open Go.Extern.Stop Go.Stop Go.Extern Go.Proofs.YtlfmgdpbjapdjaaGreatFmtBesafterW.PrintWords
theorem own : ownKnob Tryz.prog.godebug = none := by kernel_rfl
def one : DataW Unit → List Value
  | .lit (.int k z) => [.int k z]
  | _ => []
def two : DataW Unit → List Value
  | .agg xs => xs.flatMap one
  | x => one x
def flat : DataW Unit → List Value
  | .agg xs => xs.flatMap two
  | x => one x
def lay (h : Array Obj) (g : Nat) (d : DataW Unit) : Array Obj := h.modify g fun
  | .cells _ t frozen => .cells (flat d).toArray t frozen
  | o => o
noncomputable def laidHeap (h : Array Obj) : Array Obj :=
  lay (lay (lay (lay (lay (lay (lay (lay (lay (lay h 4 Rows.laid_math_bits_deBruijn32tab) 5 Rows.laid_math_bits_deBruijn64tab) 15 Rows.laid_internal_strconv_uint64pow10) 17 Rows.laid_unicode_utf8_acceptRanges) 13 Rows.laid_math_big_leafSize) 2 Rows.laid_math_big_divRecursiveThreshold) 8 Rows.laid_math_big_karatsubaThreshold) 11 Rows.laid_math_big_basicSqrThreshold) 12 Rows.laid_math_big_karatsubaSqrThreshold) 16 Rows.laid_unicode_utf8_first
noncomputable def laidWorld (os : Os) : World :=
  { World.holding Tryz.prog os ⟨#[], #[], []⟩ with heap := laidHeap (World.holding Tryz.prog os ⟨#[], #[], []⟩).heap }
theorem laid_met (os : Os) : laidMet Tryz.prog Rows.exactBetweenRow.laid ((laidWorld os).forCall (fun _ _ => 0) ⟨#[], #[.agg #[.bool false, .slice none 0 0, .int .i64 0], .int .i64 0], []⟩).memory :=
  laidMet_of_run' 8 (by kernel_rfl) (by kernel_rfl)
theorem reads (os : Os) {H : Type} (enc : TypeId × Value → H) : ∃ places, DataW.whole enc Tryz.prog ((laidWorld os).forCall (fun _ _ => 0) ⟨#[], #[.agg #[.bool false, .slice none 0 0, .int .i64 0], .int .i64 0], []⟩).memory Tryz.f3.params.toList Rows.exactBetweenSpec.vars false #[Value.agg #[.bool false, .slice none 0 0, .int .i64 0], Value.int .i64 0].toList 8 = some ([.agg [.lit (.bool false), .nil, .lit (.int .i64 0)], .lit (.int .i64 0)], [], places) :=
  ⟨[], by kernel_rfl⟩
set_option maxRecDepth 100000 in
theorem lifted (os : Os) (started : os.Started) (H : Type) (enc : TypeId × Value → H) :
    ReturnsInTold none {} Tryz.checked os 3 .any Input.okWide ((OpenSpec.ofChange Rows.exactBetweenSpec).preRow enc Tryz.prog Tryz.f3 Rows.exactBetweenRow.domain false Rows.exactBetweenRow.laid) (fun F => ((OpenSpec.ofChange Rows.exactBetweenSpec).at F).post enc Tryz.prog Tryz.f3 false true false false) (aloneAtReturn Tryz.prog) nothingAlways := by
  obtain ⟨places, hx⟩ := reads os enc
  refine returnsInTold_of_row (C := Tryz.checked) (s := OpenSpec.ofChange Rows.exactBetweenSpec) (by kernel_rfl) own started (by kernel_rfl) Tryz.func3
    (OpenSpec.witness_stopped_at (enc := enc) (C := Tryz.checked) false (laidWorld os) #[.agg #[.bool false, .slice none 0 0, .int .i64 0], .int .i64 0] rfl (by kernel_rfl) (by kernel_rfl) (by kernel_rfl)
      (OpenSpec.preRow_of_cond 8 hx (by kernel_rfl) (fun k hk => by cases hk) (by kernel_rfl) (laid_met os))) ?_
  intro F W base args ds gs before g1 g2 hval0 hW g3 g4 g5 g6 g7
  have hval : ∀ (j : Nat) t v, Tryz.f3.params[j]? = some t → args[j]? = some v → Value.okWide Tryz.prog W .any base t v := hval0
  have hW' := hW
  obtain ⟨p, q, hA0, hV, rfl, hfz, hnd⟩ := hW
  have hA : DataW.TrodAll enc Tryz.prog W 0 (fun _ => true) true Tryz.f3.params.toList args.toList ds p := hA0
  rw [Tryz.params3] at hA hval
  obtain ⟨v0, vs0, d0, ds0, p0, q0, hargs, rfl, rfl, h0, r0⟩ := trodAll_cons hA
  obtain ⟨v1, vs1, d1, ds1, p1, q1, rfl, rfl, rfl, h1, r1⟩ := trodAll_cons r0
  obtain ⟨rfl, rfl, rfl⟩ := trodAll_nil r1
  obtain rfl : args = #[v0, v1] := by cases args; simp_all
  obtain ⟨rfl, rfl⟩ := trodVars_none hV
  obtain ⟨n1, rfl, rfl, rfl, w1⟩ := open_int Tryz.underlying3 (hval 1 3 v1 rfl rfl) h1
  obtain ⟨neg, A, c, xs, e, rfl, hr, hc, hA1, hshut⟩ := num_open (hval 0 24 v0 rfl rfl) h0
  clear hA0 hval0
  simp only [List.append_nil] at hW'
  have hTab : Tab W := by
    have hl : laidMet Tryz.prog Rows.exactBetweenRow.laid W := g6
    have h2 : laidMet Tryz.prog (("math/bits.deBruijn64tab", Lib.tabData .u8 (Lib.deBruijn64tab.map fun x : Nat => (x : Int))) :: Rows.exactBetweenRow.laid.drop 2) W := laidMet.tail hl
    have hT := Lib.tabIs_of_head (g := 5) (t := 191) (e := 5) (n := 64) (by kernel_rfl) (by kernel_rfl) (by kernel_rfl) (by kernel_rfl) (by kernel_rfl) (by kernel_rfl) h2
    intro j hj
    have := hT.cell (g := 5) (by kernel_rfl) j hj
    rw [this]
    congr 2
    simp only [List.getD, List.getElem?_map]
    cases Lib.deBruijn64tab[j]? <;> rfl
  refine (between_walk neg A c xs e n1 W hr hc hTab).mono fun en W' ⟨he, ho⟩ => ?_
  have hg : Below W.heap.size W W' := ho.below (Nat.le_refl _) (fun _ h => h.elim)
  subst he
  exact ⟨_, rfl, post_of_below (pv := []) hW' (fun _ _ _ => (trodAll_cons_mk (shut_bool Tryz.underlying4 _) trodAll_mk0)) (fun sp hsp => (trodAll_cons_mk (hshut W' sp hg (fun q hq => hsp q (by simp [hq]))) (trodAll_cons_mk (shut_int Tryz.underlying3 w1) trodAll_mk0))) (fun _ _ => rfl) (by simp)
    hg (ok_one (by kernel_rfl) rfl (okWide_bool_mk Tryz.underlying4 _))⟩
theorem stopKnobs : Tryz.pinned.checked.prog.stopKnobs = [] := by kernel_rfl
theorem quiet (os : Os) : Stop.quiet Tryz.pinned.checked.prog os := by
  intro k hk
  rw [stopKnobs] at hk
  cases hk
theorem proved : Rows.ExactBetweenToldSaid :=
  Claim7.holds_of_told_tied_any_at .later 3 Tryz.f3 "fmt.Sprintf" [] [] _ _ _ _ _ hw rfl rfl rfl hl hmr rfl ⟨rfl, rfl, rfl, rfl, rfl, rfl, rfl⟩ rfl rfl htie hfn Tryz.func3 hr
    hinst hwrap hstops rfl hknobs hword
    hin hop hrc hvs hmp hif hmo hlo hwk rfl hvars rfl rfl
    rfl rfl
    rfl hmain hlooks hfun (by decide) hgoes exactBetween_row_tie
    (OpenClaim.moreEntering_of m2 m4 m5 m6 m7 (by kernel_rfl) m9 m10 m11 m12)
    ⟨_, WideRow.started_initial, quiet _⟩
    (fun os started _ H enc _ => lifted os started H enc) ⟨v1, v2⟩
#print axioms proved
end Go.Proofs.YtlfmgdpbjapdjaaGreatFmtBesafter.exactBetween
