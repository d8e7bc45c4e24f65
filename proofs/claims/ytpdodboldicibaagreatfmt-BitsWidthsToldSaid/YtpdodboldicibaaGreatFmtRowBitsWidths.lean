/- For any three ints and every width the law BitsWidths answers true: of a width that is none each call answers zeros. The row's statement and its told and tied card. The call asks fmt nothing and reads none of the listed or open variables. -/
import Derived.Test.YtpdodboldicibaaGreatFmtRows
import Derived.Test.YtpdodboldicibaaGreatFmtCards
import Derived.Test.YtpdodboldicibaaGreatFmtTie
import Derived.WalkKit
import Derived.ProofKit
import Derived.OpenShut
import Derived.Stop.JoinedAt
import Derived.Stop.JoinedTold
import Derived.SevenTiedAt
import Derived.LaidLaws
import Derived.Test.YtpdodboldicibaaGreatFmtPost
import Derived.Test.YtpdodboldicibaaGreatFmtLWidths
import Derived.Test.YtpdodboldicibaaGreatFmtFact0
import Derived.Test.YtpdodboldicibaaGreatFmtFact1
import Derived.Test.YtpdodboldicibaaGreatFmtFact2
import Derived.Test.YtpdodboldicibaaGreatFmtFact3
import Derived.Test.YtpdodboldicibaaGreatFmtFact4
import Derived.Test.YtpdodboldicibaaGreatFmtFact5
import Derived.Test.YtpdodboldicibaaGreatFmtFact6
import Derived.Test.YtpdodboldicibaaGreatFmtFact7
namespace Go.Proofs.YtpdodboldicibaaGreatFmt.bitsWidths
open Go.ChangeShapes Go.WideShapes Go.ChangeAt Go.RowKit
open Go.Extern.Stop Go.Stop Go.Extern

theorem own : ownKnob Tryz.prog.godebug = none := by kernel_rfl

/-! ### a world that holds the listed variables -/
def one : DataW Unit → List Value
  | .lit (.int k z) => [.int k z]
  | _ => []
def two : DataW Unit → List Value
  | .agg xs => xs.flatMap one
  | x => one x
def flat : DataW Unit → List Value
  | .agg xs => xs.flatMap two
  | x => one x
def lay (h : Array Obj) (g : Nat) (d : DataW Unit) : Array Obj := h.modify g fun
  | .cells _ t frozen => .cells (flat d).toArray t frozen
  | o => o
noncomputable def laidHeap (h : Array Obj) : Array Obj :=
  lay (lay (lay (lay (lay (lay (lay (lay (lay (lay h 10 Rows.laid_math_bits_deBruijn32tab) 11 Rows.laid_math_bits_deBruijn64tab) 12 Rows.laid_internal_strconv_uint64pow10) 15 Rows.laid_unicode_utf8_acceptRanges) 8 Rows.laid_math_big_leafSize) 13 Rows.laid_math_big_divRecursiveThreshold) 3 Rows.laid_math_big_karatsubaThreshold) 1 Rows.laid_math_big_basicSqrThreshold) 2 Rows.laid_math_big_karatsubaSqrThreshold) 14 Rows.laid_unicode_utf8_first
noncomputable def laidWorld (os : Os) : World :=
  { World.holding Tryz.prog os ⟨#[], #[], []⟩ with heap := laidHeap (World.holding Tryz.prog os ⟨#[], #[], []⟩).heap }
theorem laid_met (os : Os) : laidMet Tryz.prog Rows.bitsWidthsRow.laid ((laidWorld os).forCall (fun _ _ => 0) ⟨#[], #[.int .i64 0, .int .i64 0, .int .i64 0, .int .i64 0], []⟩).memory :=
  laidMet_of_run' 8 (by kernel_rfl) (by kernel_rfl)
theorem reads (os : Os) {H : Type} (enc : TypeId × Value → H) : ∃ places, DataW.whole enc Tryz.prog ((laidWorld os).forCall (fun _ _ => 0) ⟨#[], #[.int .i64 0, .int .i64 0, .int .i64 0, .int .i64 0], []⟩).memory Tryz.f3.params.toList Rows.bitsWidthsSpec.vars false #[Value.int .i64 0, Value.int .i64 0, Value.int .i64 0, Value.int .i64 0].toList 8 = some ([.lit (.int .i64 0), .lit (.int .i64 0), .lit (.int .i64 0), .lit (.int .i64 0)], [], places) :=
  ⟨[], by kernel_rfl⟩

/-! ### the row's step -/
set_option maxRecDepth 100000 in
theorem lifted (os : Os) (started : os.Started) (H : Type) (enc : TypeId × Value → H) :
    ReturnsInTold none {} Tryz.checked os 3 .any Input.okWide ((OpenSpec.ofChange Rows.bitsWidthsSpec).preRow enc Tryz.prog Tryz.f3 Rows.bitsWidthsRow.domain false Rows.bitsWidthsRow.laid) (fun F => ((OpenSpec.ofChange Rows.bitsWidthsSpec).at F).post enc Tryz.prog Tryz.f3 false true false false) (aloneAtReturn Tryz.prog) nothingAlways := by
  obtain ⟨places, hx⟩ := reads os enc
  refine returnsInTold_of_row (C := Tryz.checked) (s := OpenSpec.ofChange Rows.bitsWidthsSpec) (by kernel_rfl) own started (by kernel_rfl) Tryz.func3
    (OpenSpec.witness_stopped_at (enc := enc) (C := Tryz.checked) false (laidWorld os) #[.int .i64 0, .int .i64 0, .int .i64 0, .int .i64 0] rfl (by kernel_rfl) (by kernel_rfl) (by kernel_rfl)
      (OpenSpec.preRow_of_cond 8 hx (by kernel_rfl) (fun k hk => by cases hk) (by kernel_rfl) (laid_met os))) ?_
  intro F W base args ds gs before _ _ hval0 hW _ _ _ _ _
  have hval : ∀ (j : Nat) t v, Tryz.f3.params[j]? = some t → args[j]? = some v → Value.okWide Tryz.prog W .any base t v := hval0
  have hW' := hW
  obtain ⟨p, q, hA0, hV, rfl, hfz, hnd⟩ := hW
  have hA : DataW.TrodAll enc Tryz.prog W 0 (fun _ => true) true Tryz.f3.params.toList args.toList ds p := hA0
  rw [Tryz.params3] at hA hval
  obtain ⟨v0, vs0, d0, ds0, p0, q0, hargs, rfl, rfl, h0, r0⟩ := trodAll_cons hA
  obtain ⟨v1, vs1, d1, ds1, p1, q1, rfl, rfl, rfl, h1, r1⟩ := trodAll_cons r0
  obtain ⟨v2, vs2, d2, ds2, p2, q2, rfl, rfl, rfl, h2, r2⟩ := trodAll_cons r1
  obtain ⟨v3, vs3, d3, ds3, p3, q3, rfl, rfl, rfl, h3, r3⟩ := trodAll_cons r2
  obtain ⟨rfl, rfl, rfl⟩ := trodAll_nil r3
  obtain rfl : args = #[v0, v1, v2, v3] := by cases args; simp_all
  obtain ⟨rfl, rfl⟩ := trodVars_none hV
  obtain ⟨a0, rfl, rfl, rfl, w0⟩ := open_int Tryz.underlying3 (hval 0 3 v0 rfl rfl) h0
  obtain ⟨a1, rfl, rfl, rfl, w1⟩ := open_int Tryz.underlying3 (hval 1 3 v1 rfl rfl) h1
  obtain ⟨a2, rfl, rfl, rfl, w2⟩ := open_int Tryz.underlying3 (hval 2 3 v2 rfl rfl) h2
  obtain ⟨a3, rfl, rfl, rfl, w3⟩ := open_int Tryz.underlying3 (hval 3 3 v3 rfl rfl) h3
  clear hA0 hval0
  simp only [List.append_nil] at hW'
  refine (bitsWidths_walk a0 a1 a2 a3 W).mono fun e W' ⟨he, hg⟩ => ?_
  subst he
  exact ⟨_, rfl, post_of_below (pa := []) (pv := []) hW' (fun _ _ _ => (trodAll_cons_mk (shut_bool Tryz.underlying4 _) trodAll_mk0)) (fun sp _ => (trodAll_cons_mk (shut_int Tryz.underlying3 w0) (trodAll_cons_mk (shut_int Tryz.underlying3 w1) (trodAll_cons_mk (shut_int Tryz.underlying3 w2) (trodAll_cons_mk (shut_int Tryz.underlying3 w3) trodAll_mk0))))) (fun _ _ => rfl) rfl
    hg (ok_one (by kernel_rfl) rfl (okWide_bool_mk Tryz.underlying4 _))⟩

/-! ### the card -/
theorem stopKnobs : Tryz.pinned.checked.prog.stopKnobs = [] := by kernel_rfl
theorem quiet (os : Os) : Stop.quiet Tryz.pinned.checked.prog os := by
  intro k hk
  rw [stopKnobs] at hk
  cases hk

/-- the statement -/
theorem proved : Rows.BitsWidthsToldSaid :=
  Claim7.holds_of_told_tied_any_at .later 3 Tryz.f3 "fmt.Sprintf" [] [] _ _ _ _ _ hw rfl rfl rfl hl hmr rfl ⟨rfl, rfl, rfl, rfl, rfl, rfl, rfl⟩ rfl rfl htie hfn Tryz.func3 hr
    hinst hwrap hstops rfl hknobs hword
    hin hop hrc hvs hmp hif hmo hlo hwk rfl hvars rfl rfl
    rfl rfl
    rfl hmain hlooks hfun (by decide) hgoes bitsWidths_row_tie
    (OpenClaim.moreEntering_of m2 m4 m5 m6 m7 (by kernel_rfl) m9 m10 m11 m12)
    ⟨_, WideRow.started_initial, quiet _⟩
    (fun os started _ H enc _ => lifted os started H enc) ⟨v1, v2⟩
#print axioms proved
end Go.Proofs.YtpdodboldicibaaGreatFmt.bitsWidths
