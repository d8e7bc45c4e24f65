/-
  No cell of these rows narrows 'for every input' (looked for: loops, veiled, ifaces, maps, wideKeys, modest, calm, conditions, laid).
  DERIVED. THE GIVEN ROWS OF THIS SEAT. 11 by the template 'for every input the law returns true; each argument reads behind the call as it read before'; 0 by the template 'total and deterministic' (their statements: YtjogbiopbobifaaTotals.lean).
  GIVEN WITH THE SEED: the statements are not yours to turn. If you find one false, say at which input.
  Laid BY PROGRAM, IN A SANDBOX (cutbox-rows.mjs): the forced cells as the released guide's own fill.sh prints them over the translation ba0124c8e85ba8b9… (all of the seat's roots in one cut). By AI agents, Wed Nov 11 2026. No macro, syntax, notation, axiom, sorry.
-/
import Derived.Test.YtjogbiopbobifaaChecked
import GoSem.Claim
import GoSem.ClaimJoined
import GoSem.ClaimMapViews
import Derived.JoinedTies
import Derived.KernelRfl
namespace Go.Proofs.Ytjogbiopbobifaa
/- THE CELL 'sum', in the pinned program and in every row, IS THE sha256 OF THE DUMP (.gsa) THAT YtjogbiopbobifaaProg.lean LOADS. Nothing in Lean hashes anything: it is a label: what it is worth is what the hold of that sum in a sandbox is worth. -/
noncomputable def Try.pinned : Pinned := { name := "ytjogbiopbobifaa", sum := "ba0124c8e85ba8b9130bab85aabbbcde90d3713f89fd0f1685f5c993ec15fe7e", checked := Try.checked }
namespace Rows
def none {H : Type} : Left H := { results := [], args := [] }

/-- 'pupillaw1.BitsParts': WHATEVER THE INPUT: true; the input reads as it did. -/
def bitsPartsSpec : ChangeSpec := { name := "bitsParts", fn := fun _ => fun
  | [d1, d2] => { results := [.lit (.bool true)], args := [d1, d2] }
  | _ => none }
def bitsPartsRow : OpenClaim := { program := "ytjogbiopbobifaa", sum := "ba0124c8e85ba8b9130bab85aabbbcde90d3713f89fd0f1685f5c993ec15fe7e", func := "pupil/pupillaw1.BitsParts", spec := "bitsParts", inPlace := ["math.Float64frombits", "math.Float64bits", "math.Float32frombits", "math.Float32bits"], unfollowed := true, recurses := true, apart := false }
def BitsPartsSaid : Prop := bitsPartsRow.holds Try.pinned (OpenSpec.ofChange bitsPartsSpec)

/-- ITS FALSE NEIGHBOUR: 'it returns false'. Refute it at one input. -/
def bitsPartsWrong : ChangeSpec := { name := "bitsParts", fn := fun _ => fun
  | [d1, d2] => { results := [.lit (.bool false)], args := [d1, d2] }
  | _ => none }
def BitsPartsWrongFalsely : Prop := bitsPartsRow.holds Try.pinned (OpenSpec.ofChange bitsPartsWrong)

/-- 'pupillaw1.BitsFloats': WHATEVER THE INPUT: true; the input reads as it did. -/
def bitsFloatsSpec : ChangeSpec := { name := "bitsFloats", fn := fun _ => fun
  | [d] => { results := [.lit (.bool true)], args := [d] }
  | _ => none }
def bitsFloatsRow : OpenClaim := { program := "ytjogbiopbobifaa", sum := "ba0124c8e85ba8b9130bab85aabbbcde90d3713f89fd0f1685f5c993ec15fe7e", func := "pupil/pupillaw1.BitsFloats", spec := "bitsFloats", inPlace := ["math.Float64frombits", "math.Float32frombits", "math.Float64bits", "math.Float32bits"], unfollowed := true, recurses := true, apart := false }
def BitsFloatsSaid : Prop := bitsFloatsRow.holds Try.pinned (OpenSpec.ofChange bitsFloatsSpec)

/-- ITS FALSE NEIGHBOUR: 'it returns false'. Refute it at one input. -/
def bitsFloatsWrong : ChangeSpec := { name := "bitsFloats", fn := fun _ => fun
  | [d] => { results := [.lit (.bool false)], args := [d] }
  | _ => none }
def BitsFloatsWrongFalsely : Prop := bitsFloatsRow.holds Try.pinned (OpenSpec.ofChange bitsFloatsWrong)

/-- 'pupillaw1.BitsTurns': WHATEVER THE INPUT: true; the input reads as it did. -/
def bitsTurnsSpec : ChangeSpec := { name := "bitsTurns", fn := fun _ => fun
  | [d1, d2] => { results := [.lit (.bool true)], args := [d1, d2] }
  | _ => none }
def bitsTurnsRow : OpenClaim := { program := "ytjogbiopbobifaa", sum := "ba0124c8e85ba8b9130bab85aabbbcde90d3713f89fd0f1685f5c993ec15fe7e", func := "pupil/pupillaw1.BitsTurns", spec := "bitsTurns", inPlace := ["math.Float64frombits", "math.Float64bits", "math.Float32frombits", "math.Float32bits"], unfollowed := true, recurses := true, apart := false }
def BitsTurnsSaid : Prop := bitsTurnsRow.holds Try.pinned (OpenSpec.ofChange bitsTurnsSpec)

/-- ITS FALSE NEIGHBOUR: 'it returns false'. Refute it at one input. -/
def bitsTurnsWrong : ChangeSpec := { name := "bitsTurns", fn := fun _ => fun
  | [d1, d2] => { results := [.lit (.bool false)], args := [d1, d2] }
  | _ => none }
def BitsTurnsWrongFalsely : Prop := bitsTurnsRow.holds Try.pinned (OpenSpec.ofChange bitsTurnsWrong)

/-- 'pupillaw1.BitsChain': WHATEVER THE INPUT: true; the input reads as it did. -/
def bitsChainSpec : ChangeSpec := { name := "bitsChain", fn := fun _ => fun
  | [d1, d2, d3, d4] => { results := [.lit (.bool true)], args := [d1, d2, d3, d4] }
  | _ => none }
def bitsChainRow : OpenClaim := { program := "ytjogbiopbobifaa", sum := "ba0124c8e85ba8b9130bab85aabbbcde90d3713f89fd0f1685f5c993ec15fe7e", func := "pupil/pupillaw1.BitsChain", spec := "bitsChain", inPlace := ["math.Float64frombits", "math.Float32frombits", "math.Float64bits", "math.Float32bits"], unfollowed := true, recurses := true, apart := false }
def BitsChainSaid : Prop := bitsChainRow.holds Try.pinned (OpenSpec.ofChange bitsChainSpec)

/-- ITS FALSE NEIGHBOUR: 'it returns false'. Refute it at one input. -/
def bitsChainWrong : ChangeSpec := { name := "bitsChain", fn := fun _ => fun
  | [d1, d2, d3, d4] => { results := [.lit (.bool false)], args := [d1, d2, d3, d4] }
  | _ => none }
def BitsChainWrongFalsely : Prop := bitsChainRow.holds Try.pinned (OpenSpec.ofChange bitsChainWrong)

/-- 'pupillaw1.BitsNext': WHATEVER THE INPUT: true; the input reads as it did. -/
def bitsNextSpec : ChangeSpec := { name := "bitsNext", fn := fun _ => fun
  | [d1, d2, d3] => { results := [.lit (.bool true)], args := [d1, d2, d3] }
  | _ => none }
def bitsNextRow : OpenClaim := { program := "ytjogbiopbobifaa", sum := "ba0124c8e85ba8b9130bab85aabbbcde90d3713f89fd0f1685f5c993ec15fe7e", func := "pupil/pupillaw1.BitsNext", spec := "bitsNext", inPlace := ["math.Float64frombits", "math.Float64bits", "math.Float32frombits", "math.Float32bits"], unfollowed := true, recurses := true, apart := false }
def BitsNextSaid : Prop := bitsNextRow.holds Try.pinned (OpenSpec.ofChange bitsNextSpec)

/-- ITS FALSE NEIGHBOUR: 'it returns false'. Refute it at one input. -/
def bitsNextWrong : ChangeSpec := { name := "bitsNext", fn := fun _ => fun
  | [d1, d2, d3] => { results := [.lit (.bool false)], args := [d1, d2, d3] }
  | _ => none }
def BitsNextWrongFalsely : Prop := bitsNextRow.holds Try.pinned (OpenSpec.ofChange bitsNextWrong)

/-- 'pupillaw1.BitsOrder': WHATEVER THE INPUT: true; the input reads as it did. -/
def bitsOrderSpec : ChangeSpec := { name := "bitsOrder", fn := fun _ => fun
  | [d1, d2, d3] => { results := [.lit (.bool true)], args := [d1, d2, d3] }
  | _ => none }
def bitsOrderRow : OpenClaim := { program := "ytjogbiopbobifaa", sum := "ba0124c8e85ba8b9130bab85aabbbcde90d3713f89fd0f1685f5c993ec15fe7e", func := "pupil/pupillaw1.BitsOrder", spec := "bitsOrder", inPlace := ["math.Float64frombits", "math.Float64bits", "math.Float32frombits", "math.Float32bits"], unfollowed := true, recurses := true, apart := false }
def BitsOrderSaid : Prop := bitsOrderRow.holds Try.pinned (OpenSpec.ofChange bitsOrderSpec)

/-- ITS FALSE NEIGHBOUR: 'it returns false'. Refute it at one input. -/
def bitsOrderWrong : ChangeSpec := { name := "bitsOrder", fn := fun _ => fun
  | [d1, d2, d3] => { results := [.lit (.bool false)], args := [d1, d2, d3] }
  | _ => none }
def BitsOrderWrongFalsely : Prop := bitsOrderRow.holds Try.pinned (OpenSpec.ofChange bitsOrderWrong)

/-- 'pupillaw1.BitsConverts': WHATEVER THE INPUT: true; the input reads as it did. -/
def bitsConvertsSpec : ChangeSpec := { name := "bitsConverts", fn := fun _ => fun
  | [d1, d2, d3, d4] => { results := [.lit (.bool true)], args := [d1, d2, d3, d4] }
  | _ => none }
def bitsConvertsRow : OpenClaim := { program := "ytjogbiopbobifaa", sum := "ba0124c8e85ba8b9130bab85aabbbcde90d3713f89fd0f1685f5c993ec15fe7e", func := "pupil/pupillaw1.BitsConverts", spec := "bitsConverts", inPlace := ["math.Float64frombits", "math.Float64bits", "math.Float32frombits", "math.Float32bits", "math.RoundToEven"], unfollowed := true, recurses := true, apart := false }
def BitsConvertsSaid : Prop := bitsConvertsRow.holds Try.pinned (OpenSpec.ofChange bitsConvertsSpec)

/-- ITS FALSE NEIGHBOUR: 'it returns false'. Refute it at one input. -/
def bitsConvertsWrong : ChangeSpec := { name := "bitsConverts", fn := fun _ => fun
  | [d1, d2, d3, d4] => { results := [.lit (.bool false)], args := [d1, d2, d3, d4] }
  | _ => none }
def BitsConvertsWrongFalsely : Prop := bitsConvertsRow.holds Try.pinned (OpenSpec.ofChange bitsConvertsWrong)

/-- 'pupillaw1.BitsJoin': WHATEVER THE INPUT: true; the input reads as it did. -/
def bitsJoinSpec : ChangeSpec := { name := "bitsJoin", fn := fun _ => fun
  | [d1, d2, d3, d4] => { results := [.lit (.bool true)], args := [d1, d2, d3, d4] }
  | _ => none }
def bitsJoinRow : OpenClaim := { program := "ytjogbiopbobifaa", sum := "ba0124c8e85ba8b9130bab85aabbbcde90d3713f89fd0f1685f5c993ec15fe7e", func := "pupil/pupillaw1.BitsJoin", spec := "bitsJoin", inPlace := ["math.Float64frombits", "math.Float64bits", "math.Float32frombits", "math.Float32bits"], unfollowed := true, recurses := true, apart := false }
def BitsJoinSaid : Prop := bitsJoinRow.holds Try.pinned (OpenSpec.ofChange bitsJoinSpec)

/-- ITS FALSE NEIGHBOUR: 'it returns false'. Refute it at one input. -/
def bitsJoinWrong : ChangeSpec := { name := "bitsJoin", fn := fun _ => fun
  | [d1, d2, d3, d4] => { results := [.lit (.bool false)], args := [d1, d2, d3, d4] }
  | _ => none }
def BitsJoinWrongFalsely : Prop := bitsJoinRow.holds Try.pinned (OpenSpec.ofChange bitsJoinWrong)

/-- 'pupillaw1.BitsNarrow': WHATEVER THE INPUT: true; the input reads as it did. -/
def bitsNarrowSpec : ChangeSpec := { name := "bitsNarrow", fn := fun _ => fun
  | [d1, d2] => { results := [.lit (.bool true)], args := [d1, d2] }
  | _ => none }
def bitsNarrowRow : OpenClaim := { program := "ytjogbiopbobifaa", sum := "ba0124c8e85ba8b9130bab85aabbbcde90d3713f89fd0f1685f5c993ec15fe7e", func := "pupil/pupillaw1.BitsNarrow", spec := "bitsNarrow", inPlace := ["math.Float64frombits", "math.Float32frombits", "math.Float64bits", "math.Float32bits", "math.sqrt"], unfollowed := true, recurses := true, apart := false }
def BitsNarrowSaid : Prop := bitsNarrowRow.holds Try.pinned (OpenSpec.ofChange bitsNarrowSpec)

/-- ITS FALSE NEIGHBOUR: 'it returns false'. Refute it at one input. -/
def bitsNarrowWrong : ChangeSpec := { name := "bitsNarrow", fn := fun _ => fun
  | [d1, d2] => { results := [.lit (.bool false)], args := [d1, d2] }
  | _ => none }
def BitsNarrowWrongFalsely : Prop := bitsNarrowRow.holds Try.pinned (OpenSpec.ofChange bitsNarrowWrong)

/-- 'pupillaw1.BitsOwn': WHATEVER THE INPUT: true; the input reads as it did. -/
def bitsOwnSpec : ChangeSpec := { name := "bitsOwn", fn := fun _ => fun
  | [d1, d2, d3] => { results := [.lit (.bool true)], args := [d1, d2, d3] }
  | _ => none }
def bitsOwnRow : OpenClaim := { program := "ytjogbiopbobifaa", sum := "ba0124c8e85ba8b9130bab85aabbbcde90d3713f89fd0f1685f5c993ec15fe7e", func := "pupil/pupillaw1.BitsOwn", spec := "bitsOwn", inPlace := ["math.Float64frombits", "math.Float32frombits", "math.Float64bits", "math.Float32bits", "math.sqrt"], unfollowed := true, recurses := true, apart := false }
def BitsOwnSaid : Prop := bitsOwnRow.holds Try.pinned (OpenSpec.ofChange bitsOwnSpec)

/-- ITS FALSE NEIGHBOUR: 'it returns false'. Refute it at one input. -/
def bitsOwnWrong : ChangeSpec := { name := "bitsOwn", fn := fun _ => fun
  | [d1, d2, d3] => { results := [.lit (.bool false)], args := [d1, d2, d3] }
  | _ => none }
def BitsOwnWrongFalsely : Prop := bitsOwnRow.holds Try.pinned (OpenSpec.ofChange bitsOwnWrong)

/-- 'pupillaw1.BitsBack': WHATEVER THE INPUT: true; the input reads as it did. -/
def bitsBackSpec : ChangeSpec := { name := "bitsBack", fn := fun _ => fun
  | [d1, d2] => { results := [.lit (.bool true)], args := [d1, d2] }
  | _ => none }
def bitsBackRow : OpenClaim := { program := "ytjogbiopbobifaa", sum := "ba0124c8e85ba8b9130bab85aabbbcde90d3713f89fd0f1685f5c993ec15fe7e", func := "pupil/pupillaw1.BitsBack", spec := "bitsBack", inPlace := ["math.Float64bits", "math.Float64frombits", "math.Float32bits", "math.Float32frombits"], unfollowed := true, recurses := true, apart := false }
def BitsBackSaid : Prop := bitsBackRow.holds Try.pinned (OpenSpec.ofChange bitsBackSpec)

/-- ITS FALSE NEIGHBOUR: 'it returns false'. Refute it at one input. -/
def bitsBackWrong : ChangeSpec := { name := "bitsBack", fn := fun _ => fun
  | [d1, d2] => { results := [.lit (.bool false)], args := [d1, d2] }
  | _ => none }
def BitsBackWrongFalsely : Prop := bitsBackRow.holds Try.pinned (OpenSpec.ofChange bitsBackWrong)

/- THE SECOND FORM. 'bulk': how many values and letters a reading holds, each counted each time it is reached (what is shared counts as often as it is met; a slice's spare places count too). A statement '..UptoSaid' is the law's where the arguments, and the package variables that the reading takes, are together of bulk at most 1048576: NARROWER than '..Said'. Prove '..Said' where nothing that the law and all that it calls make is longer than what came in: it says more and counts as full. Else prove '..UptoSaid'. A law counts once. -/
mutual
def uptoBulk {H : Type} : DataW H → Nat
  | .lit (.string bytes) => bytes.length + 1
  | .lit _ => 1
  | .nil => 1
  | .ptr d => uptoBulk d + 1
  | .slice elems spare => uptoBulkAll elems + uptoBulkAll spare + 1
  | .agg parts => uptoBulkAll parts + 1
  | .iface _ d => uptoBulk d + 1
  | .map entries => uptoBulkEntries entries + 1
  | .held _ => 1
def uptoBulkAll {H : Type} : List (DataW H) → Nat
  | [] => 0
  | d :: r => uptoBulk d + uptoBulkAll r
def uptoBulkEntries {H : Type} : List (Lit × DataW H) → Nat
  | [] => 0
  | x :: r => uptoBulkEntry x + uptoBulkEntries r
def uptoBulkEntry {H : Type} : Lit × DataW H → Nat
  | (.string bytes, d) => bytes.length + uptoBulk d + 1
  | (_, d) => uptoBulk d + 1
 end
def uptoSmall : (H : Type) → List (DataW H) → Bool := fun _ ds => decide (uptoBulkAll ds ≤ 1048576)
def OpenSpec.upto (s : _root_.Go.ChangeSpec) : _root_.Go.OpenSpec := { _root_.Go.OpenSpec.ofChange s with cond := some uptoSmall }

/-- 'pupillaw1.BitsParts', WHERE WHAT IT READS IS OF BULK AT MOST 1048576: true; the input reads as it did. -/
def bitsPartsUptoRow : OpenClaim := { program := "ytjogbiopbobifaa", sum := "ba0124c8e85ba8b9130bab85aabbbcde90d3713f89fd0f1685f5c993ec15fe7e", func := "pupil/pupillaw1.BitsParts", spec := "bitsParts", inPlace := ["math.Float64frombits", "math.Float64bits", "math.Float32frombits", "math.Float32bits"], unfollowed := true, recurses := true, apart := false, narrowed := true }
def BitsPartsUptoSaid : Prop := bitsPartsUptoRow.holds Try.pinned (OpenSpec.upto bitsPartsSpec)

/-- 'pupillaw1.BitsFloats', WHERE WHAT IT READS IS OF BULK AT MOST 1048576: true; the input reads as it did. -/
def bitsFloatsUptoRow : OpenClaim := { program := "ytjogbiopbobifaa", sum := "ba0124c8e85ba8b9130bab85aabbbcde90d3713f89fd0f1685f5c993ec15fe7e", func := "pupil/pupillaw1.BitsFloats", spec := "bitsFloats", inPlace := ["math.Float64frombits", "math.Float32frombits", "math.Float64bits", "math.Float32bits"], unfollowed := true, recurses := true, apart := false, narrowed := true }
def BitsFloatsUptoSaid : Prop := bitsFloatsUptoRow.holds Try.pinned (OpenSpec.upto bitsFloatsSpec)

/-- 'pupillaw1.BitsTurns', WHERE WHAT IT READS IS OF BULK AT MOST 1048576: true; the input reads as it did. -/
def bitsTurnsUptoRow : OpenClaim := { program := "ytjogbiopbobifaa", sum := "ba0124c8e85ba8b9130bab85aabbbcde90d3713f89fd0f1685f5c993ec15fe7e", func := "pupil/pupillaw1.BitsTurns", spec := "bitsTurns", inPlace := ["math.Float64frombits", "math.Float64bits", "math.Float32frombits", "math.Float32bits"], unfollowed := true, recurses := true, apart := false, narrowed := true }
def BitsTurnsUptoSaid : Prop := bitsTurnsUptoRow.holds Try.pinned (OpenSpec.upto bitsTurnsSpec)

/-- 'pupillaw1.BitsChain', WHERE WHAT IT READS IS OF BULK AT MOST 1048576: true; the input reads as it did. -/
def bitsChainUptoRow : OpenClaim := { program := "ytjogbiopbobifaa", sum := "ba0124c8e85ba8b9130bab85aabbbcde90d3713f89fd0f1685f5c993ec15fe7e", func := "pupil/pupillaw1.BitsChain", spec := "bitsChain", inPlace := ["math.Float64frombits", "math.Float32frombits", "math.Float64bits", "math.Float32bits"], unfollowed := true, recurses := true, apart := false, narrowed := true }
def BitsChainUptoSaid : Prop := bitsChainUptoRow.holds Try.pinned (OpenSpec.upto bitsChainSpec)

/-- 'pupillaw1.BitsNext', WHERE WHAT IT READS IS OF BULK AT MOST 1048576: true; the input reads as it did. -/
def bitsNextUptoRow : OpenClaim := { program := "ytjogbiopbobifaa", sum := "ba0124c8e85ba8b9130bab85aabbbcde90d3713f89fd0f1685f5c993ec15fe7e", func := "pupil/pupillaw1.BitsNext", spec := "bitsNext", inPlace := ["math.Float64frombits", "math.Float64bits", "math.Float32frombits", "math.Float32bits"], unfollowed := true, recurses := true, apart := false, narrowed := true }
def BitsNextUptoSaid : Prop := bitsNextUptoRow.holds Try.pinned (OpenSpec.upto bitsNextSpec)

/-- 'pupillaw1.BitsOrder', WHERE WHAT IT READS IS OF BULK AT MOST 1048576: true; the input reads as it did. -/
def bitsOrderUptoRow : OpenClaim := { program := "ytjogbiopbobifaa", sum := "ba0124c8e85ba8b9130bab85aabbbcde90d3713f89fd0f1685f5c993ec15fe7e", func := "pupil/pupillaw1.BitsOrder", spec := "bitsOrder", inPlace := ["math.Float64frombits", "math.Float64bits", "math.Float32frombits", "math.Float32bits"], unfollowed := true, recurses := true, apart := false, narrowed := true }
def BitsOrderUptoSaid : Prop := bitsOrderUptoRow.holds Try.pinned (OpenSpec.upto bitsOrderSpec)

/-- 'pupillaw1.BitsConverts', WHERE WHAT IT READS IS OF BULK AT MOST 1048576: true; the input reads as it did. -/
def bitsConvertsUptoRow : OpenClaim := { program := "ytjogbiopbobifaa", sum := "ba0124c8e85ba8b9130bab85aabbbcde90d3713f89fd0f1685f5c993ec15fe7e", func := "pupil/pupillaw1.BitsConverts", spec := "bitsConverts", inPlace := ["math.Float64frombits", "math.Float64bits", "math.Float32frombits", "math.Float32bits", "math.RoundToEven"], unfollowed := true, recurses := true, apart := false, narrowed := true }
def BitsConvertsUptoSaid : Prop := bitsConvertsUptoRow.holds Try.pinned (OpenSpec.upto bitsConvertsSpec)

/-- 'pupillaw1.BitsJoin', WHERE WHAT IT READS IS OF BULK AT MOST 1048576: true; the input reads as it did. -/
def bitsJoinUptoRow : OpenClaim := { program := "ytjogbiopbobifaa", sum := "ba0124c8e85ba8b9130bab85aabbbcde90d3713f89fd0f1685f5c993ec15fe7e", func := "pupil/pupillaw1.BitsJoin", spec := "bitsJoin", inPlace := ["math.Float64frombits", "math.Float64bits", "math.Float32frombits", "math.Float32bits"], unfollowed := true, recurses := true, apart := false, narrowed := true }
def BitsJoinUptoSaid : Prop := bitsJoinUptoRow.holds Try.pinned (OpenSpec.upto bitsJoinSpec)

/-- 'pupillaw1.BitsNarrow', WHERE WHAT IT READS IS OF BULK AT MOST 1048576: true; the input reads as it did. -/
def bitsNarrowUptoRow : OpenClaim := { program := "ytjogbiopbobifaa", sum := "ba0124c8e85ba8b9130bab85aabbbcde90d3713f89fd0f1685f5c993ec15fe7e", func := "pupil/pupillaw1.BitsNarrow", spec := "bitsNarrow", inPlace := ["math.Float64frombits", "math.Float32frombits", "math.Float64bits", "math.Float32bits", "math.sqrt"], unfollowed := true, recurses := true, apart := false, narrowed := true }
def BitsNarrowUptoSaid : Prop := bitsNarrowUptoRow.holds Try.pinned (OpenSpec.upto bitsNarrowSpec)

/-- 'pupillaw1.BitsOwn', WHERE WHAT IT READS IS OF BULK AT MOST 1048576: true; the input reads as it did. -/
def bitsOwnUptoRow : OpenClaim := { program := "ytjogbiopbobifaa", sum := "ba0124c8e85ba8b9130bab85aabbbcde90d3713f89fd0f1685f5c993ec15fe7e", func := "pupil/pupillaw1.BitsOwn", spec := "bitsOwn", inPlace := ["math.Float64frombits", "math.Float32frombits", "math.Float64bits", "math.Float32bits", "math.sqrt"], unfollowed := true, recurses := true, apart := false, narrowed := true }
def BitsOwnUptoSaid : Prop := bitsOwnUptoRow.holds Try.pinned (OpenSpec.upto bitsOwnSpec)

/-- 'pupillaw1.BitsBack', WHERE WHAT IT READS IS OF BULK AT MOST 1048576: true; the input reads as it did. -/
def bitsBackUptoRow : OpenClaim := { program := "ytjogbiopbobifaa", sum := "ba0124c8e85ba8b9130bab85aabbbcde90d3713f89fd0f1685f5c993ec15fe7e", func := "pupil/pupillaw1.BitsBack", spec := "bitsBack", inPlace := ["math.Float64bits", "math.Float64frombits", "math.Float32bits", "math.Float32frombits"], unfollowed := true, recurses := true, apart := false, narrowed := true }
def BitsBackUptoSaid : Prop := bitsBackUptoRow.holds Try.pinned (OpenSpec.upto bitsBackSpec)

end Rows
end Go.Proofs.Ytjogbiopbobifaa
