/- Part 5 of the walk: WFootNe WAt WEqStruct WRepsOne WInv WInvWords WGuard WNEv WMore FBase FBigNatCmp IntG IntH IntI. -/
import Derived.Test.YtgbpglojbgicjaaGreatFmtPart04
import Derived.Test.YtgbpglojbgicjaaGreatFmtPart01
import Derived.Laws.StructEq
import Derived.Test.YtgbpglojbgicjaaGreatFmtPart03
import Derived.Test.YtgbpglojbgicjaaGreatFmtProg
import Derived.Below
import Derived.Deep.Draws
import Derived.Deep.AppendLies
import Derived.Maps.AppendAt
import Derived.OwnWalk
import Derived.Laws.BytesArg
import Derived.Laws.MakeOwn
import Derived.Laws.OwnMore
import Derived.Deep.OwnRows
import Derived.Tactics
import Derived.Lib.ConvBytes
import Derived.Laws.Slices
import Derived.WalkKit
import Derived.KernelRfl
import Derived.RowKit3
import Derived.Deep.LoopGhost
import Derived.Deep.QuietTactic
import Derived.BigQuiet
import Derived.WideLaws
import Derived.Deep.DeepCutAuto
import Derived.Deep.CutBlock
import Derived.Deep.RegionHeld3
import Derived.Laws.Rows
import Derived.Lib.AppendStr
import Derived.ArgAppend
import Derived.Laws.IdiomCopy
import Derived.OrdersHeld
import Derived.Laws.BitsLemmas
import Derived.RowKit
namespace Go.Proofs.YtgbpglojbgicjaaGreatFmtW.PrintWords
open Go.RowKit
namespace Kd
section
variable {α : Type} {d : Kd α} {W : World} {g n : Nat} {S ok : Nat → Prop} {A : Option Addr} {ad : Addr} {xs : List α}
end
end Kd
end Go.Proofs.YtgbpglojbgicjaaGreatFmtW.PrintWords
namespace Go.Proofs.YtgbpglojbgicjaaGreatFmtW.PrintWords
open Go.RowKit
section
variable {w w' u : World} {m B g : Nat} {o : Obj} {row : Option Nat} {S : Nat → Prop} {a : Addr} {v : Value}
end
namespace Kd
section
variable {α : Type} {d : Kd α} {e base n m : Nat} {ok : Nat → Prop} {w w' : World} {v : Value} {A : Option Addr} {xs : List α}
end
end Kd
end Go.Proofs.YtgbpglojbgicjaaGreatFmtW.PrintWords
namespace Go.Proofs.YtgbpglojbgicjaaGreatFmtW.PrintWords
open Go.RowKit
section
variable {P : Program} {d : Nat} {xs ys : Array Value} {f : Field} {fs : List Field} {a b : Value} {r s : Bool} {w : World}
end
end Go.Proofs.YtgbpglojbgicjaaGreatFmtW.PrintWords
namespace Go.Proofs.YtgbpglojbgicjaaGreatFmtW.PrintWords
theorem Reps.one {α : Type} {R : α → List Value → Prop} {ps : List α} {cs : List Value} {p : α} {v : Value} (hp : R p [v]) (h : Reps R 1 ps cs) : Reps R 1 (p :: ps) (v :: cs) := by
  refine ⟨by simp [h.1], fun j q hq => ?_⟩
  cases j with
  | zero =>
    simp only [List.getElem?_cons_zero, Option.some.injEq] at hq
    subst hq
    simpa using hp
  | succ j =>
    simp only [List.getElem?_cons_succ] at hq
    have h1 := h.2 j q hq
    simpa [Nat.mul_one] using h1
theorem Reps.front {α : Type} {R : α → List Value → Prop} {size : Nat} {ps : List α} {cs c all : List Value} {p : α} (hp : R p c) (hc : c.length = size) (h : Reps R size ps cs) (ha : c ++ cs = all) : Reps R size (p :: ps) all := by
  subst ha
  refine ⟨by rw [List.length_append, hc, h.1, List.length_cons, Nat.succ_mul, Nat.add_comm], fun j q hq => ?_⟩
  cases j with
  | zero =>
    simp only [List.getElem?_cons_zero, Option.some.injEq] at hq
    subst hq
    rw [Nat.zero_mul, List.drop_zero, List.take_append_of_le_length (by omega), List.take_of_length_le (by omega)]
    exact hp
  | succ j =>
    simp only [List.getElem?_cons_succ] at hq
    have h1 := h.2 j q hq
    rw [Nat.succ_mul, List.drop_append, List.drop_of_length_le (by rw [hc]; exact Nat.le_add_left _ _), List.nil_append, hc, Nat.add_sub_cancel]
    exact h1
theorem Reps.c2 {α : Type} {R : α → List Value → Prop} {ps : List α} {cs : List Value} {p : α} {va vb : Value} (hp : R p [va, vb]) (h : Reps R 2 ps cs) : Reps R 2 (p :: ps) (va :: vb :: cs) := Reps.front hp rfl h rfl
theorem Reps.c3 {α : Type} {R : α → List Value → Prop} {ps : List α} {cs : List Value} {p : α} {va vb vc : Value} (hp : R p [va, vb, vc]) (h : Reps R 3 ps cs) : Reps R 3 (p :: ps) (va :: vb :: vc :: cs) := Reps.front hp rfl h rfl
theorem Reps.c4 {α : Type} {R : α → List Value → Prop} {ps : List α} {cs : List Value} {p : α} {va vb vc vd : Value} (hp : R p [va, vb, vc, vd]) (h : Reps R 4 ps cs) : Reps R 4 (p :: ps) (va :: vb :: vc :: vd :: cs) := Reps.front hp rfl h rfl
theorem Reps.c5 {α : Type} {R : α → List Value → Prop} {ps : List α} {cs : List Value} {p : α} {va vb vc vd ve : Value} (hp : R p [va, vb, vc, vd, ve]) (h : Reps R 5 ps cs) : Reps R 5 (p :: ps) (va :: vb :: vc :: vd :: ve :: cs) := Reps.front hp rfl h rfl
theorem Reps.c6 {α : Type} {R : α → List Value → Prop} {ps : List α} {cs : List Value} {p : α} {va vb vc vd ve vf : Value} (hp : R p [va, vb, vc, vd, ve, vf]) (h : Reps R 6 ps cs) : Reps R 6 (p :: ps) (va :: vb :: vc :: vd :: ve :: vf :: cs) := Reps.front hp rfl h rfl
theorem Reps.c7 {α : Type} {R : α → List Value → Prop} {ps : List α} {cs : List Value} {p : α} {va vb vc vd ve vf vg : Value} (hp : R p [va, vb, vc, vd, ve, vf, vg]) (h : Reps R 7 ps cs) : Reps R 7 (p :: ps) (va :: vb :: vc :: vd :: ve :: vf :: vg :: cs) := Reps.front hp rfl h rfl
theorem Reps.c9 {α : Type} {R : α → List Value → Prop} {ps : List α} {cs : List Value} {p : α} {va vb vc vd ve vf vg vh vi : Value} (hp : R p [va, vb, vc, vd, ve, vf, vg, vh, vi]) (h : Reps R 9 ps cs) : Reps R 9 (p :: ps) (va :: vb :: vc :: vd :: ve :: vf :: vg :: vh :: vi :: cs) := Reps.front hp rfl h rfl
theorem Reps.c10 {α : Type} {R : α → List Value → Prop} {ps : List α} {cs : List Value} {p : α} {va vb vc vd ve vf vg vh vi vj : Value} (hp : R p [va, vb, vc, vd, ve, vf, vg, vh, vi, vj]) (h : Reps R 10 ps cs) : Reps R 10 (p :: ps) (va :: vb :: vc :: vd :: ve :: vf :: vg :: vh :: vi :: vj :: cs) := Reps.front hp rfl h rfl
end Go.Proofs.YtgbpglojbgicjaaGreatFmtW.PrintWords
namespace Go.Proofs.YtgbpglojbgicjaaGreatFmtW.PrintLast
section
variable {P : Program} {ops : Array Oper} {Q : Exit → Act → World → Prop} {md : Region.Mode} {T : Bool × List (List Nat × List Nat)} {B : List Nat} {O : List Nat} {b : Nat → Bool} {i j n : Nat}
end
end Go.Proofs.YtgbpglojbgicjaaGreatFmtW.PrintLast
namespace Go.Proofs.YtgbpglojbgicjaaGreatFmtW.PrintWords
open Go.RowKit
end Go.Proofs.YtgbpglojbgicjaaGreatFmtW.PrintWords
namespace Go.Proofs.YtgbpglojbgicjaaGreatFmtW.PrintLast
section
variable {ops : Array Oper} {a : Act} {o og : Oper} {g : Nat} {t : Tmp} {u : Bool}
end
end Go.Proofs.YtgbpglojbgicjaaGreatFmtW.PrintLast
namespace Go.Proofs.YtgbpglojbgicjaaGreatFmtW.PrintWords
open Go.RowKit
section
variable {P : Program} {ops : Array Oper} {rest : List Oper} {o : Oper} {a : Act} {Q : Exit → Act → World → Prop} {W : World}
end
end Go.Proofs.YtgbpglojbgicjaaGreatFmtW.PrintWords
namespace Go.Proofs.YtgbpglojbgicjaaGreatFmtW.PrintWords
open Go.RowKit
namespace Kd
section
variable {α : Type} {d : Kd α} {e base n cap g : Nat} {ok ok' okp : Nat → Prop} {w w1 W : World} {v v1 : Value} {xs ys : List α}
end
section
variable {P : Program} {ops : Array Oper} {rest : List Oper} {o : Oper} {a : Act} {Q : Exit → Act → World → Prop} {Kc : Act → World → Prop} {α : Type}
end
end Kd
end Go.Proofs.YtgbpglojbgicjaaGreatFmtW.PrintWords
namespace Go.Proofs.YtgbpglojbgicjaaGreatFmtW.PrintMore
open Go.RowKit Go.Proofs.YtgbpglojbgicjaaGreatFmtW.PrintWords
namespace Kd
open Go.Proofs.YtgbpglojbgicjaaGreatFmtW.PrintWords.Kd
end Kd
namespace Kd
open Go.Proofs.YtgbpglojbgicjaaGreatFmtW.PrintWords.Kd
section
variable {α : Type} {d : Kd α} {e base g N : Nat} {ok : Nat → Prop} {W w1 : World} {u v : Value} {xs : List α}
end
end Kd
theorem max2_int (k k' : IntKind) (x y : Int) : Builtin.max2 (.int k x) (.int k' y) = pure (.int k (if x < y then y else x)) := by simp only [Builtin.max2, gt_iff_lt]
theorem min2_int (k k' : IntKind) (x y : Int) : Builtin.min2 (.int k x) (.int k' y) = pure (.int k (if y < x then y else x)) := by simp only [Builtin.min2]
theorem max_two (ats : Array TypeId) (ty : TypeId) (a b : Value) : Builtin.max_ ats ty #[a, b] = (Builtin.max2 a b >>= fun s => pure s) := by simp only [Builtin.max_, List.foldlM_cons, List.foldlM_nil]
theorem min_two (ats : Array TypeId) (ty : TypeId) (a b : Value) : Builtin.min_ ats ty #[a, b] = (Builtin.min2 a b >>= fun s => pure s) := by simp only [Builtin.min_, List.foldlM_cons, List.foldlM_nil]
theorem max_three (ats : Array TypeId) (ty : TypeId) (a b c : Value) : Builtin.max_ ats ty #[a, b, c] = (Builtin.max2 a b >>= fun s => Builtin.max2 s c >>= fun s => pure s) := by simp only [Builtin.max_, List.foldlM_cons, List.foldlM_nil]
theorem min_three (ats : Array TypeId) (ty : TypeId) (a b c : Value) : Builtin.min_ ats ty #[a, b, c] = (Builtin.min2 a b >>= fun s => Builtin.min2 s c >>= fun s => pure s) := by simp only [Builtin.min_, List.foldlM_cons, List.foldlM_nil]
theorem max_four (ats : Array TypeId) (ty : TypeId) (a b c d : Value) : Builtin.max_ ats ty #[a, b, c, d] = (Builtin.max2 a b >>= fun s => Builtin.max2 s c >>= fun s => Builtin.max2 s d >>= fun s => pure s) := by simp only [Builtin.max_, List.foldlM_cons, List.foldlM_nil]
theorem min_four (ats : Array TypeId) (ty : TypeId) (a b c d : Value) : Builtin.min_ ats ty #[a, b, c, d] = (Builtin.min2 a b >>= fun s => Builtin.min2 s c >>= fun s => Builtin.min2 s d >>= fun s => pure s) := by simp only [Builtin.min_, List.foldlM_cons, List.foldlM_nil]
end Go.Proofs.YtgbpglojbgicjaaGreatFmtW.PrintMore
namespace Go.Proofs.YtgbpglojbgicjaaGreatFmtW.PrintWords
open Go.RowKit
section
variable {P : Program} {ops : Array Oper} {rest : List Oper} {o : Oper} {a : Act} {Q : Exit → Act → World → Prop} {W : World}
theorem gate_callee {f : FuncId} {ags : Array Operand} {ts : Array TypeId} (_ho : o.op = .call { callee := .value (.func f), args := ags, argTypes := ts }) (h : wpList P ops Q (o :: rest) a W) : wpList P ops Q (o :: rest) a W := h
end
def shl (k : IntKind) (x y : Int) : Int := k.wrap (x * 2 ^ min y.toNat k.bits)
def shr (k : IntKind) (x y : Int) : Int := x / 2 ^ min y.toNat k.bits
theorem shl_small {k : IntKind} {x y j : Int} (h : shl k x y = j) (hy : y ≤ k.bits) : k.wrap (x * 2 ^ y.toNat) = j := by rw [← h]; unfold shl; rw [Nat.min_eq_left (by omega)]
theorem shr_small {k : IntKind} {x y j : Int} (h : shr k x y = j) (hy : y ≤ k.bits) : x / 2 ^ y.toNat = j := by rw [← h]; unfold shr; rw [Nat.min_eq_left (by omega)]
namespace Kd
section
variable {α : Type} {d : Kd α} {e base : Nat} {ok : Nat → Prop} {W w1 : World} {v : Value} {xs : List α}
end
section
variable {α : Type} {d : Kd α} {e base g n cap : Nat} {ok oki okp : Nat → Prop} {W : World} {xs : List α} {i : Int} {c : List Value}
end
section
variable {α : Type} {d : Kd α} {e base b b' g N : Nat} {ok ok1 : Nat → Prop} {W W2 w1 : World} {u v : Value} {xs ys : List α} {S : Nat → Prop}
end
end Kd
end Go.Proofs.YtgbpglojbgicjaaGreatFmtW.PrintWords
namespace Go.Proofs.YtgbpglojbgicjaaGreatFmtW.PrintWords
open Go.RowKit
namespace Kd
def V {α : Type} (d : Kd α) (_e : Nat) (W : World) (_base : Nat) (ok : Nat → Prop) (v : Value) (xs : List α) : Prop := ∃ A c, v = .slice A xs.length c ∧ xs.length ≤ c ∧ F d W ok A xs.length xs
section
variable {α β : Type} {d : Kd α} {e base base' n m c g N' lo hi : Nat} {ok ok' S : Nat → Prop} {w W w1 : World} {A : Option Addr} {ad : Addr} {u v v1 : Value} {xs : List α}
end
end Kd
end Go.Proofs.YtgbpglojbgicjaaGreatFmtW.PrintWords
namespace Go.Proofs.YtgbpglojbgicjaaGreatFmt.F
open Go.RowKit Go.Proofs.YtgbpglojbgicjaaGreatFmtW.PrintWords Go.Proofs.YtgbpglojbgicjaaGreatFmtW.PrintLast Go.Proofs.YtgbpglojbgicjaaGreatFmtW.PrintMore
attribute [local go_sem] max2_int min2_int max_two min_two max_three min_three max_four min_four   -- for this text's walks alone
set_option linter.unusedVariables false
set_option linter.unusedSimpArgs false
def errW : Option Int → Value
  | none => .nilIface
  | some c => .iface 0 (.int .i64 c)
theorem errW_none : errW none = .nilIface := rfl
theorem errW_some (c : Int) : errW (some c) = .iface 0 (.int .i64 c) := rfl
end Go.Proofs.YtgbpglojbgicjaaGreatFmt.F
namespace Go.Proofs.YtgbpglojbgicjaaGreatFmt.F
open Go.RowKit Go.Proofs.YtgbpglojbgicjaaGreatFmtW.PrintWords Go.Proofs.YtgbpglojbgicjaaGreatFmtW.PrintLast Go.Proofs.YtgbpglojbgicjaaGreatFmtW.PrintMore
attribute [local go_sem] max2_int min2_int max_two min_two max_three min_three max_four min_four   -- for this text's walks alone
set_option linter.unusedVariables false
set_option linter.unusedSimpArgs false
mutual
def big_nat_cmp.j0 : Nat → List Int → List Int → Int → Int → Int → Bool → Option (Int)
  | 0, _, _, _, _, _, _ => none
  | k + 1, x0, x1, x4, x5, x6, x18 => if x18 = true then (if x5 < x6 then (some (-1)) else (if x5 > x6 then (some 1) else (some x4))) else (big_nat_cmp.l0 k x0 x1 x4 (wrap64 (x5 - 1)))
def big_nat_cmp.j2 : Nat → List Int → List Int → Int → Int → Option (Int)
  | 0, _, _, _, _ => none
  | k + 1, x0, x1, x4, x7 => if 0 ≤ x7 then (if x7 < (x0.length : Int) then (if x7 < (x1.length : Int) then (if (rd x0 x7) < (rd x1 x7) then (some (-1)) else (if (rd x0 x7) > (rd x1 x7) then (some 1) else (some x4))) else (none)) else (none)) else (none)
def big_nat_cmp.l0 : Nat → List Int → List Int → Int → Int → Option (Int)
  | 0, _, _, _, _ => none
  | k + 1, x0, x1, x4, x7 => if x7 > 0 then (if 0 ≤ x7 then (if x7 < (x0.length : Int) then (if x7 < (x1.length : Int) then (if (rd x0 x7) = (rd x1 x7) then (big_nat_cmp.l0 k x0 x1 x4 (wrap64 (x7 - 1))) else (big_nat_cmp.j2 k x0 x1 x4 x7)) else (none)) else (none)) else (none)) else (big_nat_cmp.j2 k x0 x1 x4 x7)
end
def big_nat_cmp.f (k : Nat) (l0 : List Int) (l1 : List Int) : Option (Int) := if (l0.length : Int) = (l1.length : Int) then (big_nat_cmp.j0 k l0 l1 0 (l0.length : Int) (l1.length : Int) ((l0.length : Int) == 0)) else (big_nat_cmp.j0 k l0 l1 0 (l0.length : Int) (l1.length : Int) true)
theorem big_nat_cmp.mono_l : ∀ k, (∀ y0 y1 y2 y3 y4 y5, LeO (big_nat_cmp.j0 k y0 y1 y2 y3 y4 y5) (big_nat_cmp.j0 (k + 1) y0 y1 y2 y3 y4 y5)) ∧ (∀ y0 y1 y2 y3, LeO (big_nat_cmp.j2 k y0 y1 y2 y3) (big_nat_cmp.j2 (k + 1) y0 y1 y2 y3)) ∧ (∀ y0 y1 y2 y3, LeO (big_nat_cmp.l0 k y0 y1 y2 y3) (big_nat_cmp.l0 (k + 1) y0 y1 y2 y3))
  | 0 => ⟨fun _ _ _ _ _ _ r h => by simp [big_nat_cmp.j0] at h, fun _ _ _ _ r h => by simp [big_nat_cmp.j2] at h, fun _ _ _ _ r h => by simp [big_nat_cmp.l0] at h⟩
  | k + 1 => by
    obtain ⟨ih0, ih1, ih2⟩ := big_nat_cmp.mono_l k
    refine ⟨?_, ?_, ?_⟩
    · intro y0 y1 y2 y3 y4 y5
      unfold big_nat_cmp.j0
      repeat' first
      | (with_reducible exact ih0 _ _ _ _ _ _)
      | (with_reducible exact ih1 _ _ _ _)
      | (with_reducible exact ih2 _ _ _ _)
      | (with_reducible exact LeO.refl _)
      | (with_reducible exact LeO.none _)
      | (with_reducible refine LeO.ite ?_ ?_)
      | (with_reducible refine LeO.bind ?_ (fun _ => ?_))
      | exact ih0 _ _ _ _ _ _
      | exact ih1 _ _ _ _
      | exact ih2 _ _ _ _
      | exact LeO.none _
      | refine LeO.ite ?_ ?_
      | refine LeO.bind ?_ (fun _ => ?_)
    · intro y0 y1 y2 y3
      unfold big_nat_cmp.j2
      repeat' first
      | (with_reducible exact ih0 _ _ _ _ _ _)
      | (with_reducible exact ih1 _ _ _ _)
      | (with_reducible exact ih2 _ _ _ _)
      | (with_reducible exact LeO.refl _)
      | (with_reducible exact LeO.none _)
      | (with_reducible refine LeO.ite ?_ ?_)
      | (with_reducible refine LeO.bind ?_ (fun _ => ?_))
      | exact ih0 _ _ _ _ _ _
      | exact ih1 _ _ _ _
      | exact ih2 _ _ _ _
      | exact LeO.none _
      | refine LeO.ite ?_ ?_
      | refine LeO.bind ?_ (fun _ => ?_)
    · intro y0 y1 y2 y3
      unfold big_nat_cmp.l0
      repeat' first
      | (with_reducible exact ih0 _ _ _ _ _ _)
      | (with_reducible exact ih1 _ _ _ _)
      | (with_reducible exact ih2 _ _ _ _)
      | (with_reducible exact LeO.refl _)
      | (with_reducible exact LeO.none _)
      | (with_reducible refine LeO.ite ?_ ?_)
      | (with_reducible refine LeO.bind ?_ (fun _ => ?_))
      | exact ih0 _ _ _ _ _ _
      | exact ih1 _ _ _ _
      | exact ih2 _ _ _ _
      | exact LeO.none _
      | refine LeO.ite ?_ ?_
      | refine LeO.bind ?_ (fun _ => ?_)
theorem big_nat_cmp.mono : ∀ a0 a1 k, LeO (big_nat_cmp.f k a0 a1) (big_nat_cmp.f (k + 1) a0 a1) := by
  intro a0 a1 k
  obtain ⟨ih0, ih1, ih2⟩ := big_nat_cmp.mono_l k
  unfold big_nat_cmp.f
  repeat' first
      | (with_reducible exact ih0 _ _ _ _ _ _)
      | (with_reducible exact ih1 _ _ _ _)
      | (with_reducible exact ih2 _ _ _ _)
      | (with_reducible exact LeO.refl _)
      | (with_reducible exact LeO.none _)
      | (with_reducible refine LeO.ite ?_ ?_)
      | (with_reducible refine LeO.bind ?_ (fun _ => ?_))
      | exact ih0 _ _ _ _ _ _
      | exact ih1 _ _ _ _
      | exact ih2 _ _ _ _
      | exact LeO.none _
      | refine LeO.ite ?_ ?_
      | refine LeO.bind ?_ (fun _ => ?_)
set_option maxHeartbeats 8000000 in
set_option maxRecDepth 100000 in
theorem big_nat_cmp.calls (k : Nat) (A0 : Option Addr) (c0 : Nat) (l0 : List Int) (A1 : Option Addr) (c1 : Nat) (l1 : List Int) (r : Int) (w : World) (hr0 : Kd.C (Kd.int .u64) w A0 l0.length l0) (hc0 : l0.length ≤ c0) (hr1 : Kd.C (Kd.int .u64) w A1 l1.length l1) (hc1 : l1.length ≤ c1) (h : big_nat_cmp.f k l0 l1 = some r) :
    Calls Tryz.prog 95 #[.slice A0 l0.length c0, .slice A1 l1.length c1] w fun e w' => e = .returned (.int .i64 r) ∧ Drawn0 w w' := by
  have HR0 := Aside0.mk hr0
  have HC0 := Aside0.mk hc0
  clear hr0 hc0
  have HR1 := Aside0.mk hr1
  have HC1 := Aside0.mk hc1
  clear hr1 hc1
  have H : (if (l0.length : Int) = (l1.length : Int) then (big_nat_cmp.j0 k l0 l1 0 (l0.length : Int) (l1.length : Int) ((l0.length : Int) == 0)) else (big_nat_cmp.j0 k l0 l1 0 (l0.length : Int) (l1.length : Int) true)) = some r := h
  clear h
  have HC3 := Aside0.mk H
  clear H
  go_enter Tryz.func95, Tryz.ntmps95
  go_upto_region 3 with (fail)
  repeat (go_quiet (fail); go_upto_region 3 with (fail))
  go_cut [18] (fun v18 wc => ∃ (kq : Nat) (x18_2 : Bool), v18 = .bool x18_2 ∧ Aside0 (big_nat_cmp.j0 kq l0 l1 0 (l0.length : Int) (l1.length : Int) x18_2 = some r) ∧ Aside0 (kq ≤ k) ∧ Drawn0 w wc)
  case first =>
    have H := HC3.out
    clear HC3
    by_cases c4 : (l0.length : Int) = (l1.length : Int)
    · rw [if_pos c4] at H
      have c4b0 : ((l0.length : Int) == (l1.length : Int)) = true := beq_iff_eq.mpr c4
      have c4b1 : ((l0.length : Int) != (l1.length : Int)) = false := bne_eq_false_iff_eq.mpr c4
      have c4b2 : (l0.length == l1.length) = true := by first | simpa using c4 | (simp at c4 ⊢; omega)
      clear c4
      (first | rw [c4b0] | (simp only [i64_w, i32_w]; rw [c4b0]) | skip)
      have H' := Aside0.mk H
      clear H
      go_wp2
      repeat (go_quiet (fail); try go_wp2)
      go_meet
      case rel => exact ⟨_, (((l0.length : Int) == 0)), (by first | rfl | (simp; done) | (simp [*]; done)), H', ⟨by first | omega | exact Nat.le_refl _⟩, by repeat (first | exact Drawn0.refl _ | apply Drawn0.step)⟩
    · rw [if_neg c4] at H
      have c4b0 : ((l0.length : Int) == (l1.length : Int)) = false := beq_eq_false_iff_ne.mpr c4
      have c4b1 : ((l0.length : Int) != (l1.length : Int)) = true := bne_iff_ne.mpr c4
      have c4b2 : (l0.length == l1.length) = false := by first | simpa using c4 | (simp at c4 ⊢; omega)
      (first | rw [c4b0] | (simp only [i64_w, i32_w]; rw [c4b0]) | skip)
      have H' := Aside0.mk H
      clear H
      go_wp2
      repeat (go_quiet (fail); try go_wp2)
      go_meet
      case rel => exact ⟨_, (true), (by first | rfl | (simp; done) | (simp [*]; done)), H', ⟨by first | omega | exact Nat.le_refl _⟩, by repeat (first | exact Drawn0.refl _ | apply Drawn0.step)⟩
  case rest =>
    clear HC3
    try clear c1
    try clear p2
    try clear c4
    try clear c4b0
    try clear c4b1
    try clear c4b2
    obtain ⟨kq, x18_2, rfl, HA, HJ2, ⟨mc2, rfl⟩⟩ := hcut
    cases kq with
    | zero => exact absurd HA.out (by simp [big_nat_cmp.j0])
    | succ kj2 =>
      have H := HA.out
      clear HA
      simp only [big_nat_cmp.j0] at H
      by_cases c5 : x18_2 = true
      · subst c5
        have H1 : (if (l0.length : Int) < (l1.length : Int) then (some (-1)) else (if (l0.length : Int) > (l1.length : Int) then (some 1) else (some 0))) = some r := by rw [if_pos rfl] at H; exact H
        clear H
        have H := H1
        clear H1
        by_cases c6 : (l0.length : Int) < (l1.length : Int)
        · rw [if_pos c6] at H
          have c6b0 : decide ((l0.length : Int) < (l1.length : Int)) = true := decide_eq_true c6
          have c6b1 : decide (l0.length < l1.length) = true := decide_eq_true (Int.ofNat_lt.mp c6)
          clear c6
          obtain rfl := Option.some.inj H
          go_wp2
          repeat (go_quiet (fail); try go_wp2)
          go_ret
          exact ⟨by first | rfl | (simp; done) | (simp [*]; done), by repeat (first | exact Drawn0.refl _ | apply Drawn0.step)⟩
        · rw [if_neg c6] at H
          have c6b0 : decide ((l0.length : Int) < (l1.length : Int)) = false := decide_eq_false c6
          have c6b1 : decide (l0.length < l1.length) = false := decide_eq_false (fun h => c6 (Int.ofNat_lt.mpr h))
          clear c6
          by_cases c7 : (l0.length : Int) > (l1.length : Int)
          · rw [if_pos c7] at H
            have c7b0 : decide ((l1.length : Int) < (l0.length : Int)) = true := decide_eq_true c7
            have c7b1 : decide (l1.length < l0.length) = true := decide_eq_true (Int.ofNat_lt.mp c7)
            clear c7
            obtain rfl := Option.some.inj H
            go_wp2
            repeat (go_quiet (fail); try go_wp2)
            go_ret
            exact ⟨by first | rfl | (simp; done) | (simp [*]; done), by repeat (first | exact Drawn0.refl _ | apply Drawn0.step)⟩
          · rw [if_neg c7] at H
            have c7b0 : decide ((l1.length : Int) < (l0.length : Int)) = false := decide_eq_false c7
            have c7b1 : decide (l1.length < l0.length) = false := decide_eq_false (fun h => c7 (Int.ofNat_lt.mpr h))
            clear c7
            obtain rfl := Option.some.inj H
            go_wp2
            repeat (go_quiet (fail); try go_wp2)
            go_ret
            exact ⟨by first | rfl | (simp; done) | (simp [*]; done), by repeat (first | exact Drawn0.refl _ | apply Drawn0.step)⟩
      · replace c5 := Bool.eq_false_iff.mpr c5
        subst c5
        have H1 : (big_nat_cmp.l0 kj2 l0 l1 0 (wrap64 ((l0.length : Int) - 1))) = some r := by rw [if_neg (show ¬ (false = true) by decide)] at H; exact H
        clear H
        have H := H1
        clear H1
        have HC8 := Aside0.mk H
        clear H
        go_upto_block 1 with (fail)
        repeat (go_quiet (fail); go_upto_block 1 with (fail))
        go_cut [7] (fun v7 wc => ∃ (kq : Nat) (x7_7 : Int), v7 = .int .i64 x7_7 ∧ Aside0 (big_nat_cmp.j2 kq l0 l1 0 x7_7 = some r) ∧ Aside0 (kq ≤ kj2) ∧ Drawn0 w wc)
        case first =>
          have H := HC8.out
          clear HC8
          have H' := Aside0.mk H
          clear H
          go_wp2
          repeat (go_quiet (fail); try go_wp2)
          go_loopg [7] kj2 (fun kq v7 w' => ∃ (x7_2 : Int), v7 = .int .i64 x7_2 ∧ Aside0 (big_nat_cmp.l0 kq l0 l1 0 x7_2 = some r) ∧ Aside0 (kq ≤ kj2) ∧ Drawn0 w w')
          case atStart => exact ⟨(wrap64 ((l0.length : Int) - 1)), (by first | rfl | (simp; done) | (simp [*]; done)), H', ⟨Nat.le_refl _⟩, by repeat (first | exact Drawn0.refl _ | apply Drawn0.step)⟩
          case round =>
            clear H'
            try clear c1
            try clear c2
            try clear p2
            try clear c4
            try clear c4b0
            try clear c4b1
            try clear c4b2
            try clear c5
            try clear c6
            try clear c6b0
            try clear c6b1
            try clear p6
            try clear c7
            try clear c7b0
            try clear c7b1
            try clear p2
            obtain ⟨x7_2, rfl, HA, HK2, ⟨m2, rfl⟩⟩ := hrel
            cases gk with
            | zero => exact absurd HA.out (by simp [big_nat_cmp.l0])
            | succ k2 =>
              have H := HA.out
              clear HA
              simp only [big_nat_cmp.l0] at H
              by_cases c9 : x7_2 > 0
              · rw [if_pos c9] at H
                have c9b0 : decide (0 < x7_2) = true := decide_eq_true c9
                clear c9
                (first | rw [c9b0] | (simp only [i64_w, i32_w]; rw [c9b0]) | skip)
                by_cases c10 : 0 ≤ x7_2
                · rw [if_pos c10] at H
                  have c10b0 : decide (0 ≤ x7_2) = true := decide_eq_true c10
                  clear c10
                  by_cases c11 : x7_2 < (l0.length : Int)
                  · rw [if_pos c11] at H
                    have c11b0 : decide (x7_2 < (l0.length : Int)) = true := decide_eq_true c11
                    clear c11
                    by_cases c12 : x7_2 < (l1.length : Int)
                    · rw [if_pos c12] at H
                      have c12b0 : decide (x7_2 < (l1.length : Int)) = true := decide_eq_true c12
                      clear c12
                      by_cases c13 : (rd l0 x7_2) = (rd l1 x7_2)
                      · rw [if_pos c13] at H
                        have c13b0 : ((rd l0 x7_2) == (rd l1 x7_2)) = true := beq_iff_eq.mpr c13
                        have c13b1 : ((rd l0 x7_2) != (rd l1 x7_2)) = false := bne_eq_false_iff_eq.mpr c13
                        clear c13
                        have H' := Aside0.mk H
                        clear H
                        have p157 : 0 ≤ (x7_2 : Int) := of_decide_eq_true (by first | (with_reducible assumption) | assumption)
                        have q157 : x7_2 < (l0.length : Int) := of_decide_eq_true (by first | (with_reducible assumption) | assumption)
                        obtain ⟨ad157, e157, hx157_0⟩ := Kd.at_int HR0.out x7_2 p157 q157
                        cases e157
                        replace p157 := eq_true p157
                        replace q157 := eq_true q157
                        have p158 : 0 ≤ (x7_2 : Int) := of_decide_eq_true (by first | (with_reducible assumption) | assumption)
                        have q158 : x7_2 < (l1.length : Int) := of_decide_eq_true (by first | (with_reducible assumption) | assumption)
                        obtain ⟨ad158, e158, hx158_0⟩ := Kd.at_int HR1.out x7_2 p158 q158
                        cases e158
                        replace p158 := eq_true p158
                        replace q158 := eq_true q158
                        go_wp2
                        repeat (go_quiet (fail); try go_wp2)
                        go_roundg k2
                        case measure => have := HJ2.out; have := HK2.out; omega
                        case rel => exact ⟨(wrap64 (x7_2 - 1)), (by first | rfl | (simp; done) | (simp [*]; done)), H', ⟨by have := HJ2.out; have := HK2.out; omega⟩, by repeat (first | exact Drawn0.refl _ | apply Drawn0.step)⟩
                      · rw [if_neg c13] at H
                        have c13b0 : ((rd l0 x7_2) == (rd l1 x7_2)) = false := beq_eq_false_iff_ne.mpr c13
                        have c13b1 : ((rd l0 x7_2) != (rd l1 x7_2)) = true := bne_iff_ne.mpr c13
                        have H' := Aside0.mk H
                        clear H
                        have p157 : 0 ≤ (x7_2 : Int) := of_decide_eq_true (by first | (with_reducible assumption) | assumption)
                        have q157 : x7_2 < (l0.length : Int) := of_decide_eq_true (by first | (with_reducible assumption) | assumption)
                        obtain ⟨ad157, e157, hx157_0⟩ := Kd.at_int HR0.out x7_2 p157 q157
                        cases e157
                        replace p157 := eq_true p157
                        replace q157 := eq_true q157
                        have p158 : 0 ≤ (x7_2 : Int) := of_decide_eq_true (by first | (with_reducible assumption) | assumption)
                        have q158 : x7_2 < (l1.length : Int) := of_decide_eq_true (by first | (with_reducible assumption) | assumption)
                        obtain ⟨ad158, e158, hx158_0⟩ := Kd.at_int HR1.out x7_2 p158 q158
                        cases e158
                        replace p158 := eq_true p158
                        replace q158 := eq_true q158
                        go_wp2
                        repeat (go_quiet (fail); try go_wp2)
                        go_meet
                        case rel => exact ⟨_, (x7_2), (by first | rfl | (simp; done) | (simp [*]; done)), H', ⟨by have := HJ2.out; have := HK2.out; first | omega | exact Nat.le_refl _⟩, by repeat (first | exact Drawn0.refl _ | apply Drawn0.step)⟩
                    · rw [if_neg c12] at H
                      exact absurd H (by simp)
                  · rw [if_neg c11] at H
                    exact absurd H (by simp)
                · rw [if_neg c10] at H
                  exact absurd H (by simp)
              · rw [if_neg c9] at H
                have c9b0 : decide (0 < x7_2) = false := decide_eq_false c9
                clear c9
                (first | rw [c9b0] | (simp only [i64_w, i32_w]; rw [c9b0]) | skip)
                have H' := Aside0.mk H
                clear H
                go_wp2
                repeat (go_quiet (fail); try go_wp2)
                go_meet
                case rel => exact ⟨_, (x7_2), (by first | rfl | (simp; done) | (simp [*]; done)), H', ⟨by have := HJ2.out; have := HK2.out; first | omega | exact Nat.le_refl _⟩, by repeat (first | exact Drawn0.refl _ | apply Drawn0.step)⟩
        case rest =>
          clear HC8
          try clear c1
          try clear p1
          try clear q1
          try clear hx1
          try clear c2
          try clear p2
          try clear c4
          try clear c4b0
          try clear c4b1
          try clear c4b2
          try clear c5
          try clear c6
          try clear c6b0
          try clear c6b1
          try clear p6
          try clear c7
          try clear c7b0
          try clear c7b1
          try clear c9
          try clear c9b0
          try clear c10
          try clear c10b0
          try clear c11
          try clear c11b0
          try clear c12
          try clear c12b0
          try clear c13
          try clear c13b0
          try clear c13b1
          try clear hx157_0
          try clear hx158_0
          try clear p157
          try clear p158
          try clear p2
          try clear p6
          try clear q157
          try clear q158
          obtain ⟨kq, x7_7, rfl, HA, HJ7, ⟨mc7, rfl⟩⟩ := hcut
          cases kq with
          | zero => exact absurd HA.out (by simp [big_nat_cmp.j2])
          | succ kj7 =>
            have H := HA.out
            clear HA
            simp only [big_nat_cmp.j2] at H
            by_cases c14 : 0 ≤ x7_7
            · rw [if_pos c14] at H
              have c14b0 : decide (0 ≤ x7_7) = true := decide_eq_true c14
              clear c14
              by_cases c15 : x7_7 < (l0.length : Int)
              · rw [if_pos c15] at H
                have c15b0 : decide (x7_7 < (l0.length : Int)) = true := decide_eq_true c15
                clear c15
                by_cases c16 : x7_7 < (l1.length : Int)
                · rw [if_pos c16] at H
                  have c16b0 : decide (x7_7 < (l1.length : Int)) = true := decide_eq_true c16
                  clear c16
                  by_cases c17 : (rd l0 x7_7) < (rd l1 x7_7)
                  · rw [if_pos c17] at H
                    have c17b0 : decide ((rd l0 x7_7) < (rd l1 x7_7)) = true := decide_eq_true c17
                    clear c17
                    obtain rfl := Option.some.inj H
                    have p159 : 0 ≤ (x7_7 : Int) := of_decide_eq_true (by first | (with_reducible assumption) | assumption)
                    have q159 : x7_7 < (l0.length : Int) := of_decide_eq_true (by first | (with_reducible assumption) | assumption)
                    obtain ⟨ad159, e159, hx159_0⟩ := Kd.at_int HR0.out x7_7 p159 q159
                    cases e159
                    replace p159 := eq_true p159
                    replace q159 := eq_true q159
                    have p160 : 0 ≤ (x7_7 : Int) := of_decide_eq_true (by first | (with_reducible assumption) | assumption)
                    have q160 : x7_7 < (l1.length : Int) := of_decide_eq_true (by first | (with_reducible assumption) | assumption)
                    obtain ⟨ad160, e160, hx160_0⟩ := Kd.at_int HR1.out x7_7 p160 q160
                    cases e160
                    replace p160 := eq_true p160
                    replace q160 := eq_true q160
                    go_wp2
                    repeat (go_quiet (fail); try go_wp2)
                    go_ret
                    exact ⟨by first | rfl | (simp; done) | (simp [*]; done), by repeat (first | exact Drawn0.refl _ | apply Drawn0.step)⟩
                  · rw [if_neg c17] at H
                    have c17b0 : decide ((rd l0 x7_7) < (rd l1 x7_7)) = false := decide_eq_false c17
                    clear c17
                    by_cases c18 : (rd l0 x7_7) > (rd l1 x7_7)
                    · rw [if_pos c18] at H
                      have c18b0 : decide ((rd l1 x7_7) < (rd l0 x7_7)) = true := decide_eq_true c18
                      clear c18
                      obtain rfl := Option.some.inj H
                      have p159 : 0 ≤ (x7_7 : Int) := of_decide_eq_true (by first | (with_reducible assumption) | assumption)
                      have q159 : x7_7 < (l0.length : Int) := of_decide_eq_true (by first | (with_reducible assumption) | assumption)
                      obtain ⟨ad159, e159, hx159_0⟩ := Kd.at_int HR0.out x7_7 p159 q159
                      cases e159
                      replace p159 := eq_true p159
                      replace q159 := eq_true q159
                      have p160 : 0 ≤ (x7_7 : Int) := of_decide_eq_true (by first | (with_reducible assumption) | assumption)
                      have q160 : x7_7 < (l1.length : Int) := of_decide_eq_true (by first | (with_reducible assumption) | assumption)
                      obtain ⟨ad160, e160, hx160_0⟩ := Kd.at_int HR1.out x7_7 p160 q160
                      cases e160
                      replace p160 := eq_true p160
                      replace q160 := eq_true q160
                      have p161 : 0 ≤ (x7_7 : Int) := of_decide_eq_true (by first | (with_reducible assumption) | assumption)
                      have q161 : x7_7 < (l0.length : Int) := of_decide_eq_true (by first | (with_reducible assumption) | assumption)
                      obtain ⟨ad161, e161, hx161_0⟩ := Kd.at_int HR0.out x7_7 p161 q161
                      obtain rfl : ad159 = ad161 := (by injection e161)
                      replace p161 := eq_true p161
                      replace q161 := eq_true q161
                      have p162 : 0 ≤ (x7_7 : Int) := of_decide_eq_true (by first | (with_reducible assumption) | assumption)
                      have q162 : x7_7 < (l1.length : Int) := of_decide_eq_true (by first | (with_reducible assumption) | assumption)
                      obtain ⟨ad162, e162, hx162_0⟩ := Kd.at_int HR1.out x7_7 p162 q162
                      obtain rfl : ad160 = ad162 := (by injection e162)
                      replace p162 := eq_true p162
                      replace q162 := eq_true q162
                      go_wp2
                      repeat (go_quiet (fail); try go_wp2)
                      go_ret
                      exact ⟨by first | rfl | (simp; done) | (simp [*]; done), by repeat (first | exact Drawn0.refl _ | apply Drawn0.step)⟩
                    · rw [if_neg c18] at H
                      have c18b0 : decide ((rd l1 x7_7) < (rd l0 x7_7)) = false := decide_eq_false c18
                      clear c18
                      obtain rfl := Option.some.inj H
                      have p159 : 0 ≤ (x7_7 : Int) := of_decide_eq_true (by first | (with_reducible assumption) | assumption)
                      have q159 : x7_7 < (l0.length : Int) := of_decide_eq_true (by first | (with_reducible assumption) | assumption)
                      obtain ⟨ad159, e159, hx159_0⟩ := Kd.at_int HR0.out x7_7 p159 q159
                      cases e159
                      replace p159 := eq_true p159
                      replace q159 := eq_true q159
                      have p160 : 0 ≤ (x7_7 : Int) := of_decide_eq_true (by first | (with_reducible assumption) | assumption)
                      have q160 : x7_7 < (l1.length : Int) := of_decide_eq_true (by first | (with_reducible assumption) | assumption)
                      obtain ⟨ad160, e160, hx160_0⟩ := Kd.at_int HR1.out x7_7 p160 q160
                      cases e160
                      replace p160 := eq_true p160
                      replace q160 := eq_true q160
                      have p161 : 0 ≤ (x7_7 : Int) := of_decide_eq_true (by first | (with_reducible assumption) | assumption)
                      have q161 : x7_7 < (l0.length : Int) := of_decide_eq_true (by first | (with_reducible assumption) | assumption)
                      obtain ⟨ad161, e161, hx161_0⟩ := Kd.at_int HR0.out x7_7 p161 q161
                      obtain rfl : ad159 = ad161 := (by injection e161)
                      replace p161 := eq_true p161
                      replace q161 := eq_true q161
                      have p162 : 0 ≤ (x7_7 : Int) := of_decide_eq_true (by first | (with_reducible assumption) | assumption)
                      have q162 : x7_7 < (l1.length : Int) := of_decide_eq_true (by first | (with_reducible assumption) | assumption)
                      obtain ⟨ad162, e162, hx162_0⟩ := Kd.at_int HR1.out x7_7 p162 q162
                      obtain rfl : ad160 = ad162 := (by injection e162)
                      replace p162 := eq_true p162
                      replace q162 := eq_true q162
                      go_wp2
                      repeat (go_quiet (fail); try go_wp2)
                      go_ret
                      exact ⟨by first | rfl | (simp; done) | (simp [*]; done), by repeat (first | exact Drawn0.refl _ | apply Drawn0.step)⟩
                · rw [if_neg c16] at H
                  exact absurd H (by simp)
              · rw [if_neg c15] at H
                exact absurd H (by simp)
            · rw [if_neg c14] at H
              exact absurd H (by simp)
end Go.Proofs.YtgbpglojbgicjaaGreatFmt.F
namespace Go.Proofs.YtgbpglojbgicjaaGreatFmt
open Go.RowKit Go.Proofs.YtgbpglojbgicjaaGreatFmtW.PrintWords
theorem one_word {w : World} {v : Value} {o : Option Nat} {x : Int} (h : IsNat w v o x) (h0 : 0 < x) (h1 : x < 18446744073709551616) : ∃ b ys, o = some b ∧ v = .slice (some ⟨b, 0, none⟩) 1 ys.length ∧ Blk w b ys ∧ 1 ≤ ys.length ∧ ys.length ≤ most ∧ Nrm ys 1 ∧ ys.getD 0 0 = x := by
  rcases h.cases_ with ⟨rfl, _⟩ | ⟨_, b, n, ys, rfl, rfl, hb, hn, hny, hym, hr, hx⟩
  · omega
  · obtain rfl : n = 1 := by
      have := hr.low hn
      rw [hx] at this
      have := pow_lt (Int.lt_of_le_of_lt this (Int.lt_of_lt_of_le h1 (by decide : (18446744073709551616 : Int) ≤ 2 ^ 64)))
      omega
    have e1 : num (fun i => ys.getD i 0) 1 = ys.getD 0 0 := by simp [num]
    exact ⟨b, ys, rfl, rfl, hb, hny, hym, hr, by rw [← e1]; exact hx⟩
theorem kd_word {w : World} {b : Nat} {ys : List Int} (h : Blk w b ys) (hy : 1 ≤ ys.length) : Kd.C (Kd.int .u64) w (some ⟨b, 0, none⟩) [ys.getD 0 0].length [ys.getD 0 0] := by
  refine Kd.C_of_reads (d := 0) ⟨rfl, by simp, fun _ => ⟨_, rfl, fun j hj => ?_⟩⟩
  obtain rfl : j = 0 := by simp at hj; omega
  exact h.cell 0 (by omega)
theorem cmp_one (vx vy : Value) (ox oy : Option Nat) (x y : Int) (w : World) (hx : IsNat w vx ox x) (hy : IsNat w vy oy y) (hy0 : 0 < y) (hlt : y < x) (hx1 : x < 18446744073709551616) :
    Calls Tryz.prog 95 #[vx, vy] w fun e w' => e = .returned (.int .i64 1) ∧ ∃ n, w' = w.drewN n := by
  obtain ⟨b, ys, rfl, rfl, hb, h1, h2, h3, rfl⟩ := one_word hx (by omega) hx1
  obtain ⟨b', ys', rfl, rfl, hb', h1', h2', h3', rfl⟩ := one_word hy hy0 (by omega)
  have hf : F.big_nat_cmp.f 3 [ys.getD 0 0] [ys'.getD 0 0] = some 1 := by
    have w0 : wrap64 (1 - 1) = 0 := IntWalk.wrap64_in _ ⟨by decide, by decide⟩
    unfold F.big_nat_cmp.f F.big_nat_cmp.j0 F.big_nat_cmp.l0 F.big_nat_cmp.j2
    simp only [List.length_singleton, Int.natCast_one, w0, if_true]
    have e0 : ∀ a : Int, rd [a] 0 = a := fun a => rfl
    rw [e0, e0]
    have n1 : ¬ ys.getD 0 0 < ys'.getD 0 0 := by omega
    simp only [n1, if_false]
    rw [if_pos hlt]
    rfl
  refine (F.big_nat_cmp.calls 3 (some ⟨b, 0, none⟩) ys.length [ys.getD 0 0] (some ⟨b', 0, none⟩) ys'.length [ys'.getD 0 0] 1 w (kd_word hb h1) (by simpa using h1) (kd_word hb' h1') (by simpa using h1') hf).mono ?_
  rintro e w' ⟨rfl, h⟩
  exact ⟨rfl, h.out⟩
theorem sub_one (vz : Value) (oz : Option Nat) (vx vy : Value) (ox oy : Option Nat) (x y : Int) (w : World) (hz : Room w vz oz) (hx : IsNat w vx ox x) (hy : IsNat w vy oy y) (hy0 : 0 < y) (hlt : y < x) (hx1 : x < 18446744073709551616) :
    Calls Tryz.prog 55 #[vz, vx, vy] w (Got w oz (x - y)) := by
  obtain ⟨b, ys, rfl, rfl, hb, h1, h2, h3, rfl⟩ := one_word hx (by omega) hx1
  obtain ⟨b', ys', rfl, rfl, hb', h1', h2', h3', rfl⟩ := one_word hy hy0 (by omega)
  have e1 : ∀ zs : List Int, num (fun i => zs.getD i 0) 1 = zs.getD 0 0 := fun zs => by simp [num]
  have := sub_same vz oz b b' 1 ys ys' w hz hb hb' (by omega) h1 h1' (by omega) h3 h3' (by rw [e1, e1]; omega)
  rw [e1, e1] at this
  exact this
theorem some_words {w : World} {v : Value} {o : Option Nat} {x y : Int} (h : IsNat w v o (x - y)) (hlt : y < x) : ∃ b n ys, o = some b ∧ v = .slice (some ⟨b, 0, none⟩) n (ys : List Int).length ∧ 0 < n ∧ IsNat w (.slice (some ⟨b, 0, none⟩) n ys.length) o (x - y) := by
  rcases h.cases_ with ⟨h0, _⟩ | ⟨_, b, n, ys, rfl, rfl, hb, hn, hny, hym, hr, hx⟩
  · omega
  · exact ⟨b, n, ys, rfl, rfl, hn, h⟩
set_option maxRecDepth 100000 in
set_option maxHeartbeats 4000000 in
theorem add_opp (gz gx gy : Nat) (oz ox oy : Option Nat) (z x y : Int) (w : World) (hz : IsInt w gz oz z) (hx : IsInt w gx ox x) (hy : IsInt w gy oy y) (hy0 : 0 < y) (hlt : y < -x) (hx1 : -x < 18446744073709551616) :
    Calls Tryz.prog 66 #[.pointer (some ⟨gz, 0, none⟩), .pointer (some ⟨gx, 0, none⟩), .pointer (some ⟨gy, 0, none⟩)] w fun e w' => e = .returned (.pointer (some ⟨gz, 0, none⟩)) ∧ Put w w' gz oz (x + y) := by
  have hn1 : ∀ n, Only w (w.drewN n) (fun _ => False) := fun n => (Only.refl w (fun _ => False)).drewN n
  have T : ∀ n, Only w (w.drewN n) (fun _ => False) ∧ IsInt (w.drewN n) gz oz z ∧ IsInt (w.drewN n) gx ox x ∧ IsInt (w.drewN n) gy oy y := fun n => ⟨hn1 n, hz.only (hn1 n) (fun h => h) (fun _ _ h => h), hx.only (hn1 n) (fun h => h) (fun _ _ h => h), hy.only (hn1 n) (fun h => h) (fun _ _ h => h)⟩
  have d0 : w.cell? ⟨gx, 0, none⟩ = some (.bool true) := by
    obtain ⟨vx, hgx, hnx⟩ := hx
    have := blk_cell hgx 0
    rw [decide_eq_true (by omega)] at this
    exact this
  have e0 : w.cell? ⟨gy, 0, none⟩ = some (.bool false) := by
    obtain ⟨vy, hgy, hny⟩ := hy
    have := blk_cell hgy 0
    rw [decide_eq_false (by omega)] at this
    exact this
  have HT := Lib.hid T
  have HL := Lib.hid (And.intro hy0 (And.intro hlt hx1))
  clear T hz hx hy hn1
  go_enter Tryz.func66, Tryz.ntmps66
  go_wp2_with fail
  go_quiet (fail)
  go_wp2_with fail
  clear d0 e0
  obtain ⟨hoW, hz, hx, hy⟩ := HT.out nq
  generalize w.drewN nq = W at *
  obtain ⟨vz, hgz, hnz⟩ := id hz
  obtain ⟨vx, hgx, hnx⟩ := id hx
  obtain ⟨vy, hgy, hny⟩ := id hy
  have ax : ((Int.natAbs x : Nat) : Int) = -x := by omega
  have ay : ((Int.natAbs y : Nat) : Int) = y := by omega
  have az : ((Int.natAbs (x + y) : Nat) : Int) = -x - y := by omega
  rw [ax] at hnx
  rw [ay] at hny
  have HAZ := Lib.hid az
  clear ax ay az
  have c1 : W.cell? ⟨gz, 1, none⟩ = some vz := blk_cell hgz 1
  have d1 : W.cell? ⟨gx, 1, none⟩ = some vx := blk_cell hgx 1
  have e1 : W.cell? ⟨gy, 1, none⟩ = some vy := blk_cell hgy 1
  have HCM := Lib.hid (fun n => cmp_one vx vy ox oy (-x) y (W.drewN n) (hnx.only ((Only.refl W (fun _ => False)).drewN n) (fun _ _ h => h)) (hny.only ((Only.refl W (fun _ => False)).drewN n) (fun _ _ h => h)) HL.out.1 HL.out.2.1 HL.out.2.2)
  go_quiet ((go_at_call 95; exact Calls.quiet_of (HCM.out _)))
  go_wp2_with fail
  have hoW2 := hoW.drewN nq
  have hn2 := (Only.refl W (fun _ => False)).drewN nq
  have hz2 := hz.only hn2 (fun h => h) (fun _ _ h => h)
  have hx2 := hnx.only hn2 (fun _ _ h => h)
  have hy2 := hny.only hn2 (fun _ _ h => h)
  have hgz2 : (W.drewN nq).heap[gz]? = _ := hgz
  have hgx2 : (W.drewN nq).heap[gx]? = _ := hgx
  have hgy2 : (W.drewN nq).heap[gy]? = _ := hgy
  have hnz2 := hnz.only hn2 (fun _ _ h => h)
  clear c1 d1 e1 hn2 hz hx hy hnx hny hnz hgx hgy hgz
  generalize W.drewN nq = V at *
  have c1 : V.cell? ⟨gz, 1, none⟩ = some vz := blk_cell hgz2 1
  have d1 : V.cell? ⟨gx, 1, none⟩ = some vx := blk_cell hgx2 1
  have e1 : V.cell? ⟨gy, 1, none⟩ = some vy := blk_cell hgy2 1
  have HSU := Lib.hid (sub_one vz oz vx vy ox oy (-x) y V.drew hnz2.drew.room hx2.drew hy2.drew HL.out.1 HL.out.2.1 HL.out.2.2)
  have K : ∀ w1, Only V.drew w1 (fun k => oz = some k) → w1.cell? ⟨gz, 1, none⟩ = some vz ∧ w1.frozen? ⟨gz, 1, none⟩ = false ∧ w1.frozen? ⟨gz, 0, none⟩ = false ∧ w1.cell? ⟨gz, 0, none⟩ = some (.bool (decide (z < 0))) := fun w1 ho => by
    have h := blk_held hnz2 hgz2 ho
    exact ⟨blk_cell h 1, blk_frozen h 1, blk_frozen h 0, blk_cell h 0⟩
  have HK := Lib.hid K
  clear K
  go_region_law (go_simp; go_at_call 55; refine HSU.out.mono ?_; rintro e w1 ⟨v, o', rfl, hv, ho, hoo⟩; obtain ⟨b, n, ys, hob, rfl, hn0, HV⟩ := some_words hv HL.out.2.1; obtain ⟨k1, k2, k3, k4⟩ := HK.out _ ho)
  all_goals
    have hd : decide ((n : Int) > 0) = true := by simp; omega
    go_wp2_with fail
    go_ret
    have h := Put.from_drew (r := x + y) hz2 (o' := o') (by rw [HAZ.out]; exact HV) ho hoo
    rw [decide_eq_true (by have := HL.out; omega)] at h
    exact ⟨rfl, h.after hoW2⟩
end Go.Proofs.YtgbpglojbgicjaaGreatFmt
namespace Go.Proofs.YtgbpglojbgicjaaGreatFmt
open Go.RowKit Go.Proofs.YtgbpglojbgicjaaGreatFmtW.PrintWords
theorem lsh0_nat (vx : Value) (ox : Option Nat) (x : Int) (w : World) (hx : IsNat w vx ox x) (hf : Fits x) (hp : 0 < x) :
    Calls Tryz.prog 69 #[.slice none 0 0, vx, .int .u64 0] w (Got w none x) := by
  have hmm : most = 274877906944 := rfl
  rcases hx.cases_ with ⟨rfl, A, c, rfl⟩ | ⟨_, b, n, ys, rfl, rfl, hb, hn, hny, hym, hr, rfl⟩
  · omega
  · have := hr.short hf
    exact lsh_none b n ys.length ys w hb hn hny (by omega) hr
set_option maxRecDepth 100000 in
set_option maxHeartbeats 2000000 in
theorem lsh0_int (gz gx : Nat) (ox : Option Nat) (x : Int) (w : World) (hz : IsInt w gz none 0) (hx : IsInt w gx ox x) (hf : Fits (Int.natAbs x)) (hp : x ≠ 0) :
    Calls Tryz.prog 46 #[.pointer (some ⟨gz, 0, none⟩), .pointer (some ⟨gx, 0, none⟩), .int .u64 0] w fun e w' => e = .returned (.pointer (some ⟨gz, 0, none⟩)) ∧ Put w w' gz none x := by
  obtain ⟨vz, hgz, hnz⟩ := id hz
  obtain ⟨vx, hgx, hnx⟩ := id hx
  have hx1 := hnx.drew
  obtain rfl : vz = .slice none 0 0 := by
    cases hnz with
    | nil => rfl
  have c1 : w.cell? ⟨gz, 1, none⟩ = some (.slice none 0 0) := blk_cell hgz 1
  have d1 : w.cell? ⟨gx, 1, none⟩ = some vx := blk_cell hgx 1
  have K : ∀ w1, Only w.drew w1 (fun k => (none : Option Nat) = some k) → w1.cell? ⟨gz, 1, none⟩ = some (.slice none 0 0) ∧ w1.frozen? ⟨gz, 1, none⟩ = false ∧ w1.frozen? ⟨gz, 0, none⟩ = false ∧ w1.cell? ⟨gz, 0, none⟩ = some (.bool (decide ((0 : Int) < 0))) ∧ w1.cell? ⟨gx, 0, none⟩ = some (.bool (decide (x < 0))) := fun w1 ho => by
    have e1 := blk_held hnz hgz ho
    have e2 := blk_held hnz hgx ho
    exact ⟨blk_cell e1 1, blk_frozen e1 1, blk_frozen e1 0, blk_cell e1 0, blk_cell e2 0⟩
  have HK := Lib.hid K
  have HL := Lib.hid (lsh0_nat vx ox _ w.drew hx1 hf (by omega))
  clear K
  go_enter Tryz.func46, Tryz.ntmps46
  go_wp2_with fail
  go_region_law (go_simp; go_at_call 69; refine HL.out.mono ?_; rintro e w1 ⟨v, o', rfl, hv, ho, hoo⟩; obtain ⟨A, n, c, rfl⟩ := hv.slice_; obtain ⟨k1, k2, k3, k4, k5⟩ := HK.out _ ho)
  all_goals
    go_wp2_with fail
    go_ret
    exact ⟨rfl, Put.from_drew hz (o' := o') hv ho hoo⟩
end Go.Proofs.YtgbpglojbgicjaaGreatFmt
namespace Go.Proofs.YtgbpglojbgicjaaGreatFmt
open Go.RowKit Go.Proofs.YtgbpglojbgicjaaGreatFmtW.PrintWords
theorem two_words {w : World} {v : Value} {o : Option Nat} (h : IsNat w v o 36893488147419103232) : ∃ b ys, o = some b ∧ v = .slice (some ⟨b, 0, none⟩) 2 ys.length ∧ Blk w b ys ∧ 2 ≤ ys.length ∧ ys.getD 0 0 = 0 ∧ ys.getD 1 0 = 2 := by
  rcases h.cases_ with ⟨h0, _⟩ | ⟨_, b, n, ys, rfl, rfl, hb, hn, hny, hym, hr, hx⟩
  · omega
  · have a := hr.low hn
    have c := num_range n hr.1
    rw [hx] at a c
    have h1 := pow_lt (Int.lt_of_le_of_lt a (by decide : (36893488147419103232 : Int) < 2 ^ 66))
    have h2 : (2 : Int) ^ 65 = 36893488147419103232 := by decide
    rw [← h2] at c
    have h3 := pow_lt c.2
    obtain rfl : n = 2 := by omega
    have w0 : 0 ≤ ys.getD 0 0 ∧ ys.getD 0 0 < 18446744073709551616 := hr.1 0 (by omega)
    have w1 : 0 ≤ ys.getD 1 0 ∧ ys.getD 1 0 < 18446744073709551616 := hr.1 1 (by omega)
    have hx : 0 + ys.getD 0 0 * 2 ^ (64 * 0) + ys.getD 1 0 * 2 ^ (64 * 1) = 36893488147419103232 := hx
    have e : (2 : Int) ^ (64 * 1) = 18446744073709551616 := by decide
    rw [Nat.mul_zero, Int.pow_zero, e] at hx
    refine ⟨b, ys, rfl, rfl, hb, hny, ?_, ?_⟩ <;> omega
set_option maxRecDepth 100000 in
set_option maxHeartbeats 4000000 in
theorem div_nat_lit (vu vv : Value) (ou ov : Option Nat) (w : World) (hu : IsNat w vu ou 36893488147419103232) (hv : IsNat w vv ov 3) :
    Calls Tryz.prog 68 #[.slice none 0 0, .pointer none, .slice none 0 0, vu, vv] w fun e w' => ∃ vq bq vr br, e = .returned (.tuple #[vq, vr]) ∧ IsNat w' vq (some bq) 12297829382473034410 ∧ IsNat w' vr (some br) 2 ∧ w.heap.size ≤ bq ∧ w.heap.size ≤ br ∧ Only w w' (fun _ => False) := by
  obtain ⟨bu, xs, rfl, rfl, hbu, hl, h0, h1⟩ := two_words hu
  obtain ⟨bv, ys, rfl, rfl, hbv, hlv, _, _, hy⟩ := one_word hv (by decide) (by decide)
  have c0 : w.cell? ⟨bv, 0, none⟩ = some (.int .u64 3) := by rw [hbv.cell 0 (by omega), hy]
  have HD := Lib.hid (divW_lit bu xs.length xs w hbu hl h0 h1)
  clear hbu hbv hu hv
  go_enter Tryz.func68, Tryz.ntmps68
  go_wp2_with fail
  refine HD.out.mono ?_
  rintro e w1 ⟨vq, bq, rfl, hq, hbq, ho1⟩
  go_wp2_with fail
  refine (setWord_2 w1).mono ?_
  rintro e w2 ⟨br, cr, rfl, hr, hbr, ho2⟩
  go_wp2_with fail
  go_ret2
  refine ⟨vq, bq, _, br, rfl, hq.only ho2 (fun _ _ h => h), hr, hbq, ?_, ho1.trans ho2⟩
  have := ho1.base.size
  omega
theorem lshb_nat (vx : Value) (ox : Option Nat) (x : Int) (q r : Nat) (w : World) (hx : IsNat w vx ox x) (hf : Fits x) (hp : 0 < x) (hq : 0 < q) (hq2 : q ≤ 1073741824) (hr : 0 < r) (hr2 : r < 64) :
    Calls Tryz.prog 69 #[.slice none 0 0, vx, .int .u64 ((64 * q + r : Nat) : Int)] w (Got w none (x * 2 ^ (64 * q + r))) := by
  have hmm : most = 274877906944 := rfl
  rcases hx.cases_ with ⟨rfl, A, c, rfl⟩ | ⟨_, b, n, ys, rfl, rfl, hb, hn, hny, hym, hr', rfl⟩
  · omega
  · have := hr'.short hf
    exact lsh_big b n ys.length q r ys w hb hn hny (by omega) hr'.1 hq hr hr2
set_option maxRecDepth 100000 in
set_option maxHeartbeats 4000000 in
theorem lshb_int (gz gx : Nat) (ox : Option Nat) (x : Int) (q r s : Nat) (w : World) (hz : IsInt w gz none 0) (hx : IsInt w gx ox x) (hf : Fits (Int.natAbs x)) (hp : x ≠ 0) (hq : 0 < q) (hq2 : q ≤ 1073741824) (hr : 0 < r) (hr2 : r < 64) (hs : s = 64 * q + r) :
    Calls Tryz.prog 46 #[.pointer (some ⟨gz, 0, none⟩), .pointer (some ⟨gx, 0, none⟩), .int .u64 (s : Int)] w fun e w' => e = .returned (.pointer (some ⟨gz, 0, none⟩)) ∧ Put w w' gz none (x * 2 ^ s) := by
  obtain ⟨vz, hgz, hnz⟩ := id hz
  obtain ⟨vx, hgx, hnx⟩ := id hx
  have hx1 := hnx.drew
  obtain rfl : vz = .slice none 0 0 := by
    cases hnz with
    | nil => rfl
  have c1 : w.cell? ⟨gz, 1, none⟩ = some (.slice none 0 0) := blk_cell hgz 1
  have d1 : w.cell? ⟨gx, 1, none⟩ = some vx := blk_cell hgx 1
  have K : ∀ w1, Only w.drew w1 (fun k => (none : Option Nat) = some k) → w1.cell? ⟨gz, 1, none⟩ = some (.slice none 0 0) ∧ w1.frozen? ⟨gz, 1, none⟩ = false ∧ w1.frozen? ⟨gz, 0, none⟩ = false ∧ w1.cell? ⟨gz, 0, none⟩ = some (.bool (decide ((0 : Int) < 0))) ∧ w1.cell? ⟨gx, 0, none⟩ = some (.bool (decide (x * 2 ^ s < 0))) := fun w1 ho => by
    have e1 := blk_held hnz hgz ho
    have e2 := blk_held hnz hgx ho
    exact ⟨blk_cell e1 1, blk_frozen e1 1, blk_frozen e1 0, blk_cell e1 0, by rw [sign_pow]; exact blk_cell e2 0⟩
  have HK := Lib.hid K
  have hL := lshb_nat vx ox _ q r w.drew hx1 hf (by omega) hq hq2 hr hr2
  rw [← hs] at hL
  have HL := Lib.hid hL
  clear K hL hs
  go_enter Tryz.func46, Tryz.ntmps46
  go_wp2_with fail
  go_region_law (go_simp; go_at_call 69; refine HL.out.mono ?_; rintro e w1 ⟨v, o', rfl, hv, ho, hoo⟩; obtain ⟨A, n, c, rfl⟩ := hv.slice_; obtain ⟨k1, k2, k3, k4, k5⟩ := HK.out _ ho)
  all_goals
    go_wp2_with fail
    go_ret
    refine ⟨rfl, Put.from_drew hz (o' := o') ?_ ho hoo⟩
    rw [natAbs_pow]; exact hv
end Go.Proofs.YtgbpglojbgicjaaGreatFmt
