/- Part 1 of what the proof of JudgeLine stands on: the engine, and facts on the program's tables. -/
import Derived.Test.YtgheaedligkhoaaAab
import Derived.WalkKit
import Derived.Laws.NewBlocks
import Derived.Orders
import Derived.Laws.CopyRow
import Derived.Laws.Tables
import Derived.Maps.Keyed
import Derived.DeepKeys3
import Derived.Laws.IdiomStrings
import Derived.Laws.Strings
import Derived.KernelRfl
import Derived.ProofKit
import Derived.SizedLaws
import Derived.Deep.Slices
import Derived.OpenShut
import Derived.Test.YtgheaedligkhoaaRows
import Derived.Maps.RangeRun
import Derived.Maps.Range
namespace Go.Eng
open Go.RowKit
section
variable {P : Program} {n : Nat} {L : List (Nat × Value)} {w w' : World} {Q : Exit → Act → World → Prop} {ops : Array Oper} {rest : List Oper} {ty : TypeId} {pos : String} {af : Array Edge} {d : Nat}
theorem wl_rem {k : IntKind} {x y : Operand} {a b z : Int} {t u : TypeId} (hd : d < n) (hx : ev L x = some (.int k a)) (hy : ev L y = some (.int k b)) (h0 : b ≠ 0) (hz : a.tmod b = z) (h : WL P n ops Q rest ((d, .int k z) :: L) w) :
  WL P n ops Q ({ dst := some d, op := .binOp .rem t x y u, type := ty, pos := pos, after := af, guard := none } :: rest) L w :=
 wl_run hd (fun c hc => by simp [execOp, hc.eval hx, hc.eval hy, eqGuard, binOp, Op.intDiv, h0, hz]) h
def intB (P : Program) (t : TypeId) (k : IntKind) : Bool := match P.underlying t with | some (.int k') => k' == k | _ => false
theorem intB_out {t : TypeId} {k : IntKind} (h : intB P t k = true) : P.underlying t = some (.int k) := by
 unfold intB at h
 split at h
 ·rename_i k' hk
  rw [hk, beq_iff_eq.1 h]
 ·cases h
theorem wl_conv {k k1 k2 : IntKind} {x : Operand} {a z : Int} {t u : TypeId} (hd : d < n) (ht : intB P t k1 = true) (hu : intB P u k2 = true) (hx : ev L x = some (.int k a)) (hz : k2.wrap a = z) (h : WL P n ops Q rest ((d, .int k2 z) :: L) w) :
  WL P n ops Q ({ dst := some d, op := .convert t u x, type := ty, pos := pos, after := af, guard := none } :: rest) L w :=
 wl_run hd (fun c hc => by simp [execOp, hc.eval hx, convert, run_underlying (intB_out ht), run_underlying (intB_out hu), Conv.intToInt, hz]) h
end
end Go.Eng
