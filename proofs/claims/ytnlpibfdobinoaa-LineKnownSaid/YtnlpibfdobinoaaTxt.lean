/- Bytes as texts. Program-independent. -/
import Derived.Test.YtnlpibfdobinoaaOpt
import Derived.Laws.IdiomStrings
import Derived.Laws.Strings
namespace Go.Eng
open Go.RowKit
/-- A text's value. -/
def strV (l : List UInt8) : Value := .string ⟨l.toArray⟩
section
variable {P : Program} {n : Nat} {L : List (Nat × Value)} {w w' : World} {Q : Exit → Act → World → Prop} {ops : Array Oper} {rest : List Oper} {ty : TypeId} {pos : String} {af : Array Edge} {d : Nat}
theorem wl_b2s {src dst e c : Nat} {A : Option Addr} {l : List UInt8} {S : Nat → Prop} {x : Operand} (hd : d < n) (hs : P.underlying src = some (.slice e)) (he : P.underlying e = some (.int .u8)) (ht : P.underlying dst = some .string)
    (hx : ev L x = some (.slice A l.length c)) (g : BS S w A c l) (h : WL P n ops Q rest ((d, strV l) :: L) w) :
    WL P n ops Q ({ dst := some d, op := .convert src dst x, type := ty, pos := pos, after := af, guard := none } :: rest) L w := by
  refine wl_run hd (fun a ha => ?_) h
  have hr : (convert src dst (.slice A l.length c)).run P w = .ok (strV l) w := by
    rcases A with _ | p
    · obtain rfl := g.empty rfl
      rw [run_convert_bytes_string w src dst e none _ c hs he ht]
      simp [Conv.bytesToString, strV]
      rfl
    · refine run_convert_bytes_back w src dst e p c l hs he ht (fun j hj => ?_)
      obtain ⟨a', cs, hA, _, _, hat, hrd⟩ := g.rd j hj
      cases hA
      cases hrd
      have := hat.head
      simpa [byteR, oneR] using this
  simp [execOp, ha.eval hx, hr]
theorem wl_eqls {t u : TypeId} {x y : Operand} {a b : List UInt8} (hd : d < n) (hx : ev L x = some (strV a)) (hy : ev L y = some (strV b)) (h : WL P n ops Q rest ((d, .bool (decide (a = b))) :: L) w) :
    WL P n ops Q ({ dst := some d, op := .binOp .eql t x y u, type := ty, pos := pos, after := af, guard := none } :: rest) L w := by
  refine wl_run hd (fun c hc => ?_) h
  have e : (a == b) = decide (a = b) := by
    by_cases h : a = b <;> simp [h]
  simp [execOp, hc.eval hx, hc.eval hy, eqGuard, binOp, Op.stringOp, strV, e]
end
end Go.Eng
