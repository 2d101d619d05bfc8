/- Part 1 of what the proof of NoteChanges stands on: the engine, and facts on the program's tables. -/
import Derived.Test.YtkdoomglflikkaaGreatCac
import Derived.WalkKit
import Derived.Laws.NewBlocks
import Derived.Orders
import Derived.Laws.CopyRow
import Derived.Laws.Tables
import Derived.Maps.Keyed
import Derived.DeepKeys3
import Derived.Laws.IdiomStrings
import Derived.Laws.Strings
import Derived.KernelRfl
import Derived.ProofKit
import Derived.SizedLaws
import Derived.Deep.Slices
import Derived.OpenShut
import Derived.Test.YtkdoomglflikkaaGreatRows
import Derived.Lib.BytesEntry
import Derived.Lib.Bytealg
import Derived.Laws.Externs
import Derived.Lib.SlBytesConst
namespace Go.Eng
open Go.RowKit
section
variable {P : Program} {n : Nat} {L : List (Nat × Value)} {w w' : World} {Q : Exit → Act → World → Prop} {ops : Array Oper} {rest : List Oper} {ty : TypeId} {pos : String} {af : Array Edge} {d : Nat}
theorem wl_quo {k : IntKind} {x y : Operand} {a b z : Int} {t u : TypeId} (hd : d < n) (hx : ev L x = some (.int k a)) (hy : ev L y = some (.int k b)) (h0 : b ≠ 0) (hz : k.wrap (a.tdiv b) = z) (h : WL P n ops Q rest ((d, .int k z) :: L) w) :
  WL P n ops Q ({ dst := some d, op := .binOp .quo t x y u, type := ty, pos := pos, after := af, guard := none } :: rest) L w :=
 wl_run hd (fun c hc => by simp [execOp, hc.eval hx, hc.eval hy, eqGuard, binOp, Op.intDiv, h0, hz]) h
end
end Go.Eng
namespace Go.Proofs.Tryz
open Go.Eng
theorem cl119 : callable prog 119 = true := by kernel_rfl
theorem cl29 : callable prog 29 = true := by kernel_rfl
theorem cl30 : callable prog 30 = true := by kernel_rfl
theorem cl31 : callable prog 31 = true := by kernel_rfl
theorem cl42 : callable prog 42 = true := by kernel_rfl
theorem cl46 : callable prog 46 = true := by kernel_rfl
theorem cl74 : callable prog 74 = true := by kernel_rfl
theorem cl77 : callable prog 77 = true := by kernel_rfl
open Go.Eng Go.RowKit
end Go.Proofs.Tryz
namespace Go.Eng
open Go.RowKit
section
variable {P : Program} {n : Nat} {L : List (Nat × Value)} {w : World} {Q : Exit → Act → World → Prop} {ops : Array Oper} {rest : List Oper} {ty : TypeId} {pos : String} {af : Array Edge} {d : Nat}
theorem wl_appN {α : Type} {r : Rep α} {t e bytes lo c2 : Nat} {S : Nat → Prop} {B : Option Addr} {l : List α} {s x : Operand} (hd : d < n) (hT : slB P t e r.size bytes = true) (hs : ev L s = some (.slice none 0 0)) (hx : ev L x = some (.slice B l.length c2))
  (g : GS r S w B c2 l) (hr : ∀ {S S' : Nat → Prop} {w w' : World} {cs : List Value} {x : α}, r.rd S w cs x → r.rd S' w' cs x) (hb : l.length * bytes ≤ 140737488355328) (hlo : lo ≤ w.heap.size)
  (h : ∀ A' c' w', GS r (fun b => lo ≤ b) w' A' c' l → Ext w w' → WL P n ops Q rest ((d, .slice A' l.length c') :: L) w') :
  WL P n ops Q ({ dst := some d, op := .call { callee := .builtin .append, args := #[s, x], argTypes := #[t, t] }, type := ty, pos := pos, after := af, guard := none } :: rest) L w := by
 obtain ⟨rows, hl, hs1, ho, hrd, hat, hnil⟩ := g.cells
 have hfl : rows.flatten.length = l.length * r.size := by rw [flat_len _ _ hs1, hl]
 refine wl_append (lo := lo) (k := 0) (m := l.length) (c := 0) (xs := []) (news := rows.flatten) hd hT hs hx (OwnRow.nil e r.size lo w none) hfl (fun b hB => hat b hB) (fun hB => by rw [hnil hB]; rfl)
  (fun u hu => by obtain ⟨x, h1, h2⟩ := List.mem_flatten.1 hu; exact ho x h1 u h2) (by rw [Nat.zero_add]; exact hb) hlo (fun A' c' w' hown hch _ => ?_)
 rw [Nat.zero_add]
 rw [Nat.zero_add, List.nil_append] at hown
 refine h A' c' w' ?_ (hch.weak (fun b _ hb => hb.1 rfl))
 rcases hown.row with ⟨hc, h0⟩ | ⟨gg, cur, rfl, hlog, hget, hsz, htk⟩
 ·have : l = [] := List.length_eq_zero_iff.1 h0
  subst this
  exact GS.nil _ _ _ _ _
 ·have hgl : gg < w'.heap.size := (Array.getElem?_eq_some_iff.1 hget).1
  refine GS.of_rows rows ?_ hgl hlog hown.le g.mx (fun i hi => ⟨rows[i]'(by omega), List.getElem?_eq_getElem (by omega), hr (hrd i hi (by omega))⟩)
  exact hown.at0
end
end Go.Eng
