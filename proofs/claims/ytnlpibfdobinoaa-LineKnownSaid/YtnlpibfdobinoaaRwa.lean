/- Rwa (printed by program: wip/gen) -/
import Derived.Test.YtnlpibfdobinoaaLnx
import Derived.Test.YtnlpibfdobinoaaArg
namespace Go.Proofs.Ytnlpibfdobinoaa
open Go.ChangeShapes Go.WideShapes Go.ChangeAt Go.RowKit Go.Eng

theorem Try.own : ownKnob Try.prog.godebug = none := by kernel_rfl
theorem Try.laidOut : laidOutB Try.prog = true := by kernel_rfl
theorem Try.cBool : Try.prog.cellsOf 4 = 1 := by kernel_rfl
theorem Try.cBytes : Try.prog.cellsOf 23 = 1 := by kernel_rfl
theorem Try.cInt : Try.prog.cellsOf 3 = 1 := by kernel_rfl
theorem Try.cOp : Try.prog.cellsOf 45 = 4 := by kernel_rfl
theorem reads_bytes : ReadsR Try.prog 23 (sliceR byteR) (fun l => (∀ x ∈ l, True) ∧ l.length * 1 ≤ 140737488355328) :=
  reads_slice Try.underlying23 rfl (by decide) (by kernel_rfl) (by kernel_rfl) (by decide) (reads_byte Try.underlying5)
theorem reads_op : ReadsR Try.prog 45 opR opGood := by
  intro H enc w base sp held fuel cs x h hlt hw
  have hlen := trod_structLen Try.underlying45 h
  obtain ⟨v0, h0, _⟩ := reads_field Try.underlying45 (i := 0) rfl (reads_bool Try.underlying4) h hlt hw
  obtain ⟨v1, h1, _⟩ := reads_field Try.underlying45 (i := 1) rfl reads_bytes h hlt hw
  obtain ⟨v2, h2, g2⟩ := reads_field Try.underlying45 (i := 2) rfl (reads_int Try.underlying3) h hlt hw
  obtain ⟨v3, h3, g3⟩ := reads_field Try.underlying45 (i := 3) rfl (reads_int Try.underlying3) h hlt hw
  rw [Try.cOp] at hlen
  replace h0 : boolR.rd _ _ ((cs.drop 0).take (Try.prog.cellsOf 4)) v0 := h0
  replace h1 : (sliceR byteR).rd _ _ ((cs.drop 1).take (Try.prog.cellsOf 23)) v1 := h1
  replace h2 : intR.rd _ _ ((cs.drop 2).take (Try.prog.cellsOf 3)) v2 := h2
  replace h3 : intR.rd _ _ ((cs.drop 3).take (Try.prog.cellsOf 3)) v3 := h3
  rw [Try.cBool] at h0
  rw [Try.cBytes] at h1
  rw [Try.cInt] at h2 h3
  obtain ⟨a, b, c, d, rfl⟩ : ∃ a b c d, cs = [a, b, c, d] := by
    match cs, hlen with
    | [a, b, c, d], _ => exact ⟨a, b, c, d, rfl⟩
  obtain ⟨A1, c1, e1, h1⟩ := h1
  cases h0; cases e1; cases h2; cases h3
  exact ⟨⟨v0, v1, v2, v3⟩, ⟨A1, c1, rfl, h1⟩, g2.1, g2.2, g3.1, g3.2⟩

end Go.Proofs.Ytnlpibfdobinoaa
