/-
  No cell of these rows narrows 'for every input' (looked for: loops, veiled, ifaces, maps, wideKeys, modest, calm, conditions, laid).
  DERIVED. THE GIVEN ROWS OF THIS SEAT. 10 by the template 'for every input the law returns true; each argument reads behind the call as it read before'; 0 by the template 'total and deterministic' (their statements: YtkdoomglflikkaaGreatTotals.lean).
  GIVEN WITH THE SEED: the statements are not yours to turn. If you find one false, say at which input.
  Laid BY PROGRAM, IN A SANDBOX (cutbox-rows.mjs): the forced cells as the released guide's own fill.sh prints them over the translation a403413ac5024612… (all of the seat's roots in one cut). By AI agents, Wed Nov 11 2026. No macro, syntax, notation, axiom, sorry.
-/
import Derived.Test.YtkdoomglflikkaaGreatChecked
import GoSem.Claim
import GoSem.ClaimJoined
import GoSem.ClaimMapViews
import Derived.JoinedTies
import Derived.KernelRfl
namespace Go.Proofs.YtkdoomglflikkaaGreat
/- THE CELL 'sum', in the pinned program and in every row, IS THE sha256 OF THE DUMP (.gsa) THAT YtkdoomglflikkaaGreatProg.lean LOADS. Nothing in Lean hashes anything: it is a label: what it is worth is what the hold of that sum in a sandbox is worth. -/
noncomputable def Tryz.pinned : Pinned := { name := "ytkdoomglflikkaagreat", sum := "a403413ac50246127e374a5e2e353ea77531b10d0c860930a6fffea13d57f9d2", checked := Tryz.checked }
namespace Rows
def none {H : Type} : Left H := { results := [], args := [] }

/-- 'bastidelaw12.NotePacks': WHATEVER THE INPUT: true; the input reads as it did. -/
def notePacksSpec : ChangeSpec := { name := "notePacks", fn := fun _ => fun
  | [d] => { results := [.lit (.bool true)], args := [d] }
  | _ => none }
def notePacksRow : OpenClaim := { program := "ytkdoomglflikkaagreat", sum := "a403413ac50246127e374a5e2e353ea77531b10d0c860930a6fffea13d57f9d2", func := "bastide/bastidelaw12.NotePacks", spec := "notePacks", inPlace := ["internal/bytealg.Compare"], unfollowed := true, recurses := true, plainKeys := false, apart := false }
def NotePacksSaid : Prop := notePacksRow.holds Tryz.pinned (OpenSpec.ofChange notePacksSpec)

/-- ITS FALSE NEIGHBOUR: 'it returns false'. Refute it at one input. -/
def notePacksWrong : ChangeSpec := { name := "notePacks", fn := fun _ => fun
  | [d] => { results := [.lit (.bool false)], args := [d] }
  | _ => none }
def NotePacksWrongFalsely : Prop := notePacksRow.holds Tryz.pinned (OpenSpec.ofChange notePacksWrong)

/-- 'bastidelaw12.NoteReads': WHATEVER THE INPUT: true; the input reads as it did. -/
def noteReadsSpec : ChangeSpec := { name := "noteReads", fn := fun _ => fun
  | [d] => { results := [.lit (.bool true)], args := [d] }
  | _ => none }
def noteReadsRow : OpenClaim := { program := "ytkdoomglflikkaagreat", sum := "a403413ac50246127e374a5e2e353ea77531b10d0c860930a6fffea13d57f9d2", func := "bastide/bastidelaw12.NoteReads", spec := "noteReads", inPlace := ["internal/bytealg.Compare"], unfollowed := true, recurses := true, plainKeys := false, apart := false }
def NoteReadsSaid : Prop := noteReadsRow.holds Tryz.pinned (OpenSpec.ofChange noteReadsSpec)

/-- ITS FALSE NEIGHBOUR: 'it returns false'. Refute it at one input. -/
def noteReadsWrong : ChangeSpec := { name := "noteReads", fn := fun _ => fun
  | [d] => { results := [.lit (.bool false)], args := [d] }
  | _ => none }
def NoteReadsWrongFalsely : Prop := noteReadsRow.holds Tryz.pinned (OpenSpec.ofChange noteReadsWrong)

/-- 'bastidelaw12.NoteShort': WHATEVER THE INPUT: true; the input reads as it did. -/
def noteShortSpec : ChangeSpec := { name := "noteShort", fn := fun _ => fun
  | [d1, d2, d3] => { results := [.lit (.bool true)], args := [d1, d2, d3] }
  | _ => none }
def noteShortRow : OpenClaim := { program := "ytkdoomglflikkaagreat", sum := "a403413ac50246127e374a5e2e353ea77531b10d0c860930a6fffea13d57f9d2", func := "bastide/bastidelaw12.NoteShort", spec := "noteShort", inPlace := ["internal/bytealg.Compare"], unfollowed := true, recurses := true, plainKeys := false, apart := false }
def NoteShortSaid : Prop := noteShortRow.holds Tryz.pinned (OpenSpec.ofChange noteShortSpec)

/-- ITS FALSE NEIGHBOUR: 'it returns false'. Refute it at one input. -/
def noteShortWrong : ChangeSpec := { name := "noteShort", fn := fun _ => fun
  | [d1, d2, d3] => { results := [.lit (.bool false)], args := [d1, d2, d3] }
  | _ => none }
def NoteShortWrongFalsely : Prop := noteShortRow.holds Tryz.pinned (OpenSpec.ofChange noteShortWrong)

/-- 'bastidelaw12.NoteUnlike': WHATEVER THE INPUT: true; the input reads as it did. -/
def noteUnlikeSpec : ChangeSpec := { name := "noteUnlike", fn := fun _ => fun
  | [d1, d2] => { results := [.lit (.bool true)], args := [d1, d2] }
  | _ => none }
def noteUnlikeRow : OpenClaim := { program := "ytkdoomglflikkaagreat", sum := "a403413ac50246127e374a5e2e353ea77531b10d0c860930a6fffea13d57f9d2", func := "bastide/bastidelaw12.NoteUnlike", spec := "noteUnlike", inPlace := ["internal/bytealg.Compare"], unfollowed := true, recurses := true, plainKeys := false, apart := false }
def NoteUnlikeSaid : Prop := noteUnlikeRow.holds Tryz.pinned (OpenSpec.ofChange noteUnlikeSpec)

/-- ITS FALSE NEIGHBOUR: 'it returns false'. Refute it at one input. -/
def noteUnlikeWrong : ChangeSpec := { name := "noteUnlike", fn := fun _ => fun
  | [d1, d2] => { results := [.lit (.bool false)], args := [d1, d2] }
  | _ => none }
def NoteUnlikeWrongFalsely : Prop := noteUnlikeRow.holds Tryz.pinned (OpenSpec.ofChange noteUnlikeWrong)

/-- 'bastidelaw12.NoteChecks': WHATEVER THE INPUT: true; the input reads as it did. -/
def noteChecksSpec : ChangeSpec := { name := "noteChecks", fn := fun _ => fun
  | [d] => { results := [.lit (.bool true)], args := [d] }
  | _ => none }
def noteChecksRow : OpenClaim := { program := "ytkdoomglflikkaagreat", sum := "a403413ac50246127e374a5e2e353ea77531b10d0c860930a6fffea13d57f9d2", func := "bastide/bastidelaw12.NoteChecks", spec := "noteChecks", inPlace := ["internal/bytealg.Compare"], unfollowed := true, recurses := true, plainKeys := false, apart := false }
def NoteChecksSaid : Prop := noteChecksRow.holds Tryz.pinned (OpenSpec.ofChange noteChecksSpec)

/-- ITS FALSE NEIGHBOUR: 'it returns false'. Refute it at one input. -/
def noteChecksWrong : ChangeSpec := { name := "noteChecks", fn := fun _ => fun
  | [d] => { results := [.lit (.bool false)], args := [d] }
  | _ => none }
def NoteChecksWrongFalsely : Prop := noteChecksRow.holds Tryz.pinned (OpenSpec.ofChange noteChecksWrong)

/-- 'bastidelaw12.NoteBack': WHATEVER THE INPUT: true; the input reads as it did. -/
def noteBackSpec : ChangeSpec := { name := "noteBack", fn := fun _ => fun
  | [d] => { results := [.lit (.bool true)], args := [d] }
  | _ => none }
def noteBackRow : OpenClaim := { program := "ytkdoomglflikkaagreat", sum := "a403413ac50246127e374a5e2e353ea77531b10d0c860930a6fffea13d57f9d2", func := "bastide/bastidelaw12.NoteBack", spec := "noteBack", inPlace := ["internal/bytealg.Compare"], unfollowed := true, recurses := true, plainKeys := false, apart := false }
def NoteBackSaid : Prop := noteBackRow.holds Tryz.pinned (OpenSpec.ofChange noteBackSpec)

/-- ITS FALSE NEIGHBOUR: 'it returns false'. Refute it at one input. -/
def noteBackWrong : ChangeSpec := { name := "noteBack", fn := fun _ => fun
  | [d] => { results := [.lit (.bool false)], args := [d] }
  | _ => none }
def NoteBackWrongFalsely : Prop := noteBackRow.holds Tryz.pinned (OpenSpec.ofChange noteBackWrong)

/-- 'bastidelaw12.NoteOnce': WHATEVER THE INPUT: true; the input reads as it did. -/
def noteOnceSpec : ChangeSpec := { name := "noteOnce", fn := fun _ => fun
  | [d] => { results := [.lit (.bool true)], args := [d] }
  | _ => none }
def noteOnceRow : OpenClaim := { program := "ytkdoomglflikkaagreat", sum := "a403413ac50246127e374a5e2e353ea77531b10d0c860930a6fffea13d57f9d2", func := "bastide/bastidelaw12.NoteOnce", spec := "noteOnce", inPlace := ["internal/bytealg.Compare"], unfollowed := true, recurses := true, plainKeys := false, apart := false }
def NoteOnceSaid : Prop := noteOnceRow.holds Tryz.pinned (OpenSpec.ofChange noteOnceSpec)

/-- ITS FALSE NEIGHBOUR: 'it returns false'. Refute it at one input. -/
def noteOnceWrong : ChangeSpec := { name := "noteOnce", fn := fun _ => fun
  | [d] => { results := [.lit (.bool false)], args := [d] }
  | _ => none }
def NoteOnceWrongFalsely : Prop := noteOnceRow.holds Tryz.pinned (OpenSpec.ofChange noteOnceWrong)

/-- 'bastidelaw12.NoteFields': WHATEVER THE INPUT: true; the input reads as it did. -/
def noteFieldsSpec : ChangeSpec := { name := "noteFields", fn := fun _ => fun
  | [d1, d2, d3] => { results := [.lit (.bool true)], args := [d1, d2, d3] }
  | _ => none }
def noteFieldsRow : OpenClaim := { program := "ytkdoomglflikkaagreat", sum := "a403413ac50246127e374a5e2e353ea77531b10d0c860930a6fffea13d57f9d2", func := "bastide/bastidelaw12.NoteFields", spec := "noteFields", inPlace := ["internal/bytealg.Compare"], unfollowed := true, recurses := true, plainKeys := false, apart := false }
def NoteFieldsSaid : Prop := noteFieldsRow.holds Tryz.pinned (OpenSpec.ofChange noteFieldsSpec)

/-- ITS FALSE NEIGHBOUR: 'it returns false'. Refute it at one input. -/
def noteFieldsWrong : ChangeSpec := { name := "noteFields", fn := fun _ => fun
  | [d1, d2, d3] => { results := [.lit (.bool false)], args := [d1, d2, d3] }
  | _ => none }
def NoteFieldsWrongFalsely : Prop := noteFieldsRow.holds Tryz.pinned (OpenSpec.ofChange noteFieldsWrong)

/-- 'bastidelaw12.NoteChanges': WHATEVER THE INPUT: true; the input reads as it did. -/
def noteChangesSpec : ChangeSpec := { name := "noteChanges", fn := fun _ => fun
  | [d] => { results := [.lit (.bool true)], args := [d] }
  | _ => none }
def noteChangesRow : OpenClaim := { program := "ytkdoomglflikkaagreat", sum := "a403413ac50246127e374a5e2e353ea77531b10d0c860930a6fffea13d57f9d2", func := "bastide/bastidelaw12.NoteChanges", spec := "noteChanges", inPlace := ["internal/bytealg.Compare"], unfollowed := true, recurses := true, plainKeys := false, apart := false }
def NoteChangesSaid : Prop := noteChangesRow.holds Tryz.pinned (OpenSpec.ofChange noteChangesSpec)

/-- ITS FALSE NEIGHBOUR: 'it returns false'. Refute it at one input. -/
def noteChangesWrong : ChangeSpec := { name := "noteChanges", fn := fun _ => fun
  | [d] => { results := [.lit (.bool false)], args := [d] }
  | _ => none }
def NoteChangesWrongFalsely : Prop := noteChangesRow.holds Tryz.pinned (OpenSpec.ofChange noteChangesWrong)

/-- 'bastidelaw12.NoteNames': WHATEVER THE INPUT: true; the input reads as it did. -/
def noteNamesSpec : ChangeSpec := { name := "noteNames", fn := fun _ => fun
  | [] => { results := [.lit (.bool true)], args := [] }
  | _ => none }
def noteNamesRow : OpenClaim := { program := "ytkdoomglflikkaagreat", sum := "a403413ac50246127e374a5e2e353ea77531b10d0c860930a6fffea13d57f9d2", func := "bastide/bastidelaw12.NoteNames", spec := "noteNames", inPlace := ["internal/bytealg.Compare"], unfollowed := true, recurses := true, plainKeys := false, apart := false }
def NoteNamesSaid : Prop := noteNamesRow.holds Tryz.pinned (OpenSpec.ofChange noteNamesSpec)

/-- ITS FALSE NEIGHBOUR: 'it returns false'. Refute it at one input. -/
def noteNamesWrong : ChangeSpec := { name := "noteNames", fn := fun _ => fun
  | [] => { results := [.lit (.bool false)], args := [] }
  | _ => none }
def NoteNamesWrongFalsely : Prop := noteNamesRow.holds Tryz.pinned (OpenSpec.ofChange noteNamesWrong)

/- THE SECOND FORM. 'bulk': how many values and letters a reading holds, each counted each time it is reached (what is shared counts as often as it is met; a slice's spare places count too). A statement '..UptoSaid' is the law's where the arguments, and the package variables that the reading takes, are together of bulk at most 1048576: NARROWER than '..Said'. Prove '..Said' where nothing that the law and all that it calls make is longer than what came in: it says more and counts as full. Else prove '..UptoSaid'. A law counts once. -/
mutual
def uptoBulk {H : Type} : DataW H → Nat
  | .lit (.string bytes) => bytes.length + 1
  | .lit _ => 1
  | .nil => 1
  | .ptr d => uptoBulk d + 1
  | .slice elems spare => uptoBulkAll elems + uptoBulkAll spare + 1
  | .agg parts => uptoBulkAll parts + 1
  | .iface _ d => uptoBulk d + 1
  | .map entries => uptoBulkEntries entries + 1
  | .held _ => 1
def uptoBulkAll {H : Type} : List (DataW H) → Nat
  | [] => 0
  | d :: r => uptoBulk d + uptoBulkAll r
def uptoBulkEntries {H : Type} : List (Lit × DataW H) → Nat
  | [] => 0
  | x :: r => uptoBulkEntry x + uptoBulkEntries r
def uptoBulkEntry {H : Type} : Lit × DataW H → Nat
  | (.string bytes, d) => bytes.length + uptoBulk d + 1
  | (_, d) => uptoBulk d + 1
 end
def uptoSmall : (H : Type) → List (DataW H) → Bool := fun _ ds => decide (uptoBulkAll ds ≤ 1048576)
def OpenSpec.upto (s : _root_.Go.ChangeSpec) : _root_.Go.OpenSpec := { _root_.Go.OpenSpec.ofChange s with cond := some uptoSmall }

/-- 'bastidelaw12.NotePacks', WHERE WHAT IT READS IS OF BULK AT MOST 1048576: true; the input reads as it did. -/
def notePacksUptoRow : OpenClaim := { program := "ytkdoomglflikkaagreat", sum := "a403413ac50246127e374a5e2e353ea77531b10d0c860930a6fffea13d57f9d2", func := "bastide/bastidelaw12.NotePacks", spec := "notePacks", inPlace := ["internal/bytealg.Compare"], unfollowed := true, recurses := true, plainKeys := false, apart := false, narrowed := true }
def NotePacksUptoSaid : Prop := notePacksUptoRow.holds Tryz.pinned (OpenSpec.upto notePacksSpec)

/-- 'bastidelaw12.NoteReads', WHERE WHAT IT READS IS OF BULK AT MOST 1048576: true; the input reads as it did. -/
def noteReadsUptoRow : OpenClaim := { program := "ytkdoomglflikkaagreat", sum := "a403413ac50246127e374a5e2e353ea77531b10d0c860930a6fffea13d57f9d2", func := "bastide/bastidelaw12.NoteReads", spec := "noteReads", inPlace := ["internal/bytealg.Compare"], unfollowed := true, recurses := true, plainKeys := false, apart := false, narrowed := true }
def NoteReadsUptoSaid : Prop := noteReadsUptoRow.holds Tryz.pinned (OpenSpec.upto noteReadsSpec)

/-- 'bastidelaw12.NoteShort', WHERE WHAT IT READS IS OF BULK AT MOST 1048576: true; the input reads as it did. -/
def noteShortUptoRow : OpenClaim := { program := "ytkdoomglflikkaagreat", sum := "a403413ac50246127e374a5e2e353ea77531b10d0c860930a6fffea13d57f9d2", func := "bastide/bastidelaw12.NoteShort", spec := "noteShort", inPlace := ["internal/bytealg.Compare"], unfollowed := true, recurses := true, plainKeys := false, apart := false, narrowed := true }
def NoteShortUptoSaid : Prop := noteShortUptoRow.holds Tryz.pinned (OpenSpec.upto noteShortSpec)

/-- 'bastidelaw12.NoteUnlike', WHERE WHAT IT READS IS OF BULK AT MOST 1048576: true; the input reads as it did. -/
def noteUnlikeUptoRow : OpenClaim := { program := "ytkdoomglflikkaagreat", sum := "a403413ac50246127e374a5e2e353ea77531b10d0c860930a6fffea13d57f9d2", func := "bastide/bastidelaw12.NoteUnlike", spec := "noteUnlike", inPlace := ["internal/bytealg.Compare"], unfollowed := true, recurses := true, plainKeys := false, apart := false, narrowed := true }
def NoteUnlikeUptoSaid : Prop := noteUnlikeUptoRow.holds Tryz.pinned (OpenSpec.upto noteUnlikeSpec)

/-- 'bastidelaw12.NoteChecks', WHERE WHAT IT READS IS OF BULK AT MOST 1048576: true; the input reads as it did. -/
def noteChecksUptoRow : OpenClaim := { program := "ytkdoomglflikkaagreat", sum := "a403413ac50246127e374a5e2e353ea77531b10d0c860930a6fffea13d57f9d2", func := "bastide/bastidelaw12.NoteChecks", spec := "noteChecks", inPlace := ["internal/bytealg.Compare"], unfollowed := true, recurses := true, plainKeys := false, apart := false, narrowed := true }
def NoteChecksUptoSaid : Prop := noteChecksUptoRow.holds Tryz.pinned (OpenSpec.upto noteChecksSpec)

/-- 'bastidelaw12.NoteBack', WHERE WHAT IT READS IS OF BULK AT MOST 1048576: true; the input reads as it did. -/
def noteBackUptoRow : OpenClaim := { program := "ytkdoomglflikkaagreat", sum := "a403413ac50246127e374a5e2e353ea77531b10d0c860930a6fffea13d57f9d2", func := "bastide/bastidelaw12.NoteBack", spec := "noteBack", inPlace := ["internal/bytealg.Compare"], unfollowed := true, recurses := true, plainKeys := false, apart := false, narrowed := true }
def NoteBackUptoSaid : Prop := noteBackUptoRow.holds Tryz.pinned (OpenSpec.upto noteBackSpec)

/-- 'bastidelaw12.NoteOnce', WHERE WHAT IT READS IS OF BULK AT MOST 1048576: true; the input reads as it did. -/
def noteOnceUptoRow : OpenClaim := { program := "ytkdoomglflikkaagreat", sum := "a403413ac50246127e374a5e2e353ea77531b10d0c860930a6fffea13d57f9d2", func := "bastide/bastidelaw12.NoteOnce", spec := "noteOnce", inPlace := ["internal/bytealg.Compare"], unfollowed := true, recurses := true, plainKeys := false, apart := false, narrowed := true }
def NoteOnceUptoSaid : Prop := noteOnceUptoRow.holds Tryz.pinned (OpenSpec.upto noteOnceSpec)

/-- 'bastidelaw12.NoteFields', WHERE WHAT IT READS IS OF BULK AT MOST 1048576: true; the input reads as it did. -/
def noteFieldsUptoRow : OpenClaim := { program := "ytkdoomglflikkaagreat", sum := "a403413ac50246127e374a5e2e353ea77531b10d0c860930a6fffea13d57f9d2", func := "bastide/bastidelaw12.NoteFields", spec := "noteFields", inPlace := ["internal/bytealg.Compare"], unfollowed := true, recurses := true, plainKeys := false, apart := false, narrowed := true }
def NoteFieldsUptoSaid : Prop := noteFieldsUptoRow.holds Tryz.pinned (OpenSpec.upto noteFieldsSpec)

/-- 'bastidelaw12.NoteChanges', WHERE WHAT IT READS IS OF BULK AT MOST 1048576: true; the input reads as it did. -/
def noteChangesUptoRow : OpenClaim := { program := "ytkdoomglflikkaagreat", sum := "a403413ac50246127e374a5e2e353ea77531b10d0c860930a6fffea13d57f9d2", func := "bastide/bastidelaw12.NoteChanges", spec := "noteChanges", inPlace := ["internal/bytealg.Compare"], unfollowed := true, recurses := true, plainKeys := false, apart := false, narrowed := true }
def NoteChangesUptoSaid : Prop := noteChangesUptoRow.holds Tryz.pinned (OpenSpec.upto noteChangesSpec)

/-- 'bastidelaw12.NoteNames', WHERE WHAT IT READS IS OF BULK AT MOST 1048576: true; the input reads as it did. -/
def noteNamesUptoRow : OpenClaim := { program := "ytkdoomglflikkaagreat", sum := "a403413ac50246127e374a5e2e353ea77531b10d0c860930a6fffea13d57f9d2", func := "bastide/bastidelaw12.NoteNames", spec := "noteNames", inPlace := ["internal/bytealg.Compare"], unfollowed := true, recurses := true, plainKeys := false, apart := false, narrowed := true }
def NoteNamesUptoSaid : Prop := noteNamesUptoRow.holds Tryz.pinned (OpenSpec.upto noteNamesSpec)

end Rows
end Go.Proofs.YtkdoomglflikkaaGreat
