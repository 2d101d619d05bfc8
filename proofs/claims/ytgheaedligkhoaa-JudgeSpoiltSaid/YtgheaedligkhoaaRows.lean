/-
  No cell of these rows narrows 'for every input' (looked for: loops, veiled, ifaces, maps, wideKeys, modest, calm, conditions, laid).
  DERIVED. THE GIVEN ROWS OF THIS SEAT. 6 by the template 'for every input the law returns true; each argument reads behind the call as it read before'; 0 by the template 'total and deterministic' (their statements: YtgheaedligkhoaaTotals.lean).
  GIVEN WITH THE SEED: the statements are not yours to turn. If you find one false, say at which input.
  Laid BY PROGRAM, IN A SANDBOX (cutbox-rows.mjs): the forced cells as the released guide's own fill.sh prints them over the translation 0b583b402924d5ef… (all of the seat's roots in one cut). By AI agents, Wed Nov 11 2026. No macro, syntax, notation, axiom, sorry.
-/
import Derived.Test.YtgheaedligkhoaaChecked
import GoSem.Claim
import GoSem.ClaimJoined
import GoSem.ClaimMapViews
import Derived.JoinedTies
import Derived.KernelRfl
namespace Go.Proofs.Ytgheaedligkhoaa
/- THE CELL 'sum', in the pinned program and in every row, IS THE sha256 OF THE DUMP (.gsa) THAT YtgheaedligkhoaaProg.lean LOADS. Nothing in Lean hashes anything: it is a label: what it is worth is what the hold of that sum in a sandbox is worth. -/
noncomputable def Try.pinned : Pinned := { name := "ytgheaedligkhoaa", sum := "0b583b402924d5ef899d01a5d119bbf5dc76d37d3451b5999c05267c6a45ed79", checked := Try.checked }
namespace Rows
def none {H : Type} : Left H := { results := [], args := [] }

/-- 'bastidelaw29.JudgeFinds': WHATEVER THE INPUT: true; the input reads as it did. -/
def judgeFindsSpec : ChangeSpec := { name := "judgeFinds", fn := fun _ => fun
  | [d1, d2] => { results := [.lit (.bool true)], args := [d1, d2] }
  | _ => none }
def judgeFindsRow : OpenClaim := { program := "ytgheaedligkhoaa", sum := "0b583b402924d5ef899d01a5d119bbf5dc76d37d3451b5999c05267c6a45ed79", func := "bastide/bastidelaw29.JudgeFinds", spec := "judgeFinds", unfollowed := true, recurses := true, plainKeys := false, apart := false }
def JudgeFindsSaid : Prop := judgeFindsRow.holds Try.pinned (OpenSpec.ofChange judgeFindsSpec)

/-- ITS FALSE NEIGHBOUR: 'it returns false'. Refute it at one input. -/
def judgeFindsWrong : ChangeSpec := { name := "judgeFinds", fn := fun _ => fun
  | [d1, d2] => { results := [.lit (.bool false)], args := [d1, d2] }
  | _ => none }
def JudgeFindsWrongFalsely : Prop := judgeFindsRow.holds Try.pinned (OpenSpec.ofChange judgeFindsWrong)

/-- 'bastidelaw29.JudgeWell': WHATEVER THE INPUT: true; the input reads as it did. -/
def judgeWellSpec : ChangeSpec := { name := "judgeWell", fn := fun _ => fun
  | [d] => { results := [.lit (.bool true)], args := [d] }
  | _ => none }
def judgeWellRow : OpenClaim := { program := "ytgheaedligkhoaa", sum := "0b583b402924d5ef899d01a5d119bbf5dc76d37d3451b5999c05267c6a45ed79", func := "bastide/bastidelaw29.JudgeWell", spec := "judgeWell", unfollowed := true, recurses := true, plainKeys := false, apart := false }
def JudgeWellSaid : Prop := judgeWellRow.holds Try.pinned (OpenSpec.ofChange judgeWellSpec)

/-- ITS FALSE NEIGHBOUR: 'it returns false'. Refute it at one input. -/
def judgeWellWrong : ChangeSpec := { name := "judgeWell", fn := fun _ => fun
  | [d] => { results := [.lit (.bool false)], args := [d] }
  | _ => none }
def JudgeWellWrongFalsely : Prop := judgeWellRow.holds Try.pinned (OpenSpec.ofChange judgeWellWrong)

/-- 'bastidelaw29.JudgeSpoilt': WHATEVER THE INPUT: true; the input reads as it did. -/
def judgeSpoiltSpec : ChangeSpec := { name := "judgeSpoilt", fn := fun _ => fun
  | [d1, d2, d3] => { results := [.lit (.bool true)], args := [d1, d2, d3] }
  | _ => none }
def judgeSpoiltRow : OpenClaim := { program := "ytgheaedligkhoaa", sum := "0b583b402924d5ef899d01a5d119bbf5dc76d37d3451b5999c05267c6a45ed79", func := "bastide/bastidelaw29.JudgeSpoilt", spec := "judgeSpoilt", unfollowed := true, recurses := true, plainKeys := false, apart := false }
def JudgeSpoiltSaid : Prop := judgeSpoiltRow.holds Try.pinned (OpenSpec.ofChange judgeSpoiltSpec)

/-- ITS FALSE NEIGHBOUR: 'it returns false'. Refute it at one input. -/
def judgeSpoiltWrong : ChangeSpec := { name := "judgeSpoilt", fn := fun _ => fun
  | [d1, d2, d3] => { results := [.lit (.bool false)], args := [d1, d2, d3] }
  | _ => none }
def JudgeSpoiltWrongFalsely : Prop := judgeSpoiltRow.holds Try.pinned (OpenSpec.ofChange judgeSpoiltWrong)

/-- 'bastidelaw29.JudgeAhead': WHATEVER THE INPUT: true; the input reads as it did. -/
def judgeAheadSpec : ChangeSpec := { name := "judgeAhead", fn := fun _ => fun
  | [d1, d2, d3] => { results := [.lit (.bool true)], args := [d1, d2, d3] }
  | _ => none }
def judgeAheadRow : OpenClaim := { program := "ytgheaedligkhoaa", sum := "0b583b402924d5ef899d01a5d119bbf5dc76d37d3451b5999c05267c6a45ed79", func := "bastide/bastidelaw29.JudgeAhead", spec := "judgeAhead", unfollowed := true, recurses := true, plainKeys := false, apart := false }
def JudgeAheadSaid : Prop := judgeAheadRow.holds Try.pinned (OpenSpec.ofChange judgeAheadSpec)

/-- ITS FALSE NEIGHBOUR: 'it returns false'. Refute it at one input. -/
def judgeAheadWrong : ChangeSpec := { name := "judgeAhead", fn := fun _ => fun
  | [d1, d2, d3] => { results := [.lit (.bool false)], args := [d1, d2, d3] }
  | _ => none }
def JudgeAheadWrongFalsely : Prop := judgeAheadRow.holds Try.pinned (OpenSpec.ofChange judgeAheadWrong)

/-- 'bastidelaw29.JudgeLine': WHATEVER THE INPUT: true; the input reads as it did. -/
def judgeLineSpec : ChangeSpec := { name := "judgeLine", fn := fun _ => fun
  | [d] => { results := [.lit (.bool true)], args := [d] }
  | _ => none }
def judgeLineRow : OpenClaim := { program := "ytgheaedligkhoaa", sum := "0b583b402924d5ef899d01a5d119bbf5dc76d37d3451b5999c05267c6a45ed79", func := "bastide/bastidelaw29.JudgeLine", spec := "judgeLine", unfollowed := true, recurses := true, plainKeys := false, apart := false }
def JudgeLineSaid : Prop := judgeLineRow.holds Try.pinned (OpenSpec.ofChange judgeLineSpec)

/-- ITS FALSE NEIGHBOUR: 'it returns false'. Refute it at one input. -/
def judgeLineWrong : ChangeSpec := { name := "judgeLine", fn := fun _ => fun
  | [d] => { results := [.lit (.bool false)], args := [d] }
  | _ => none }
def JudgeLineWrongFalsely : Prop := judgeLineRow.holds Try.pinned (OpenSpec.ofChange judgeLineWrong)

/-- 'bastidelaw29.JudgeKnown': WHATEVER THE INPUT: true; the input reads as it did. -/
def judgeKnownSpec : ChangeSpec := { name := "judgeKnown", fn := fun _ => fun
  | [] => { results := [.lit (.bool true)], args := [] }
  | _ => none }
def judgeKnownRow : OpenClaim := { program := "ytgheaedligkhoaa", sum := "0b583b402924d5ef899d01a5d119bbf5dc76d37d3451b5999c05267c6a45ed79", func := "bastide/bastidelaw29.JudgeKnown", spec := "judgeKnown", unfollowed := true, recurses := true, plainKeys := false, apart := false }
def JudgeKnownSaid : Prop := judgeKnownRow.holds Try.pinned (OpenSpec.ofChange judgeKnownSpec)

/-- ITS FALSE NEIGHBOUR: 'it returns false'. Refute it at one input. -/
def judgeKnownWrong : ChangeSpec := { name := "judgeKnown", fn := fun _ => fun
  | [] => { results := [.lit (.bool false)], args := [] }
  | _ => none }
def JudgeKnownWrongFalsely : Prop := judgeKnownRow.holds Try.pinned (OpenSpec.ofChange judgeKnownWrong)

/- THE SECOND FORM. 'bulk': how many values and letters a reading holds, each counted each time it is reached (what is shared counts as often as it is met; a slice's spare places count too). A statement '..UptoSaid' is the law's where the arguments, and the package variables that the reading takes, are together of bulk at most 1048576: NARROWER than '..Said'. Prove '..Said' where nothing that the law and all that it calls make is longer than what came in: it says more and counts as full. Else prove '..UptoSaid'. A law counts once. -/
mutual
def uptoBulk {H : Type} : DataW H → Nat
  | .lit (.string bytes) => bytes.length + 1
  | .lit _ => 1
  | .nil => 1
  | .ptr d => uptoBulk d + 1
  | .slice elems spare => uptoBulkAll elems + uptoBulkAll spare + 1
  | .agg parts => uptoBulkAll parts + 1
  | .iface _ d => uptoBulk d + 1
  | .map entries => uptoBulkEntries entries + 1
  | .held _ => 1
def uptoBulkAll {H : Type} : List (DataW H) → Nat
  | [] => 0
  | d :: r => uptoBulk d + uptoBulkAll r
def uptoBulkEntries {H : Type} : List (Lit × DataW H) → Nat
  | [] => 0
  | x :: r => uptoBulkEntry x + uptoBulkEntries r
def uptoBulkEntry {H : Type} : Lit × DataW H → Nat
  | (.string bytes, d) => bytes.length + uptoBulk d + 1
  | (_, d) => uptoBulk d + 1
 end
def uptoSmall : (H : Type) → List (DataW H) → Bool := fun _ ds => decide (uptoBulkAll ds ≤ 1048576)
def OpenSpec.upto (s : _root_.Go.ChangeSpec) : _root_.Go.OpenSpec := { _root_.Go.OpenSpec.ofChange s with cond := some uptoSmall }

/-- 'bastidelaw29.JudgeFinds', WHERE WHAT IT READS IS OF BULK AT MOST 1048576: true; the input reads as it did. -/
def judgeFindsUptoRow : OpenClaim := { program := "ytgheaedligkhoaa", sum := "0b583b402924d5ef899d01a5d119bbf5dc76d37d3451b5999c05267c6a45ed79", func := "bastide/bastidelaw29.JudgeFinds", spec := "judgeFinds", unfollowed := true, recurses := true, plainKeys := false, apart := false, narrowed := true }
def JudgeFindsUptoSaid : Prop := judgeFindsUptoRow.holds Try.pinned (OpenSpec.upto judgeFindsSpec)

/-- 'bastidelaw29.JudgeWell', WHERE WHAT IT READS IS OF BULK AT MOST 1048576: true; the input reads as it did. -/
def judgeWellUptoRow : OpenClaim := { program := "ytgheaedligkhoaa", sum := "0b583b402924d5ef899d01a5d119bbf5dc76d37d3451b5999c05267c6a45ed79", func := "bastide/bastidelaw29.JudgeWell", spec := "judgeWell", unfollowed := true, recurses := true, plainKeys := false, apart := false, narrowed := true }
def JudgeWellUptoSaid : Prop := judgeWellUptoRow.holds Try.pinned (OpenSpec.upto judgeWellSpec)

/-- 'bastidelaw29.JudgeSpoilt', WHERE WHAT IT READS IS OF BULK AT MOST 1048576: true; the input reads as it did. -/
def judgeSpoiltUptoRow : OpenClaim := { program := "ytgheaedligkhoaa", sum := "0b583b402924d5ef899d01a5d119bbf5dc76d37d3451b5999c05267c6a45ed79", func := "bastide/bastidelaw29.JudgeSpoilt", spec := "judgeSpoilt", unfollowed := true, recurses := true, plainKeys := false, apart := false, narrowed := true }
def JudgeSpoiltUptoSaid : Prop := judgeSpoiltUptoRow.holds Try.pinned (OpenSpec.upto judgeSpoiltSpec)

/-- 'bastidelaw29.JudgeAhead', WHERE WHAT IT READS IS OF BULK AT MOST 1048576: true; the input reads as it did. -/
def judgeAheadUptoRow : OpenClaim := { program := "ytgheaedligkhoaa", sum := "0b583b402924d5ef899d01a5d119bbf5dc76d37d3451b5999c05267c6a45ed79", func := "bastide/bastidelaw29.JudgeAhead", spec := "judgeAhead", unfollowed := true, recurses := true, plainKeys := false, apart := false, narrowed := true }
def JudgeAheadUptoSaid : Prop := judgeAheadUptoRow.holds Try.pinned (OpenSpec.upto judgeAheadSpec)

/-- 'bastidelaw29.JudgeLine', WHERE WHAT IT READS IS OF BULK AT MOST 1048576: true; the input reads as it did. -/
def judgeLineUptoRow : OpenClaim := { program := "ytgheaedligkhoaa", sum := "0b583b402924d5ef899d01a5d119bbf5dc76d37d3451b5999c05267c6a45ed79", func := "bastide/bastidelaw29.JudgeLine", spec := "judgeLine", unfollowed := true, recurses := true, plainKeys := false, apart := false, narrowed := true }
def JudgeLineUptoSaid : Prop := judgeLineUptoRow.holds Try.pinned (OpenSpec.upto judgeLineSpec)

/-- 'bastidelaw29.JudgeKnown', WHERE WHAT IT READS IS OF BULK AT MOST 1048576: true; the input reads as it did. -/
def judgeKnownUptoRow : OpenClaim := { program := "ytgheaedligkhoaa", sum := "0b583b402924d5ef899d01a5d119bbf5dc76d37d3451b5999c05267c6a45ed79", func := "bastide/bastidelaw29.JudgeKnown", spec := "judgeKnown", unfollowed := true, recurses := true, plainKeys := false, apart := false, narrowed := true }
def JudgeKnownUptoSaid : Prop := judgeKnownUptoRow.holds Try.pinned (OpenSpec.upto judgeKnownSpec)

end Rows
end Go.Proofs.Ytgheaedligkhoaa
