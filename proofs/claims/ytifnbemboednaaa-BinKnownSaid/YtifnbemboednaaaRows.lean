/-
  No cell of these rows narrows 'for every input' (looked for: loops, veiled, ifaces, maps, wideKeys, modest, calm, conditions, laid).
  DERIVED. THE GIVEN ROWS OF THIS SEAT. 14 by the template 'for every input the law returns true; each argument reads behind the call as it read before'; 0 by the template 'total and deterministic' (their statements: YtifnbemboednaaaTotals.lean).
  GIVEN WITH THE SEED: the statements are not yours to turn. If you find one false, say at which input.
  Laid BY PROGRAM, IN A SANDBOX (cutbox-rows.mjs): the forced cells as the released guide's own fill.sh prints them over the translation 6708c4d40f2872f9… (all of the seat's roots in one cut). By AI agents, Wed Nov 11 2026. No macro, syntax, notation, axiom, sorry.
-/
import Derived.Test.YtifnbemboednaaaChecked
import GoSem.Claim
import GoSem.ClaimJoined
import GoSem.ClaimMapViews
import Derived.JoinedTies
import Derived.KernelRfl
namespace Go.Proofs.Ytifnbemboednaaa
/- THE CELL 'sum', in the pinned program and in every row, IS THE sha256 OF THE DUMP (.gsa) THAT YtifnbemboednaaaProg.lean LOADS. Nothing in Lean hashes anything: it is a label: what it is worth is what the hold of that sum in a sandbox is worth. -/
noncomputable def Try.pinned : Pinned := { name := "ytifnbemboednaaa", sum := "6708c4d40f2872f970497b0055e7ebadd9d58e0f446685c74504af7291cc93d9", checked := Try.checked }
namespace Rows
def none {H : Type} : Left H := { results := [], args := [] }

/-- 'bastidelaw01.BinNum': WHATEVER THE INPUT: true; the input reads as it did. -/
def binNumSpec : ChangeSpec := { name := "binNum", fn := fun _ => fun
  | [d1, d2] => { results := [.lit (.bool true)], args := [d1, d2] }
  | _ => none }
def binNumRow : OpenClaim := { program := "ytifnbemboednaaa", sum := "6708c4d40f2872f970497b0055e7ebadd9d58e0f446685c74504af7291cc93d9", func := "bastide/bastidelaw01.BinNum", spec := "binNum", apart := false }
def BinNumSaid : Prop := binNumRow.holds Try.pinned (OpenSpec.ofChange binNumSpec)

/-- ITS FALSE NEIGHBOUR: 'it returns false'. Refute it at one input. -/
def binNumWrong : ChangeSpec := { name := "binNum", fn := fun _ => fun
  | [d1, d2] => { results := [.lit (.bool false)], args := [d1, d2] }
  | _ => none }
def BinNumWrongFalsely : Prop := binNumRow.holds Try.pinned (OpenSpec.ofChange binNumWrong)

/-- 'bastidelaw01.BinStr': WHATEVER THE INPUT: true; the input reads as it did. -/
def binStrSpec : ChangeSpec := { name := "binStr", fn := fun _ => fun
  | [d1, d2] => { results := [.lit (.bool true)], args := [d1, d2] }
  | _ => none }
def binStrRow : OpenClaim := { program := "ytifnbemboednaaa", sum := "6708c4d40f2872f970497b0055e7ebadd9d58e0f446685c74504af7291cc93d9", func := "bastide/bastidelaw01.BinStr", spec := "binStr", apart := false }
def BinStrSaid : Prop := binStrRow.holds Try.pinned (OpenSpec.ofChange binStrSpec)

/-- ITS FALSE NEIGHBOUR: 'it returns false'. Refute it at one input. -/
def binStrWrong : ChangeSpec := { name := "binStr", fn := fun _ => fun
  | [d1, d2] => { results := [.lit (.bool false)], args := [d1, d2] }
  | _ => none }
def BinStrWrongFalsely : Prop := binStrRow.holds Try.pinned (OpenSpec.ofChange binStrWrong)

/-- 'bastidelaw01.BinFix': WHATEVER THE INPUT: true; the input reads as it did. -/
def binFixSpec : ChangeSpec := { name := "binFix", fn := fun _ => fun
  | [d1, d2] => { results := [.lit (.bool true)], args := [d1, d2] }
  | _ => none }
def binFixRow : OpenClaim := { program := "ytifnbemboednaaa", sum := "6708c4d40f2872f970497b0055e7ebadd9d58e0f446685c74504af7291cc93d9", func := "bastide/bastidelaw01.BinFix", spec := "binFix", apart := false }
def BinFixSaid : Prop := binFixRow.holds Try.pinned (OpenSpec.ofChange binFixSpec)

/-- ITS FALSE NEIGHBOUR: 'it returns false'. Refute it at one input. -/
def binFixWrong : ChangeSpec := { name := "binFix", fn := fun _ => fun
  | [d1, d2] => { results := [.lit (.bool false)], args := [d1, d2] }
  | _ => none }
def BinFixWrongFalsely : Prop := binFixRow.holds Try.pinned (OpenSpec.ofChange binFixWrong)

/-- 'bastidelaw01.BinJoin': WHATEVER THE INPUT: true; the input reads as it did. -/
def binJoinSpec : ChangeSpec := { name := "binJoin", fn := fun _ => fun
  | [d1, d2, d3] => { results := [.lit (.bool true)], args := [d1, d2, d3] }
  | _ => none }
def binJoinRow : OpenClaim := { program := "ytifnbemboednaaa", sum := "6708c4d40f2872f970497b0055e7ebadd9d58e0f446685c74504af7291cc93d9", func := "bastide/bastidelaw01.BinJoin", spec := "binJoin", apart := false }
def BinJoinSaid : Prop := binJoinRow.holds Try.pinned (OpenSpec.ofChange binJoinSpec)

/-- ITS FALSE NEIGHBOUR: 'it returns false'. Refute it at one input. -/
def binJoinWrong : ChangeSpec := { name := "binJoin", fn := fun _ => fun
  | [d1, d2, d3] => { results := [.lit (.bool false)], args := [d1, d2, d3] }
  | _ => none }
def BinJoinWrongFalsely : Prop := binJoinRow.holds Try.pinned (OpenSpec.ofChange binJoinWrong)

/-- 'bastidelaw01.BinBack': WHATEVER THE INPUT: true; the input reads as it did. -/
def binBackSpec : ChangeSpec := { name := "binBack", fn := fun _ => fun
  | [d1, d2] => { results := [.lit (.bool true)], args := [d1, d2] }
  | _ => none }
def binBackRow : OpenClaim := { program := "ytifnbemboednaaa", sum := "6708c4d40f2872f970497b0055e7ebadd9d58e0f446685c74504af7291cc93d9", func := "bastide/bastidelaw01.BinBack", spec := "binBack", apart := false }
def BinBackSaid : Prop := binBackRow.holds Try.pinned (OpenSpec.ofChange binBackSpec)

/-- ITS FALSE NEIGHBOUR: 'it returns false'. Refute it at one input. -/
def binBackWrong : ChangeSpec := { name := "binBack", fn := fun _ => fun
  | [d1, d2] => { results := [.lit (.bool false)], args := [d1, d2] }
  | _ => none }
def BinBackWrongFalsely : Prop := binBackRow.holds Try.pinned (OpenSpec.ofChange binBackWrong)

/-- 'bastidelaw01.BinAgain': WHATEVER THE INPUT: true; the input reads as it did. -/
def binAgainSpec : ChangeSpec := { name := "binAgain", fn := fun _ => fun
  | [d] => { results := [.lit (.bool true)], args := [d] }
  | _ => none }
def binAgainRow : OpenClaim := { program := "ytifnbemboednaaa", sum := "6708c4d40f2872f970497b0055e7ebadd9d58e0f446685c74504af7291cc93d9", func := "bastide/bastidelaw01.BinAgain", spec := "binAgain", apart := false }
def BinAgainSaid : Prop := binAgainRow.holds Try.pinned (OpenSpec.ofChange binAgainSpec)

/-- ITS FALSE NEIGHBOUR: 'it returns false'. Refute it at one input. -/
def binAgainWrong : ChangeSpec := { name := "binAgain", fn := fun _ => fun
  | [d] => { results := [.lit (.bool false)], args := [d] }
  | _ => none }
def BinAgainWrongFalsely : Prop := binAgainRow.holds Try.pinned (OpenSpec.ofChange binAgainWrong)

/-- 'bastidelaw01.BinTexts': WHATEVER THE INPUT: true; the input reads as it did. -/
def binTextsSpec : ChangeSpec := { name := "binTexts", fn := fun _ => fun
  | [d1, d2, d3] => { results := [.lit (.bool true)], args := [d1, d2, d3] }
  | _ => none }
def binTextsRow : OpenClaim := { program := "ytifnbemboednaaa", sum := "6708c4d40f2872f970497b0055e7ebadd9d58e0f446685c74504af7291cc93d9", func := "bastide/bastidelaw01.BinTexts", spec := "binTexts", apart := false }
def BinTextsSaid : Prop := binTextsRow.holds Try.pinned (OpenSpec.ofChange binTextsSpec)

/-- ITS FALSE NEIGHBOUR: 'it returns false'. Refute it at one input. -/
def binTextsWrong : ChangeSpec := { name := "binTexts", fn := fun _ => fun
  | [d1, d2, d3] => { results := [.lit (.bool false)], args := [d1, d2, d3] }
  | _ => none }
def BinTextsWrongFalsely : Prop := binTextsRow.holds Try.pinned (OpenSpec.ofChange binTextsWrong)

/-- 'bastidelaw01.BinTaken': WHATEVER THE INPUT: true; the input reads as it did. -/
def binTakenSpec : ChangeSpec := { name := "binTaken", fn := fun _ => fun
  | [d1, d2] => { results := [.lit (.bool true)], args := [d1, d2] }
  | _ => none }
def binTakenRow : OpenClaim := { program := "ytifnbemboednaaa", sum := "6708c4d40f2872f970497b0055e7ebadd9d58e0f446685c74504af7291cc93d9", func := "bastide/bastidelaw01.BinTaken", spec := "binTaken", apart := false }
def BinTakenSaid : Prop := binTakenRow.holds Try.pinned (OpenSpec.ofChange binTakenSpec)

/-- ITS FALSE NEIGHBOUR: 'it returns false'. Refute it at one input. -/
def binTakenWrong : ChangeSpec := { name := "binTaken", fn := fun _ => fun
  | [d1, d2] => { results := [.lit (.bool false)], args := [d1, d2] }
  | _ => none }
def BinTakenWrongFalsely : Prop := binTakenRow.holds Try.pinned (OpenSpec.ofChange binTakenWrong)

/-- 'bastidelaw01.BinPrefix': WHATEVER THE INPUT: true; the input reads as it did. -/
def binPrefixSpec : ChangeSpec := { name := "binPrefix", fn := fun _ => fun
  | [d1, d2] => { results := [.lit (.bool true)], args := [d1, d2] }
  | _ => none }
def binPrefixRow : OpenClaim := { program := "ytifnbemboednaaa", sum := "6708c4d40f2872f970497b0055e7ebadd9d58e0f446685c74504af7291cc93d9", func := "bastide/bastidelaw01.BinPrefix", spec := "binPrefix", apart := false }
def BinPrefixSaid : Prop := binPrefixRow.holds Try.pinned (OpenSpec.ofChange binPrefixSpec)

/-- ITS FALSE NEIGHBOUR: 'it returns false'. Refute it at one input. -/
def binPrefixWrong : ChangeSpec := { name := "binPrefix", fn := fun _ => fun
  | [d1, d2] => { results := [.lit (.bool false)], args := [d1, d2] }
  | _ => none }
def BinPrefixWrongFalsely : Prop := binPrefixRow.holds Try.pinned (OpenSpec.ofChange binPrefixWrong)

/-- 'bastidelaw01.BinOrder': WHATEVER THE INPUT: true; the input reads as it did. -/
def binOrderSpec : ChangeSpec := { name := "binOrder", fn := fun _ => fun
  | [d1, d2] => { results := [.lit (.bool true)], args := [d1, d2] }
  | _ => none }
def binOrderRow : OpenClaim := { program := "ytifnbemboednaaa", sum := "6708c4d40f2872f970497b0055e7ebadd9d58e0f446685c74504af7291cc93d9", func := "bastide/bastidelaw01.BinOrder", spec := "binOrder", apart := false }
def BinOrderSaid : Prop := binOrderRow.holds Try.pinned (OpenSpec.ofChange binOrderSpec)

/-- ITS FALSE NEIGHBOUR: 'it returns false'. Refute it at one input. -/
def binOrderWrong : ChangeSpec := { name := "binOrder", fn := fun _ => fun
  | [d1, d2] => { results := [.lit (.bool false)], args := [d1, d2] }
  | _ => none }
def BinOrderWrongFalsely : Prop := binOrderRow.holds Try.pinned (OpenSpec.ofChange binOrderWrong)

/-- 'bastidelaw01.BinShort': WHATEVER THE INPUT: true; the input reads as it did. -/
def binShortSpec : ChangeSpec := { name := "binShort", fn := fun _ => fun
  | [d1, d2] => { results := [.lit (.bool true)], args := [d1, d2] }
  | _ => none }
def binShortRow : OpenClaim := { program := "ytifnbemboednaaa", sum := "6708c4d40f2872f970497b0055e7ebadd9d58e0f446685c74504af7291cc93d9", func := "bastide/bastidelaw01.BinShort", spec := "binShort", apart := false }
def BinShortSaid : Prop := binShortRow.holds Try.pinned (OpenSpec.ofChange binShortSpec)

/-- ITS FALSE NEIGHBOUR: 'it returns false'. Refute it at one input. -/
def binShortWrong : ChangeSpec := { name := "binShort", fn := fun _ => fun
  | [d1, d2] => { results := [.lit (.bool false)], args := [d1, d2] }
  | _ => none }
def BinShortWrongFalsely : Prop := binShortRow.holds Try.pinned (OpenSpec.ofChange binShortWrong)

/-- 'bastidelaw01.BinParts': WHATEVER THE INPUT: true; the input reads as it did. -/
def binPartsSpec : ChangeSpec := { name := "binParts", fn := fun _ => fun
  | [d1, d2] => { results := [.lit (.bool true)], args := [d1, d2] }
  | _ => none }
def binPartsRow : OpenClaim := { program := "ytifnbemboednaaa", sum := "6708c4d40f2872f970497b0055e7ebadd9d58e0f446685c74504af7291cc93d9", func := "bastide/bastidelaw01.BinParts", spec := "binParts", apart := false }
def BinPartsSaid : Prop := binPartsRow.holds Try.pinned (OpenSpec.ofChange binPartsSpec)

/-- ITS FALSE NEIGHBOUR: 'it returns false'. Refute it at one input. -/
def binPartsWrong : ChangeSpec := { name := "binParts", fn := fun _ => fun
  | [d1, d2] => { results := [.lit (.bool false)], args := [d1, d2] }
  | _ => none }
def BinPartsWrongFalsely : Prop := binPartsRow.holds Try.pinned (OpenSpec.ofChange binPartsWrong)

/-- 'bastidelaw01.BinJoins': WHATEVER THE INPUT: true; the input reads as it did. -/
def binJoinsSpec : ChangeSpec := { name := "binJoins", fn := fun _ => fun
  | [d1, d2, d3] => { results := [.lit (.bool true)], args := [d1, d2, d3] }
  | _ => none }
def binJoinsRow : OpenClaim := { program := "ytifnbemboednaaa", sum := "6708c4d40f2872f970497b0055e7ebadd9d58e0f446685c74504af7291cc93d9", func := "bastide/bastidelaw01.BinJoins", spec := "binJoins", apart := false }
def BinJoinsSaid : Prop := binJoinsRow.holds Try.pinned (OpenSpec.ofChange binJoinsSpec)

/-- ITS FALSE NEIGHBOUR: 'it returns false'. Refute it at one input. -/
def binJoinsWrong : ChangeSpec := { name := "binJoins", fn := fun _ => fun
  | [d1, d2, d3] => { results := [.lit (.bool false)], args := [d1, d2, d3] }
  | _ => none }
def BinJoinsWrongFalsely : Prop := binJoinsRow.holds Try.pinned (OpenSpec.ofChange binJoinsWrong)

/-- 'bastidelaw01.BinKnown': WHATEVER THE INPUT: true; the input reads as it did. -/
def binKnownSpec : ChangeSpec := { name := "binKnown", fn := fun _ => fun
  | [] => { results := [.lit (.bool true)], args := [] }
  | _ => none }
def binKnownRow : OpenClaim := { program := "ytifnbemboednaaa", sum := "6708c4d40f2872f970497b0055e7ebadd9d58e0f446685c74504af7291cc93d9", func := "bastide/bastidelaw01.BinKnown", spec := "binKnown", apart := false }
def BinKnownSaid : Prop := binKnownRow.holds Try.pinned (OpenSpec.ofChange binKnownSpec)

/-- ITS FALSE NEIGHBOUR: 'it returns false'. Refute it at one input. -/
def binKnownWrong : ChangeSpec := { name := "binKnown", fn := fun _ => fun
  | [] => { results := [.lit (.bool false)], args := [] }
  | _ => none }
def BinKnownWrongFalsely : Prop := binKnownRow.holds Try.pinned (OpenSpec.ofChange binKnownWrong)

/- THE SECOND FORM. 'bulk': how many values and letters a reading holds, each counted each time it is reached (what is shared counts as often as it is met; a slice's spare places count too). A statement '..UptoSaid' is the law's where the arguments, and the package variables that the reading takes, are together of bulk at most 1048576: NARROWER than '..Said'. Prove '..Said' where nothing that the law and all that it calls make is longer than what came in: it says more and counts as full. Else prove '..UptoSaid'. A law counts once. -/
mutual
def uptoBulk {H : Type} : DataW H → Nat
  | .lit (.string bytes) => bytes.length + 1
  | .lit _ => 1
  | .nil => 1
  | .ptr d => uptoBulk d + 1
  | .slice elems spare => uptoBulkAll elems + uptoBulkAll spare + 1
  | .agg parts => uptoBulkAll parts + 1
  | .iface _ d => uptoBulk d + 1
  | .map entries => uptoBulkEntries entries + 1
  | .held _ => 1
def uptoBulkAll {H : Type} : List (DataW H) → Nat
  | [] => 0
  | d :: r => uptoBulk d + uptoBulkAll r
def uptoBulkEntries {H : Type} : List (Lit × DataW H) → Nat
  | [] => 0
  | x :: r => uptoBulkEntry x + uptoBulkEntries r
def uptoBulkEntry {H : Type} : Lit × DataW H → Nat
  | (.string bytes, d) => bytes.length + uptoBulk d + 1
  | (_, d) => uptoBulk d + 1
 end
def uptoSmall : (H : Type) → List (DataW H) → Bool := fun _ ds => decide (uptoBulkAll ds ≤ 1048576)
def OpenSpec.upto (s : _root_.Go.ChangeSpec) : _root_.Go.OpenSpec := { _root_.Go.OpenSpec.ofChange s with cond := some uptoSmall }

/-- 'bastidelaw01.BinNum', WHERE WHAT IT READS IS OF BULK AT MOST 1048576: true; the input reads as it did. -/
def binNumUptoRow : OpenClaim := { program := "ytifnbemboednaaa", sum := "6708c4d40f2872f970497b0055e7ebadd9d58e0f446685c74504af7291cc93d9", func := "bastide/bastidelaw01.BinNum", spec := "binNum", apart := false, narrowed := true }
def BinNumUptoSaid : Prop := binNumUptoRow.holds Try.pinned (OpenSpec.upto binNumSpec)

/-- 'bastidelaw01.BinStr', WHERE WHAT IT READS IS OF BULK AT MOST 1048576: true; the input reads as it did. -/
def binStrUptoRow : OpenClaim := { program := "ytifnbemboednaaa", sum := "6708c4d40f2872f970497b0055e7ebadd9d58e0f446685c74504af7291cc93d9", func := "bastide/bastidelaw01.BinStr", spec := "binStr", apart := false, narrowed := true }
def BinStrUptoSaid : Prop := binStrUptoRow.holds Try.pinned (OpenSpec.upto binStrSpec)

/-- 'bastidelaw01.BinFix', WHERE WHAT IT READS IS OF BULK AT MOST 1048576: true; the input reads as it did. -/
def binFixUptoRow : OpenClaim := { program := "ytifnbemboednaaa", sum := "6708c4d40f2872f970497b0055e7ebadd9d58e0f446685c74504af7291cc93d9", func := "bastide/bastidelaw01.BinFix", spec := "binFix", apart := false, narrowed := true }
def BinFixUptoSaid : Prop := binFixUptoRow.holds Try.pinned (OpenSpec.upto binFixSpec)

/-- 'bastidelaw01.BinJoin', WHERE WHAT IT READS IS OF BULK AT MOST 1048576: true; the input reads as it did. -/
def binJoinUptoRow : OpenClaim := { program := "ytifnbemboednaaa", sum := "6708c4d40f2872f970497b0055e7ebadd9d58e0f446685c74504af7291cc93d9", func := "bastide/bastidelaw01.BinJoin", spec := "binJoin", apart := false, narrowed := true }
def BinJoinUptoSaid : Prop := binJoinUptoRow.holds Try.pinned (OpenSpec.upto binJoinSpec)

/-- 'bastidelaw01.BinBack', WHERE WHAT IT READS IS OF BULK AT MOST 1048576: true; the input reads as it did. -/
def binBackUptoRow : OpenClaim := { program := "ytifnbemboednaaa", sum := "6708c4d40f2872f970497b0055e7ebadd9d58e0f446685c74504af7291cc93d9", func := "bastide/bastidelaw01.BinBack", spec := "binBack", apart := false, narrowed := true }
def BinBackUptoSaid : Prop := binBackUptoRow.holds Try.pinned (OpenSpec.upto binBackSpec)

/-- 'bastidelaw01.BinAgain', WHERE WHAT IT READS IS OF BULK AT MOST 1048576: true; the input reads as it did. -/
def binAgainUptoRow : OpenClaim := { program := "ytifnbemboednaaa", sum := "6708c4d40f2872f970497b0055e7ebadd9d58e0f446685c74504af7291cc93d9", func := "bastide/bastidelaw01.BinAgain", spec := "binAgain", apart := false, narrowed := true }
def BinAgainUptoSaid : Prop := binAgainUptoRow.holds Try.pinned (OpenSpec.upto binAgainSpec)

/-- 'bastidelaw01.BinTexts', WHERE WHAT IT READS IS OF BULK AT MOST 1048576: true; the input reads as it did. -/
def binTextsUptoRow : OpenClaim := { program := "ytifnbemboednaaa", sum := "6708c4d40f2872f970497b0055e7ebadd9d58e0f446685c74504af7291cc93d9", func := "bastide/bastidelaw01.BinTexts", spec := "binTexts", apart := false, narrowed := true }
def BinTextsUptoSaid : Prop := binTextsUptoRow.holds Try.pinned (OpenSpec.upto binTextsSpec)

/-- 'bastidelaw01.BinTaken', WHERE WHAT IT READS IS OF BULK AT MOST 1048576: true; the input reads as it did. -/
def binTakenUptoRow : OpenClaim := { program := "ytifnbemboednaaa", sum := "6708c4d40f2872f970497b0055e7ebadd9d58e0f446685c74504af7291cc93d9", func := "bastide/bastidelaw01.BinTaken", spec := "binTaken", apart := false, narrowed := true }
def BinTakenUptoSaid : Prop := binTakenUptoRow.holds Try.pinned (OpenSpec.upto binTakenSpec)

/-- 'bastidelaw01.BinPrefix', WHERE WHAT IT READS IS OF BULK AT MOST 1048576: true; the input reads as it did. -/
def binPrefixUptoRow : OpenClaim := { program := "ytifnbemboednaaa", sum := "6708c4d40f2872f970497b0055e7ebadd9d58e0f446685c74504af7291cc93d9", func := "bastide/bastidelaw01.BinPrefix", spec := "binPrefix", apart := false, narrowed := true }
def BinPrefixUptoSaid : Prop := binPrefixUptoRow.holds Try.pinned (OpenSpec.upto binPrefixSpec)

/-- 'bastidelaw01.BinOrder', WHERE WHAT IT READS IS OF BULK AT MOST 1048576: true; the input reads as it did. -/
def binOrderUptoRow : OpenClaim := { program := "ytifnbemboednaaa", sum := "6708c4d40f2872f970497b0055e7ebadd9d58e0f446685c74504af7291cc93d9", func := "bastide/bastidelaw01.BinOrder", spec := "binOrder", apart := false, narrowed := true }
def BinOrderUptoSaid : Prop := binOrderUptoRow.holds Try.pinned (OpenSpec.upto binOrderSpec)

/-- 'bastidelaw01.BinShort', WHERE WHAT IT READS IS OF BULK AT MOST 1048576: true; the input reads as it did. -/
def binShortUptoRow : OpenClaim := { program := "ytifnbemboednaaa", sum := "6708c4d40f2872f970497b0055e7ebadd9d58e0f446685c74504af7291cc93d9", func := "bastide/bastidelaw01.BinShort", spec := "binShort", apart := false, narrowed := true }
def BinShortUptoSaid : Prop := binShortUptoRow.holds Try.pinned (OpenSpec.upto binShortSpec)

/-- 'bastidelaw01.BinParts', WHERE WHAT IT READS IS OF BULK AT MOST 1048576: true; the input reads as it did. -/
def binPartsUptoRow : OpenClaim := { program := "ytifnbemboednaaa", sum := "6708c4d40f2872f970497b0055e7ebadd9d58e0f446685c74504af7291cc93d9", func := "bastide/bastidelaw01.BinParts", spec := "binParts", apart := false, narrowed := true }
def BinPartsUptoSaid : Prop := binPartsUptoRow.holds Try.pinned (OpenSpec.upto binPartsSpec)

/-- 'bastidelaw01.BinJoins', WHERE WHAT IT READS IS OF BULK AT MOST 1048576: true; the input reads as it did. -/
def binJoinsUptoRow : OpenClaim := { program := "ytifnbemboednaaa", sum := "6708c4d40f2872f970497b0055e7ebadd9d58e0f446685c74504af7291cc93d9", func := "bastide/bastidelaw01.BinJoins", spec := "binJoins", apart := false, narrowed := true }
def BinJoinsUptoSaid : Prop := binJoinsUptoRow.holds Try.pinned (OpenSpec.upto binJoinsSpec)

/-- 'bastidelaw01.BinKnown', WHERE WHAT IT READS IS OF BULK AT MOST 1048576: true; the input reads as it did. -/
def binKnownUptoRow : OpenClaim := { program := "ytifnbemboednaaa", sum := "6708c4d40f2872f970497b0055e7ebadd9d58e0f446685c74504af7291cc93d9", func := "bastide/bastidelaw01.BinKnown", spec := "binKnown", apart := false, narrowed := true }
def BinKnownUptoSaid : Prop := binKnownUptoRow.holds Try.pinned (OpenSpec.upto binKnownSpec)

end Rows
end Go.Proofs.Ytifnbemboednaaa
