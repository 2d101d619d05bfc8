/-
  No cell of these rows narrows 'for every input' (looked for: loops, veiled, ifaces, maps, wideKeys, modest, calm, conditions, laid).
  DERIVED. THE GIVEN ROWS OF THIS SEAT. 7 by the template 'for every input the law returns true; each argument reads behind the call as it read before'; 0 by the template 'total and deterministic' (their statements: YtnlpibfdobinoaaTotals.lean).
  GIVEN WITH THE SEED: the statements are not yours to turn. If you find one false, say at which input.
  Laid BY PROGRAM, IN A SANDBOX (cutbox-rows.mjs): the forced cells as the released guide's own fill.sh prints them over the translation a9ea9c8ecdb699d1… (all of the seat's roots in one cut). By AI agents, Wed Nov 11 2026. No macro, syntax, notation, axiom, sorry.
-/
import Derived.Test.YtnlpibfdobinoaaChecked
import GoSem.Claim
import GoSem.ClaimJoined
import GoSem.ClaimMapViews
import Derived.JoinedTies
import Derived.KernelRfl
namespace Go.Proofs.Ytnlpibfdobinoaa
/- THE CELL 'sum', in the pinned program and in every row, IS THE sha256 OF THE DUMP (.gsa) THAT YtnlpibfdobinoaaProg.lean LOADS. Nothing in Lean hashes anything: it is a label: what it is worth is what the hold of that sum in a sandbox is worth. -/
noncomputable def Try.pinned : Pinned := { name := "ytnlpibfdobinoaa", sum := "a9ea9c8ecdb699d1f14d35db55586801ba60e78710c5fd5ab42e7cf30c811ff9", checked := Try.checked }
namespace Rows
def none {H : Type} : Left H := { results := [], args := [] }

/-- 'bastidelaw28.LineOrder': WHATEVER THE INPUT: true; the input reads as it did. -/
def lineOrderSpec : ChangeSpec := { name := "lineOrder", fn := fun _ => fun
  | [d1, d2] => { results := [.lit (.bool true)], args := [d1, d2] }
  | _ => none }
def lineOrderRow : OpenClaim := { program := "ytnlpibfdobinoaa", sum := "a9ea9c8ecdb699d1f14d35db55586801ba60e78710c5fd5ab42e7cf30c811ff9", func := "bastide/bastidelaw28.LineOrder", spec := "lineOrder", unfollowed := true, recurses := true, plainKeys := false, apart := false }
def LineOrderSaid : Prop := lineOrderRow.holds Try.pinned (OpenSpec.ofChange lineOrderSpec)

/-- ITS FALSE NEIGHBOUR: 'it returns false'. Refute it at one input. -/
def lineOrderWrong : ChangeSpec := { name := "lineOrder", fn := fun _ => fun
  | [d1, d2] => { results := [.lit (.bool false)], args := [d1, d2] }
  | _ => none }
def LineOrderWrongFalsely : Prop := lineOrderRow.holds Try.pinned (OpenSpec.ofChange lineOrderWrong)

/-- 'bastidelaw28.LineExplains': WHATEVER THE INPUT: true; the input reads as it did. -/
def lineExplainsSpec : ChangeSpec := { name := "lineExplains", fn := fun _ => fun
  | [d1, d2] => { results := [.lit (.bool true)], args := [d1, d2] }
  | _ => none }
def lineExplainsRow : OpenClaim := { program := "ytnlpibfdobinoaa", sum := "a9ea9c8ecdb699d1f14d35db55586801ba60e78710c5fd5ab42e7cf30c811ff9", func := "bastide/bastidelaw28.LineExplains", spec := "lineExplains", unfollowed := true, recurses := true, plainKeys := false, apart := false }
def LineExplainsSaid : Prop := lineExplainsRow.holds Try.pinned (OpenSpec.ofChange lineExplainsSpec)

/-- ITS FALSE NEIGHBOUR: 'it returns false'. Refute it at one input. -/
def lineExplainsWrong : ChangeSpec := { name := "lineExplains", fn := fun _ => fun
  | [d1, d2] => { results := [.lit (.bool false)], args := [d1, d2] }
  | _ => none }
def LineExplainsWrongFalsely : Prop := lineExplainsRow.holds Try.pinned (OpenSpec.ofChange lineExplainsWrong)

/-- 'bastidelaw28.LineTold': WHATEVER THE INPUT: true; the input reads as it did. -/
def lineToldSpec : ChangeSpec := { name := "lineTold", fn := fun _ => fun
  | [d1, d2, d3] => { results := [.lit (.bool true)], args := [d1, d2, d3] }
  | _ => none }
def lineToldRow : OpenClaim := { program := "ytnlpibfdobinoaa", sum := "a9ea9c8ecdb699d1f14d35db55586801ba60e78710c5fd5ab42e7cf30c811ff9", func := "bastide/bastidelaw28.LineTold", spec := "lineTold", unfollowed := true, recurses := true, plainKeys := false, apart := false }
def LineToldSaid : Prop := lineToldRow.holds Try.pinned (OpenSpec.ofChange lineToldSpec)

/-- ITS FALSE NEIGHBOUR: 'it returns false'. Refute it at one input. -/
def lineToldWrong : ChangeSpec := { name := "lineTold", fn := fun _ => fun
  | [d1, d2, d3] => { results := [.lit (.bool false)], args := [d1, d2, d3] }
  | _ => none }
def LineToldWrongFalsely : Prop := lineToldRow.holds Try.pinned (OpenSpec.ofChange lineToldWrong)

/-- 'bastidelaw28.LineMade': WHATEVER THE INPUT: true; the input reads as it did. -/
def lineMadeSpec : ChangeSpec := { name := "lineMade", fn := fun _ => fun
  | [d1, d2, d3] => { results := [.lit (.bool true)], args := [d1, d2, d3] }
  | _ => none }
def lineMadeRow : OpenClaim := { program := "ytnlpibfdobinoaa", sum := "a9ea9c8ecdb699d1f14d35db55586801ba60e78710c5fd5ab42e7cf30c811ff9", func := "bastide/bastidelaw28.LineMade", spec := "lineMade", unfollowed := true, recurses := true, plainKeys := false, apart := false }
def LineMadeSaid : Prop := lineMadeRow.holds Try.pinned (OpenSpec.ofChange lineMadeSpec)

/-- ITS FALSE NEIGHBOUR: 'it returns false'. Refute it at one input. -/
def lineMadeWrong : ChangeSpec := { name := "lineMade", fn := fun _ => fun
  | [d1, d2, d3] => { results := [.lit (.bool false)], args := [d1, d2, d3] }
  | _ => none }
def LineMadeWrongFalsely : Prop := lineMadeRow.holds Try.pinned (OpenSpec.ofChange lineMadeWrong)

/-- 'bastidelaw28.LineLater': WHATEVER THE INPUT: true; the input reads as it did. -/
def lineLaterSpec : ChangeSpec := { name := "lineLater", fn := fun _ => fun
  | [d1, d2, d3] => { results := [.lit (.bool true)], args := [d1, d2, d3] }
  | _ => none }
def lineLaterRow : OpenClaim := { program := "ytnlpibfdobinoaa", sum := "a9ea9c8ecdb699d1f14d35db55586801ba60e78710c5fd5ab42e7cf30c811ff9", func := "bastide/bastidelaw28.LineLater", spec := "lineLater", unfollowed := true, recurses := true, plainKeys := false, apart := false }
def LineLaterSaid : Prop := lineLaterRow.holds Try.pinned (OpenSpec.ofChange lineLaterSpec)

/-- ITS FALSE NEIGHBOUR: 'it returns false'. Refute it at one input. -/
def lineLaterWrong : ChangeSpec := { name := "lineLater", fn := fun _ => fun
  | [d1, d2, d3] => { results := [.lit (.bool false)], args := [d1, d2, d3] }
  | _ => none }
def LineLaterWrongFalsely : Prop := lineLaterRow.holds Try.pinned (OpenSpec.ofChange lineLaterWrong)

/-- 'bastidelaw28.LineRow': WHATEVER THE INPUT: true; the input reads as it did. -/
def lineRowSpec : ChangeSpec := { name := "lineRow", fn := fun _ => fun
  | [d] => { results := [.lit (.bool true)], args := [d] }
  | _ => none }
def lineRowRow : OpenClaim := { program := "ytnlpibfdobinoaa", sum := "a9ea9c8ecdb699d1f14d35db55586801ba60e78710c5fd5ab42e7cf30c811ff9", func := "bastide/bastidelaw28.LineRow", spec := "lineRow", unfollowed := true, recurses := true, plainKeys := false, apart := false }
def LineRowSaid : Prop := lineRowRow.holds Try.pinned (OpenSpec.ofChange lineRowSpec)

/-- ITS FALSE NEIGHBOUR: 'it returns false'. Refute it at one input. -/
def lineRowWrong : ChangeSpec := { name := "lineRow", fn := fun _ => fun
  | [d] => { results := [.lit (.bool false)], args := [d] }
  | _ => none }
def LineRowWrongFalsely : Prop := lineRowRow.holds Try.pinned (OpenSpec.ofChange lineRowWrong)

/-- 'bastidelaw28.LineKnown': WHATEVER THE INPUT: true; the input reads as it did. -/
def lineKnownSpec : ChangeSpec := { name := "lineKnown", fn := fun _ => fun
  | [] => { results := [.lit (.bool true)], args := [] }
  | _ => none }
def lineKnownRow : OpenClaim := { program := "ytnlpibfdobinoaa", sum := "a9ea9c8ecdb699d1f14d35db55586801ba60e78710c5fd5ab42e7cf30c811ff9", func := "bastide/bastidelaw28.LineKnown", spec := "lineKnown", unfollowed := true, recurses := true, plainKeys := false, apart := false }
def LineKnownSaid : Prop := lineKnownRow.holds Try.pinned (OpenSpec.ofChange lineKnownSpec)

/-- ITS FALSE NEIGHBOUR: 'it returns false'. Refute it at one input. -/
def lineKnownWrong : ChangeSpec := { name := "lineKnown", fn := fun _ => fun
  | [] => { results := [.lit (.bool false)], args := [] }
  | _ => none }
def LineKnownWrongFalsely : Prop := lineKnownRow.holds Try.pinned (OpenSpec.ofChange lineKnownWrong)

/- THE SECOND FORM. 'bulk': how many values and letters a reading holds, each counted each time it is reached (what is shared counts as often as it is met; a slice's spare places count too). A statement '..UptoSaid' is the law's where the arguments, and the package variables that the reading takes, are together of bulk at most 1048576: NARROWER than '..Said'. Prove '..Said' where nothing that the law and all that it calls make is longer than what came in: it says more and counts as full. Else prove '..UptoSaid'. A law counts once. -/
mutual
def uptoBulk {H : Type} : DataW H → Nat
  | .lit (.string bytes) => bytes.length + 1
  | .lit _ => 1
  | .nil => 1
  | .ptr d => uptoBulk d + 1
  | .slice elems spare => uptoBulkAll elems + uptoBulkAll spare + 1
  | .agg parts => uptoBulkAll parts + 1
  | .iface _ d => uptoBulk d + 1
  | .map entries => uptoBulkEntries entries + 1
  | .held _ => 1
def uptoBulkAll {H : Type} : List (DataW H) → Nat
  | [] => 0
  | d :: r => uptoBulk d + uptoBulkAll r
def uptoBulkEntries {H : Type} : List (Lit × DataW H) → Nat
  | [] => 0
  | x :: r => uptoBulkEntry x + uptoBulkEntries r
def uptoBulkEntry {H : Type} : Lit × DataW H → Nat
  | (.string bytes, d) => bytes.length + uptoBulk d + 1
  | (_, d) => uptoBulk d + 1
 end
def uptoSmall : (H : Type) → List (DataW H) → Bool := fun _ ds => decide (uptoBulkAll ds ≤ 1048576)
def OpenSpec.upto (s : _root_.Go.ChangeSpec) : _root_.Go.OpenSpec := { _root_.Go.OpenSpec.ofChange s with cond := some uptoSmall }

/-- 'bastidelaw28.LineOrder', WHERE WHAT IT READS IS OF BULK AT MOST 1048576: true; the input reads as it did. -/
def lineOrderUptoRow : OpenClaim := { program := "ytnlpibfdobinoaa", sum := "a9ea9c8ecdb699d1f14d35db55586801ba60e78710c5fd5ab42e7cf30c811ff9", func := "bastide/bastidelaw28.LineOrder", spec := "lineOrder", unfollowed := true, recurses := true, plainKeys := false, apart := false, narrowed := true }
def LineOrderUptoSaid : Prop := lineOrderUptoRow.holds Try.pinned (OpenSpec.upto lineOrderSpec)

/-- 'bastidelaw28.LineExplains', WHERE WHAT IT READS IS OF BULK AT MOST 1048576: true; the input reads as it did. -/
def lineExplainsUptoRow : OpenClaim := { program := "ytnlpibfdobinoaa", sum := "a9ea9c8ecdb699d1f14d35db55586801ba60e78710c5fd5ab42e7cf30c811ff9", func := "bastide/bastidelaw28.LineExplains", spec := "lineExplains", unfollowed := true, recurses := true, plainKeys := false, apart := false, narrowed := true }
def LineExplainsUptoSaid : Prop := lineExplainsUptoRow.holds Try.pinned (OpenSpec.upto lineExplainsSpec)

/-- 'bastidelaw28.LineTold', WHERE WHAT IT READS IS OF BULK AT MOST 1048576: true; the input reads as it did. -/
def lineToldUptoRow : OpenClaim := { program := "ytnlpibfdobinoaa", sum := "a9ea9c8ecdb699d1f14d35db55586801ba60e78710c5fd5ab42e7cf30c811ff9", func := "bastide/bastidelaw28.LineTold", spec := "lineTold", unfollowed := true, recurses := true, plainKeys := false, apart := false, narrowed := true }
def LineToldUptoSaid : Prop := lineToldUptoRow.holds Try.pinned (OpenSpec.upto lineToldSpec)

/-- 'bastidelaw28.LineMade', WHERE WHAT IT READS IS OF BULK AT MOST 1048576: true; the input reads as it did. -/
def lineMadeUptoRow : OpenClaim := { program := "ytnlpibfdobinoaa", sum := "a9ea9c8ecdb699d1f14d35db55586801ba60e78710c5fd5ab42e7cf30c811ff9", func := "bastide/bastidelaw28.LineMade", spec := "lineMade", unfollowed := true, recurses := true, plainKeys := false, apart := false, narrowed := true }
def LineMadeUptoSaid : Prop := lineMadeUptoRow.holds Try.pinned (OpenSpec.upto lineMadeSpec)

/-- 'bastidelaw28.LineLater', WHERE WHAT IT READS IS OF BULK AT MOST 1048576: true; the input reads as it did. -/
def lineLaterUptoRow : OpenClaim := { program := "ytnlpibfdobinoaa", sum := "a9ea9c8ecdb699d1f14d35db55586801ba60e78710c5fd5ab42e7cf30c811ff9", func := "bastide/bastidelaw28.LineLater", spec := "lineLater", unfollowed := true, recurses := true, plainKeys := false, apart := false, narrowed := true }
def LineLaterUptoSaid : Prop := lineLaterUptoRow.holds Try.pinned (OpenSpec.upto lineLaterSpec)

/-- 'bastidelaw28.LineRow', WHERE WHAT IT READS IS OF BULK AT MOST 1048576: true; the input reads as it did. -/
def lineRowUptoRow : OpenClaim := { program := "ytnlpibfdobinoaa", sum := "a9ea9c8ecdb699d1f14d35db55586801ba60e78710c5fd5ab42e7cf30c811ff9", func := "bastide/bastidelaw28.LineRow", spec := "lineRow", unfollowed := true, recurses := true, plainKeys := false, apart := false, narrowed := true }
def LineRowUptoSaid : Prop := lineRowUptoRow.holds Try.pinned (OpenSpec.upto lineRowSpec)

/-- 'bastidelaw28.LineKnown', WHERE WHAT IT READS IS OF BULK AT MOST 1048576: true; the input reads as it did. -/
def lineKnownUptoRow : OpenClaim := { program := "ytnlpibfdobinoaa", sum := "a9ea9c8ecdb699d1f14d35db55586801ba60e78710c5fd5ab42e7cf30c811ff9", func := "bastide/bastidelaw28.LineKnown", spec := "lineKnown", unfollowed := true, recurses := true, plainKeys := false, apart := false, narrowed := true }
def LineKnownUptoSaid : Prop := lineKnownUptoRow.holds Try.pinned (OpenSpec.upto lineKnownSpec)

end Rows
end Go.Proofs.Ytnlpibfdobinoaa
