/- Part 1 of what the proof of JudgeKnown stands on: the engine, and facts on the program's tables. -/
import Derived.Test.YtgheaedligkhoaaAab
import Derived.WalkKit
import Derived.Laws.NewBlocks
import Derived.Orders
import Derived.Laws.CopyRow
import Derived.Laws.Tables
import Derived.Maps.Keyed
import Derived.DeepKeys3
import Derived.Laws.IdiomStrings
import Derived.Laws.Strings
import Derived.KernelRfl
import Derived.ProofKit
import Derived.SizedLaws
import Derived.Deep.Slices
import Derived.OpenShut
import Derived.Test.YtgheaedligkhoaaRows
import Derived.Maps.RangeRun
import Derived.Maps.Range
namespace Go.Eng
def pln0 : Pln := ⟨0, 0, 0, 0, 0⟩
end Go.Eng
