/- Rwa (printed by program: wip/gen) -/
import Derived.Test.YtifnbemboednaaaLws
namespace Go.Proofs.Ytifnbemboednaaa
open Go.ChangeShapes Go.WideShapes Go.ChangeAt Go.RowKit Go.Eng

theorem Try.own : ownKnob Try.prog.godebug = none := by kernel_rfl
theorem Try.laidOut : laidOutB Try.prog = true := by kernel_rfl

end Go.Proofs.Ytifnbemboednaaa
