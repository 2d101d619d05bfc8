/- JudgeKnown is true: what the program answers is what the statement says, for every argument (no further condition). -/
import Derived.Test.YtgheaedligkhoaaDaa
import Derived.Test.YtgheaedligkhoaaAab
import Derived.Test.YtgheaedligkhoaaAac
import Derived.Test.YtgheaedligkhoaaDae
namespace Go.Proofs.Ytgheaedligkhoaa
open Go.ChangeShapes Go.WideShapes Go.ChangeAt Go.RowKit Go.Eng Go.Eng _root_.Go.Proofs.Try
set_option maxRecDepth 100000
variable {w0 w : World} {M0 Fz : Nat → Prop} {H : List It} {A : Option Addr} {c : Nat}
set_option maxRecDepth 100000 in
theorem judgeKnown_lifted (os : Os) (started : os.Started) (H : Type) (enc : TypeId × Value → H) :
  ReturnsInHanded {} Try.checked os 8 .any (Rows.judgeKnownSpec.pre6 enc Try.prog Try.f8 Rows.judgeKnownRow.domain false) (Rows.judgeKnownSpec.post enc Try.prog Try.f8 false true false false) := by
 refine law_lifted (C := Try.checked) Try.own started (by kernel_rfl) Try.func8
  (ChangeSpec.witness6 (enc := enc) (C := Try.checked) false ⟨#[], #[], []⟩ 8 (by kernel_rfl) (by kernel_rfl) (by kernel_rfl) (by kernel_rfl))
  Try.laidOut (by kernel_rfl) rfl rfl Try.underlying4 ?_ ?_
 ·intro ds hq
  have en := List.eq_nil_of_length_eq_zero (show ds.length = 0 from hq)
  subst en
  rfl
 ·intro W base args ds h
  obtain ⟨l⟩ := args
  rw [Try.params8] at h
  obtain rfl := args_nil h
  clear h
  exact judgeKnown_ok
theorem judgeKnown_holds : Rows.JudgeKnownSaid :=
 OpenClaim.holds_of_wide 8 Try.f8 rfl rfl rfl rfl rfl rfl rfl ⟨rfl, rfl, rfl, rfl, rfl⟩ rfl rfl rfl rfl rfl (by kernel_rfl) Try.func8 (by kernel_rfl)
  (of_decide_eq_true (by kernel_rfl)) (by unfold Func.isWrapper; first | (rw [if_pos (by decide +kernel)]; kernel_rfl) | (rw [if_neg (by decide +kernel)]; exact ⟨rfl, rfl⟩))
  (fun os started H enc _ => judgeKnown_lifted os started H enc)
end Go.Proofs.Ytgheaedligkhoaa
