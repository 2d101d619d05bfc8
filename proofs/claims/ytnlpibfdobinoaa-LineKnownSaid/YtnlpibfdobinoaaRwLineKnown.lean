/- RwLineKnown (printed by program: wip/gen) -/
import Derived.Test.YtnlpibfdobinoaaRwa
import Derived.Test.YtnlpibfdobinoaaLny
namespace Go.Proofs.Ytnlpibfdobinoaa
open Go.ChangeShapes Go.WideShapes Go.ChangeAt Go.RowKit Go.Eng

set_option maxRecDepth 100000 in
theorem lineKnown_lifted (os : Os) (started : os.Started) (H : Type) (enc : TypeId × Value → H) :
    ReturnsInHanded {} Try.checked os 9 .any (Rows.lineKnownSpec.pre6 enc Try.prog Try.f9 Rows.lineKnownRow.domain false) (Rows.lineKnownSpec.post enc Try.prog Try.f9 false true false false) := by
  refine law_lifted (C := Try.checked) Try.own started (by kernel_rfl) Try.func9
    (ChangeSpec.witness6 (enc := enc) (C := Try.checked) false ⟨#[], #[], []⟩ 8 (by kernel_rfl) (by kernel_rfl) (by kernel_rfl) (by kernel_rfl))
    Try.laidOut (by kernel_rfl) rfl rfl Try.underlying4 ?_ ?_
  · intro ds hq
    have en := List.eq_nil_of_length_eq_zero (show ds.length = 0 from hq)
    subst en
    rfl
  · intro W base args ds h
    obtain ⟨l⟩ := args
    rw [Try.params9] at h
    obtain rfl := args_nil h
    clear h
    exact lineKnown_ok
theorem lineKnown_holds : Rows.LineKnownSaid :=
  OpenClaim.holds_of_wide 9 Try.f9 rfl rfl rfl rfl rfl rfl rfl ⟨rfl, rfl, rfl, rfl, rfl⟩ rfl rfl rfl rfl rfl (by kernel_rfl) Try.func9 (by kernel_rfl)
    (of_decide_eq_true (by kernel_rfl)) (by unfold Func.isWrapper; first | (rw [if_pos (by decide +kernel)]; kernel_rfl) | (rw [if_neg (by decide +kernel)]; exact ⟨rfl, rfl⟩))
    (fun os started H enc _ => lineKnown_lifted os started H enc)
#print axioms lineKnown_holds

end Go.Proofs.Ytnlpibfdobinoaa
