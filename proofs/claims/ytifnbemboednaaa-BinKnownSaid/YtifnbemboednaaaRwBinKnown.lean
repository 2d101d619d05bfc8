/- RwBinKnown (printed by program: wip/gen) -/
import Derived.Test.YtifnbemboednaaaRwa
import Derived.Test.YtifnbemboednaaaLwt
namespace Go.Proofs.Ytifnbemboednaaa
open Go.ChangeShapes Go.WideShapes Go.ChangeAt Go.RowKit Go.Eng

set_option maxRecDepth 100000 in
theorem binKnown_lifted (os : Os) (started : os.Started) (H : Type) (enc : TypeId × Value → H) :
    ReturnsInHanded {} Try.checked os 16 .any (Rows.binKnownSpec.pre6 enc Try.prog Try.f16 Rows.binKnownRow.domain false) (Rows.binKnownSpec.post enc Try.prog Try.f16 false true false false) := by
  refine law_lifted (C := Try.checked) Try.own started (by kernel_rfl) Try.func16
    (ChangeSpec.witness6 (enc := enc) (C := Try.checked) false ⟨#[], #[], []⟩ 8 (by kernel_rfl) (by kernel_rfl) (by kernel_rfl) (by kernel_rfl))
    Try.laidOut (by kernel_rfl) rfl rfl Try.underlying4 ?_ ?_
  · intro ds hq
    have en := List.eq_nil_of_length_eq_zero (show ds.length = 0 from hq)
    subst en
    rfl
  · intro W base args ds h
    obtain ⟨l⟩ := args
    rw [Try.params16] at h
    obtain rfl := args_nil h
    clear h
    exact binKnown_ok
theorem binKnown_holds : Rows.BinKnownSaid :=
  OpenClaim.holds_of_wide 16 Try.f16 rfl rfl rfl rfl rfl rfl rfl ⟨rfl, rfl, rfl, rfl, rfl⟩ rfl rfl rfl rfl rfl (by kernel_rfl) Try.func16 (by kernel_rfl)
    (of_decide_eq_true (by kernel_rfl)) (by unfold Func.isWrapper; first | (rw [if_pos (by decide +kernel)]; kernel_rfl) | (rw [if_neg (by decide +kernel)]; exact ⟨rfl, rfl⟩))
    (fun os started H enc _ => binKnown_lifted os started H enc)
#print axioms binKnown_holds

end Go.Proofs.Ytifnbemboednaaa
