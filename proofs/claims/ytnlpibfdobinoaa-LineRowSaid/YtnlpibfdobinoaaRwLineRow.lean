/- RwLineRow (printed by program: wip/gen) -/
import Derived.Test.YtnlpibfdobinoaaRwa
namespace Go.Proofs.Ytnlpibfdobinoaa
open Go.ChangeShapes Go.WideShapes Go.ChangeAt Go.RowKit Go.Eng

set_option maxRecDepth 100000 in
theorem lineRow_lifted (os : Os) (started : os.Started) (H : Type) (enc : TypeId × Value → H) :
    ReturnsInHanded {} Try.checked os 8 .any (Rows.lineRowSpec.pre6 enc Try.prog Try.f8 Rows.lineRowRow.domain false) (Rows.lineRowSpec.post enc Try.prog Try.f8 false true false false) := by
  refine law_lifted (C := Try.checked) Try.own started (by kernel_rfl) Try.func8
    (ChangeSpec.witness6 (enc := enc) (C := Try.checked) false ⟨#[], #[.slice none 0 0], []⟩ 8 (by kernel_rfl) (by kernel_rfl) (by kernel_rfl) (by kernel_rfl))
    Try.laidOut (by kernel_rfl) rfl rfl Try.underlying4 ?_ ?_
  · intro ds hq
    obtain ⟨d0, t0, e0, q0⟩ := spec_len (show ds.length = 1 from hq)
    have en := List.eq_nil_of_length_eq_zero (show t0.length = 0 from q0)
    subst en
    subst e0
    rfl
  · intro W base args ds h
    obtain ⟨l⟩ := args
    rw [Try.params8] at h
    obtain ⟨v0, l0, d0, ds0, rfl, h0, h⟩ := args_cons h
    obtain rfl := args_nil h
    clear h
    obtain ⟨A0, c0, l, rfl, hH, hg0, hb0⟩ := arg_slice Try.underlying33 (reads_slice (size := 1) (bytes := 8) Try.underlying33 rfl (by decide) (by kernel_rfl) (by kernel_rfl) (by decide) (reads_int Try.underlying3)) h0
    exact lineRow_ok hH hg0
theorem lineRow_holds : Rows.LineRowSaid :=
  OpenClaim.holds_of_wide 8 Try.f8 rfl rfl rfl rfl rfl rfl rfl ⟨rfl, rfl, rfl, rfl, rfl⟩ rfl rfl rfl rfl rfl (by kernel_rfl) Try.func8 (by kernel_rfl)
    (of_decide_eq_true (by kernel_rfl)) (by unfold Func.isWrapper; first | (rw [if_pos (by decide +kernel)]; kernel_rfl) | (rw [if_neg (by decide +kernel)]; exact ⟨rfl, rfl⟩))
    (fun os started H enc _ => lineRow_lifted os started H enc)
#print axioms lineRow_holds

end Go.Proofs.Ytnlpibfdobinoaa
