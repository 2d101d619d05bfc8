/- RwLineMade (printed by program: wip/gen) -/
import Derived.Test.YtnlpibfdobinoaaRwa
namespace Go.Proofs.Ytnlpibfdobinoaa
open Go.ChangeShapes Go.WideShapes Go.ChangeAt Go.RowKit Go.Eng

set_option maxRecDepth 100000 in
theorem lineMade_lifted (os : Os) (started : os.Started) (H : Type) (enc : TypeId × Value → H) :
    ReturnsInHanded {} Try.checked os 6 .any (Rows.lineMadeSpec.pre6 enc Try.prog Try.f6 Rows.lineMadeRow.domain false) (Rows.lineMadeSpec.post enc Try.prog Try.f6 false true false false) := by
  refine law_lifted (C := Try.checked) Try.own started (by kernel_rfl) Try.func6
    (ChangeSpec.witness6 (enc := enc) (C := Try.checked) false ⟨#[], #[.slice none 0 0, .int .i64 0, .int .i64 0], []⟩ 8 (by kernel_rfl) (by kernel_rfl) (by kernel_rfl) (by kernel_rfl))
    Try.laidOut (by kernel_rfl) rfl rfl Try.underlying4 ?_ ?_
  · intro ds hq
    obtain ⟨d0, t0, e0, q0⟩ := spec_len (show ds.length = 3 from hq)
    obtain ⟨d1, t1, e1, q1⟩ := spec_len (show t0.length = 2 from q0)
    obtain ⟨d2, t2, e2, q2⟩ := spec_len (show t1.length = 1 from q1)
    have en := List.eq_nil_of_length_eq_zero (show t2.length = 0 from q2)
    subst en
    subst e2
    subst e1
    subst e0
    rfl
  · intro W base args ds h
    obtain ⟨l⟩ := args
    rw [Try.params6] at h
    obtain ⟨v0, l0, d0, ds0, rfl, h0, h⟩ := args_cons h
    obtain ⟨v1, l1, d1, ds1, rfl, h1, h⟩ := args_cons h
    obtain ⟨v2, l2, d2, ds2, rfl, h2, h⟩ := args_cons h
    obtain rfl := args_nil h
    clear h
    obtain ⟨A0, c0, l, rfl, hH, hg0, hb0⟩ := arg_slice Try.underlying33 (reads_slice (size := 1) (bytes := 8) Try.underlying33 rfl (by decide) (by kernel_rfl) (by kernel_rfl) (by decide) (reads_int Try.underlying3)) h0
    obtain ⟨n1, rfl, lo1, hi1⟩ := arg_int Try.underlying3 h1
    obtain ⟨n2, rfl, lo2, hi2⟩ := arg_int Try.underlying3 h2
    exact lineMade_ok hH hg0 lo1 hi1 lo2 hi2
theorem lineMade_holds : Rows.LineMadeSaid :=
  OpenClaim.holds_of_wide 6 Try.f6 rfl rfl rfl rfl rfl rfl rfl ⟨rfl, rfl, rfl, rfl, rfl⟩ rfl rfl rfl rfl rfl (by kernel_rfl) Try.func6 (by kernel_rfl)
    (of_decide_eq_true (by kernel_rfl)) (by unfold Func.isWrapper; first | (rw [if_pos (by decide +kernel)]; kernel_rfl) | (rw [if_neg (by decide +kernel)]; exact ⟨rfl, rfl⟩))
    (fun os started H enc _ => lineMade_lifted os started H enc)
#print axioms lineMade_holds

end Go.Proofs.Ytnlpibfdobinoaa
