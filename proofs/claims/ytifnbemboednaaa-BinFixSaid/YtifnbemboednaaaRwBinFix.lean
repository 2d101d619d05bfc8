/- RwBinFix (printed by program: wip/gen) -/
import Derived.Test.YtifnbemboednaaaRwa
import Derived.Test.YtifnbemboednaaaLwu
namespace Go.Proofs.Ytifnbemboednaaa
open Go.ChangeShapes Go.WideShapes Go.ChangeAt Go.RowKit Go.Eng

set_option maxRecDepth 100000 in
theorem binFix_lifted (os : Os) (started : os.Started) (H : Type) (enc : TypeId × Value → H) :
    ReturnsInHanded {} Try.checked os 5 .any (Rows.binFixSpec.pre6 enc Try.prog Try.f5 Rows.binFixRow.domain false) (Rows.binFixSpec.post enc Try.prog Try.f5 false true false false) := by
  refine law_lifted (C := Try.checked) Try.own started (by kernel_rfl) Try.func5
    (ChangeSpec.witness6 (enc := enc) (C := Try.checked) false ⟨#[], #[.slice none 0 0, .int .i64 0], []⟩ 8 (by kernel_rfl) (by kernel_rfl) (by kernel_rfl) (by kernel_rfl))
    Try.laidOut (by kernel_rfl) rfl rfl Try.underlying4 ?_ ?_
  · intro ds hq
    obtain ⟨d0, t0, e0, q0⟩ := spec_len (show ds.length = 2 from hq)
    obtain ⟨d1, t1, e1, q1⟩ := spec_len (show t0.length = 1 from q0)
    have en := List.eq_nil_of_length_eq_zero (show t1.length = 0 from q1)
    subst en
    subst e1
    subst e0
    rfl
  · intro W base args ds h
    obtain ⟨l⟩ := args
    rw [Try.params5] at h
    obtain ⟨v0, l0, d0, ds0, rfl, h0, h⟩ := args_cons h
    obtain ⟨v1, l1, d1, ds1, rfl, h1, h⟩ := args_cons h
    obtain rfl := args_nil h
    clear h
    obtain ⟨A0, c0, b0, rfl, hb⟩ := arg_bytes Try.underlying22 Try.underlying5 (by kernel_rfl) (by kernel_rfl) h0
    obtain ⟨n1, rfl, lo1, hi1⟩ := arg_int Try.underlying3 h1
    exact binFix_ok lo1 hi1 hb
theorem binFix_holds : Rows.BinFixSaid :=
  OpenClaim.holds_of_wide 5 Try.f5 rfl rfl rfl rfl rfl rfl rfl ⟨rfl, rfl, rfl, rfl, rfl⟩ rfl rfl rfl rfl rfl (by kernel_rfl) Try.func5 (by kernel_rfl)
    (of_decide_eq_true (by kernel_rfl)) (by unfold Func.isWrapper; first | (rw [if_pos (by decide +kernel)]; kernel_rfl) | (rw [if_neg (by decide +kernel)]; exact ⟨rfl, rfl⟩))
    (fun os started H enc _ => binFix_lifted os started H enc)
#print axioms binFix_holds

end Go.Proofs.Ytifnbemboednaaa
