/- RwBinJoins (printed by program: wip/gen) -/
import Derived.Test.YtifnbemboednaaaRwa
import Derived.Test.YtifnbemboednaaaLwu
namespace Go.Proofs.Ytifnbemboednaaa
open Go.ChangeShapes Go.WideShapes Go.ChangeAt Go.RowKit Go.Eng

set_option maxRecDepth 100000 in
theorem binJoins_lifted (os : Os) (started : os.Started) (H : Type) (enc : TypeId × Value → H) :
    ReturnsInHanded {} Try.checked os 15 .any (Rows.binJoinsSpec.pre6 enc Try.prog Try.f15 Rows.binJoinsRow.domain false) (Rows.binJoinsSpec.post enc Try.prog Try.f15 false true false false) := by
  refine law_lifted (C := Try.checked) Try.own started (by kernel_rfl) Try.func15
    (ChangeSpec.witness6 (enc := enc) (C := Try.checked) false ⟨#[], #[.slice none 0 0, .slice none 0 0, .slice none 0 0], []⟩ 8 (by kernel_rfl) (by kernel_rfl) (by kernel_rfl) (by kernel_rfl))
    Try.laidOut (by kernel_rfl) rfl rfl Try.underlying4 ?_ ?_
  · intro ds hq
    obtain ⟨d0, t0, e0, q0⟩ := spec_len (show ds.length = 3 from hq)
    obtain ⟨d1, t1, e1, q1⟩ := spec_len (show t0.length = 2 from q0)
    obtain ⟨d2, t2, e2, q2⟩ := spec_len (show t1.length = 1 from q1)
    have en := List.eq_nil_of_length_eq_zero (show t2.length = 0 from q2)
    subst en
    subst e2
    subst e1
    subst e0
    rfl
  · intro W base args ds h
    obtain ⟨l⟩ := args
    rw [Try.params15] at h
    obtain ⟨v0, l0, d0, ds0, rfl, h0, h⟩ := args_cons h
    obtain ⟨v1, l1, d1, ds1, rfl, h1, h⟩ := args_cons h
    obtain ⟨v2, l2, d2, ds2, rfl, h2, h⟩ := args_cons h
    obtain rfl := args_nil h
    clear h
    obtain ⟨A0, c0, b0, rfl, ha⟩ := arg_bytes Try.underlying22 Try.underlying5 (by kernel_rfl) (by kernel_rfl) h0
    obtain ⟨A1, c1, b1, rfl, hb⟩ := arg_bytes Try.underlying22 Try.underlying5 (by kernel_rfl) (by kernel_rfl) h1
    obtain ⟨A2, c2, b2, rfl, hc⟩ := arg_bytes Try.underlying22 Try.underlying5 (by kernel_rfl) (by kernel_rfl) h2
    exact binJoins_ok ha hb hc
theorem binJoins_holds : Rows.BinJoinsSaid :=
  OpenClaim.holds_of_wide 15 Try.f15 rfl rfl rfl rfl rfl rfl rfl ⟨rfl, rfl, rfl, rfl, rfl⟩ rfl rfl rfl rfl rfl (by kernel_rfl) Try.func15 (by kernel_rfl)
    (of_decide_eq_true (by kernel_rfl)) (by unfold Func.isWrapper; first | (rw [if_pos (by decide +kernel)]; kernel_rfl) | (rw [if_neg (by decide +kernel)]; exact ⟨rfl, rfl⟩))
    (fun os started H enc _ => binJoins_lifted os started H enc)
#print axioms binJoins_holds

end Go.Proofs.Ytifnbemboednaaa
