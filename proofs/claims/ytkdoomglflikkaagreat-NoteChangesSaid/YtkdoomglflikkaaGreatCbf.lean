/- What each of these functions computes, for every argument that its theorem names; a part of what the proof of NoteChecks stands on. -/
import Derived.Test.YtkdoomglflikkaaGreatCac
import Derived.Test.YtkdoomglflikkaaGreatCak
import Derived.Test.YtkdoomglflikkaaGreatCbd
namespace Go.Proofs.YtkdoomglflikkaaGreat
open Go.RowKit Go.Eng Go.Eng _root_.Go.Proofs.Tryz
set_option maxRecDepth 100000
variable {w0 w : World} {M0 Fz : Nat → Prop} {H : List It} {A : Option Addr} {c : Nat}
set_option maxHeartbeats 40000000 in
theorem same1_ok {csp : List Value} {p : Pck} {Sp : Nat → Prop} {csq : List Value} {q : Pck} {Sq : Nat → Prop} (hp : pickR.rd Sp w csp p) (hq : pickR.rd Sq w csq q) : Ret prog 68 #[.agg csp.toArray, .agg csq.toArray] w (fun v w' => v = .bool (decide (p = q)) ∧ Ext w w') := by
 obtain ⟨hIp, Ap0, cp0, rfl, hp0⟩ := hp
 obtain ⟨hIq, Aq0, cq0, rfl, hq0⟩ := hq
 refine ret_of_wk func68 rfl ntmps68 leB_ ?_
 have hp:=HP.begin_ w
 refine so ?_
 refine Bx hp (h := fun gs2 w1 hp hE1 => ?_)
 replace hp:=hp.ay (itB gs2 66 ([iv p.seq] ++ (digC p.dig ++ ([.slice Ap0 p.batch.length cp0]))) :: _)
 refine Bx hp (h := fun gs3 w2 hp hE2 => ?_)
 replace hp:=hp.ay (itB gs3 66 ([iv q.seq] ++ (digC q.dig ++ ([.slice Aq0 q.batch.length cq0]))) :: _)
 refine so ?_
 refine Gs 10 ?_ ?_<;>intro hg1<;>refine so ?_
 refine wl_eqlK (m := 6) (p.dig = q.dig) (by decide) key23 eg23 rfl rfl (digC_fit _) (digC_fit _) digC_inj ?_
 refine so ?_
 refine Gs 17 ?_ ?_<;>intro hg2<;>refine so ?_
 refine Cx hp (sameBatch_ok hp0.tn hq0.tn) fun w3 hp hE3 => so ?_
 refine Pt ?_
 exact ⟨_, rfl, congrArg Value.bool (decide_eq_decide.2 (by rw [Pck_eq]; simp_all)), hp.chg⟩
 refine Pt ?_
 exact ⟨_, rfl, bool_f (by rw [Pck_eq]; simp_all), hp.chg⟩
 refine Pt ?_
 exact ⟨_, rfl, bool_f (by rw [Pck_eq]; simp_all), hp.chg⟩
end Go.Proofs.YtkdoomglflikkaaGreat
