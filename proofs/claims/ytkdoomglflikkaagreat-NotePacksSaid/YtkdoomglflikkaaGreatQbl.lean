/- What each of these functions computes, for every argument that its theorem names; a part of what the proof of NotePacks stands on. -/
import Derived.Test.YtkdoomglflikkaaGreatQac
import Derived.Test.YtkdoomglflikkaaGreatQad
import Derived.Test.YtkdoomglflikkaaGreatQah
import Derived.Test.YtkdoomglflikkaaGreatQan
import Derived.Test.YtkdoomglflikkaaGreatQbf
namespace Go.Proofs.YtkdoomglflikkaaGreat
open Go.RowKit Go.Eng Go.Eng _root_.Go.Proofs.Tryz
set_option maxRecDepth 100000
variable {w0 w : World} {M0 Fz : Nat → Prop} {H : List It} {A : Option Addr} {c : Nat}
theorem t0_nMay_ok {p : Prop} (h : p := by unfold MayN; first | omega | (simp only [hg1, hg5, hg6, hg7, hg8, hg9, true_and, and_true, false_and, and_false]; omega) | simp_all) : p := h
theorem t1_nMay_ok {p : Prop} (h : p := by unfold MayN; first | omega | (simp only [hg1, hg2, hg3, hg4, true_and, and_true, false_and, and_false]; omega) | simp_all) : p := h
set_option maxHeartbeats 40000000 in
theorem nMay_ok {csn : List Value} {n : Nte} {Sn : Nat → Prop} (hn : noteR.rd Sn w csn n) (hch : n.changes.length * 96 ≤ 140737488355328) : Ret prog 38 #[.agg csn.toArray] w (fun v w' => v = .bool (decide (MayN n)) ∧ Ext w w') := by
 have qhn:=hn
 obtain ⟨hIn, An0, cn0, An1, cn1, An2, cn2, An3, cn3, An4, cn4, An5, cn5, An6, cn6, An7, cn7, An8, cn8, An9, cn9, An10, cn10, rfl, hn0, hn1, hn2, hn3, hn4, hn5, hn6, hn7, hn8, hn9, hn10⟩ := hn
 refine ret_of_wk func38 rfl ntmps38 leB_ ?_
 have hp:=HP.begin_ w
 refine so ?_
 refine Bx hp (h := fun gs1 w1 hp hE1 => so ?_)
 refine Gs 8 ?_ ?_<;>intro hg1<;>refine so ?_
 refine Cs (n_within) ?_
 refine so ?_
 refine Gs 16 ?_ ?_<;>intro hg2<;>refine so ?_
 refine Cs (n_within) ?_
 refine so ?_
 refine Gs 21 ?_ ?_<;>intro hg3<;>refine so ?_
 refine Cs (n_within) ?_
 refine so ?_
 refine Gs 26 ?_ ?_<;>intro hg4<;>refine so ?_
 refine Cx hp (nFits_ok (rdTn qhn) (by omega)) fun w5 hp hE5 => so ?_
 refine Pt ?_
 exact ⟨_, rfl, congrArg Value.bool (decide_eq_decide.2 t1_nMay_ok), hp.chg⟩
 refine Pt ?_
 exact ⟨_, rfl, bool_f t1_nMay_ok, hp.chg⟩
 refine Pt ?_
 exact ⟨_, rfl, bool_f (by unfold MayN; first | omega | (simp only [hg1, hg2, hg3, true_and, and_true, false_and, and_false]; omega) | simp_all), hp.chg⟩
 refine Pt ?_
 exact ⟨_, rfl, bool_f (by unfold MayN; first | omega | (simp only [hg1, hg2, true_and, and_true, false_and, and_false]; omega) | simp_all), hp.chg⟩
 refine Cs (n_within) ?_
 refine so ?_
 refine Gs 16 ?_ ?_<;>intro hg5<;>refine so ?_
 refine Cs (n_within) ?_
 refine so ?_
 refine Gs 21 ?_ ?_<;>intro hg6<;>refine so ?_
 refine Cs (n_within) ?_
 refine so ?_
 refine Gs 26 ?_ ?_<;>intro hg7<;>refine so ?_
 refine Gs 28 ?_ ?_<;>intro hg8<;>refine so ?_
 refine Cx hp (nFits_ok (rdTn qhn) (by omega)) fun w9 hp hE9 => so ?_
 refine Pt ?_
 exact ⟨_, rfl, congrArg Value.bool (decide_eq_decide.2 (by unfold MayN; first | omega | (simp only [hg6, hg7, hg8, true_and]; omega) | simp_all)), hp.chg⟩
 refine Cs (n_isNode) ?_
 refine so ?_
 refine Gs 35 ?_ ?_<;>intro hg9<;>refine so ?_
 refine Cx hp (nFits_ok (rdTn qhn) (by omega)) fun w11 hp hE11 => so ?_
 refine Pt ?_
 exact ⟨_, rfl, congrArg Value.bool (decide_eq_decide.2 t0_nMay_ok), hp.chg⟩
 refine Pt ?_
 exact ⟨_, rfl, bool_f t0_nMay_ok, hp.chg⟩
 refine Pt ?_
 exact ⟨_, rfl, bool_f (by unfold MayN; first | omega | (simp only [hg1, hg5, hg6, hg7, true_and, and_true, false_and, and_false]; omega) | simp_all), hp.chg⟩
 refine Pt ?_
 exact ⟨_, rfl, bool_f (by unfold MayN; first | omega | (simp only [hg1, hg5, hg6, true_and, and_true, false_and, and_false]; omega) | simp_all), hp.chg⟩
 refine Pt ?_
 exact ⟨_, rfl, bool_f (by unfold MayN; first | omega | (simp only [hg1, hg5, true_and, and_true, false_and, and_false]; omega) | simp_all), hp.chg⟩
end Go.Proofs.YtkdoomglflikkaaGreat
