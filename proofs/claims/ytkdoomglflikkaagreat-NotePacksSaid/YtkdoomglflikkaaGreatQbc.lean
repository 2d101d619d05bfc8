/- What each of these functions computes, for every argument that its theorem names; a part of what the proof of NotePacks stands on. -/
import Derived.Test.YtkdoomglflikkaaGreatQac
import Derived.Test.YtkdoomglflikkaaGreatQad
import Derived.Test.YtkdoomglflikkaaGreatQag
import Derived.Test.YtkdoomglflikkaaGreatQah
import Derived.Test.YtkdoomglflikkaaGreatQaj
import Derived.Test.YtkdoomglflikkaaGreatQan
import Derived.Test.YtkdoomglflikkaaGreatQas
import Derived.Test.YtkdoomglflikkaaGreatQau
import Derived.Test.YtkdoomglflikkaaGreatQaw
import Derived.Test.YtkdoomglflikkaaGreatQaz
namespace Go.Proofs.YtkdoomglflikkaaGreat
open Go.RowKit Go.Eng Go.Eng _root_.Go.Proofs.Tryz
set_option maxRecDepth 100000
variable {w0 w : World} {M0 Fz : Nat → Prop} {H : List It} {A : Option Addr} {c : Nat}
theorem fitR {p : Prop} (h : p := by unfold FitsN; simp only [*, isSeq, true_or, or_true, or_false, false_or, or_self, if_true, if_false, true_and, and_true, false_and, and_false, not_false_eq_true, not_true_eq_false, Int.reduceEq, reduceIte]; try (first | omega | exact Iff.rfl | (simp_all; done) | (unfold isView at *; omega) | (unfold isView at *; simp_all; done) | (unfold isView at *; simp_all; omega))) : p := h
set_option maxHeartbeats 40000000 in
theorem rFits_ok {csn : List Value} {n : Nte} {Sn : Nat → Prop} (hn : noteR.rd Sn w csn n) : Ret prog 54 #[.agg csn.toArray] w (fun v w' => v = .bool (decide (FitsN n)) ∧ Ext w w') := by
 have qhn:=hn
 obtain ⟨hIn, An0, cn0, An1, cn1, An2, cn2, An3, cn3, An4, cn4, An5, cn5, An6, cn6, An7, cn7, An8, cn8, An9, cn9, An10, cn10, rfl, hn0, hn1, hn2, hn3, hn4, hn5, hn6, hn7, hn8, hn9, hn10⟩ := hn
 refine ret_of_wk func54 rfl ntmps54 leB_ ?_
 have hp:=HP.begin_ w
 refine so ?_
 refine Bx hp (h := fun gs1 w1 hp hE1 => so ?_)
 refine Cs (r12_within) ?_
 refine so ?_
 refine Cd ?_ ?_<;>intro hc1<;>refine so ?_
 refine Cd ?_ ?_<;>intro hc2<;>refine so ?_
 refine Cx hp (rWishMay_ok (rdTn qhn)) fun w3 hp hE3 => so ?_
 refine Pt ?_
 exact ⟨_, rfl, congrArg Value.bool (decide_eq_decide.2 fitR), hp.chg⟩
 exact absurd hc1 hc2
 refine Cd ?_ ?_<;>intro hc3<;>refine so ?_
 refine Cx hp (rWishMay_ok (rdTn qhn)) fun w4 hp hE4 => so ?_
 refine Pt ?_
 exact ⟨_, rfl, congrArg Value.bool (decide_eq_decide.2 fitR), hp.chg⟩
 refine Cd ?_ ?_<;>intro hc4<;>refine so ?_
 refine Cs (r12_within) ?_
 refine so ?_
 refine Gs 19 ?_ ?_<;>intro hg5<;>refine so ?_
 refine Cs (r12_within) ?_
 refine so ?_
 refine Gs 24 ?_ ?_<;>intro hg6<;>refine so ?_
 refine Cx hp (rAnswerMay_ok ⟨(hIn.ans), _, _, _, _, rfl, hn1.tn, hn2.tn⟩) fun w7 hp hE7 => so ?_
 refine Pt ?_
 exact ⟨_, rfl, congrArg Value.bool (decide_eq_decide.2 fitR), hp.chg⟩
 refine Pt ?_
 exact ⟨_, rfl, bool_f fitR, hp.chg⟩
 refine Pt ?_
 exact ⟨_, rfl, bool_f fitR, hp.chg⟩
 refine Cd ?_ ?_<;>intro hc7<;>refine so ?_
 refine Cs (r12_view) ?_
 refine so ?_
 refine Gs 34 ?_ ?_<;>intro hg8<;>refine so ?_
 refine Gs 37 ?_ ?_<;>intro hg9<;>refine so ?_
 refine Cx hp (rBatchMay_ok hn0.tn (rdTn qhn)) fun w9 hp hE9 => so ?_
 refine Pt ?_
 exact ⟨_, rfl, congrArg Value.bool (decide_eq_decide.2 fitR), hp.chg⟩
 refine Pt ?_
 exact ⟨_, rfl, bool_f fitR, hp.chg⟩
 refine Pt ?_
 exact ⟨_, rfl, bool_f fitR, hp.chg⟩
 refine Cd ?_ ?_<;>intro hc10<;>refine so ?_
 refine Cd ?_ ?_<;>intro hc11<;>refine so ?_
 refine Cs (r12_view) ?_
 refine so ?_
 refine Gs 49 ?_ ?_<;>intro hg12<;>refine so ?_
 refine Pt ?_
 exact ⟨_, rfl, congrArg Value.bool (decide_eq_decide.2 fitR), hp.chg⟩
 refine Pt ?_
 exact ⟨_, rfl, bool_f fitR, hp.chg⟩
 exact absurd hc10 hc11
 refine Cd ?_ ?_<;>intro hc13<;>refine so ?_
 refine Cs (r12_view) ?_
 refine so ?_
 refine Gs 49 ?_ ?_<;>intro hg14<;>refine so ?_
 refine Pt ?_
 exact ⟨_, rfl, congrArg Value.bool (decide_eq_decide.2 fitR), hp.chg⟩
 refine Pt ?_
 exact ⟨_, rfl, bool_f fitR, hp.chg⟩
 refine Cd ?_ ?_<;>intro hc15<;>refine so ?_
 refine Cd ?_ ?_<;>intro hc16<;>refine so ?_
 refine Pt ?_
 exact ⟨_, rfl, congrArg Value.bool (decide_eq_decide.2 fitR), hp.chg⟩
 exact absurd hc15 hc16
 refine Cd ?_ ?_<;>intro hc17<;>refine so ?_
 refine Pt ?_
 exact ⟨_, rfl, congrArg Value.bool (decide_eq_decide.2 fitR), hp.chg⟩
 refine Cd ?_ ?_<;>intro hc18<;>refine so ?_
 refine Cx hp (rChangeMay_ok ⟨(hIn.change), _, _, _, _, _, _, rfl, hn3.tn, hn4.tn, hn5.tn⟩) fun w12 hp hE12 => so ?_
 refine Gs 61 ?_ ?_<;>intro hg19<;>refine so ?_
 refine Pt ?_
 exact ⟨_, rfl, congrArg Value.bool (decide_eq_decide.2 fitR), hp.chg⟩
 refine Pt ?_
 exact ⟨_, rfl, bool_f fitR, hp.chg⟩
 refine Cd ?_ ?_<;>intro hc20<;>refine so ?_
 refine Cs (r12_view) ?_
 refine so ?_
 refine Gs 74 ?_ ?_<;>intro hg21<;>refine so ?_
 refine Gs 79 ?_ ?_<;>intro hg22<;>refine so ?_
 refine Cs (r12_node) ?_
 refine so ?_
 refine Gs 84 ?_ ?_<;>intro hg23<;>refine so ?_
 refine Pt ?_
 exact ⟨_, rfl, congrArg Value.bool (decide_eq_decide.2 fitR), hp.chg⟩
 refine Pt ?_
 exact ⟨_, rfl, bool_f fitR, hp.chg⟩
 refine Pt ?_
 exact ⟨_, rfl, bool_f fitR, hp.chg⟩
 refine Pt ?_
 exact ⟨_, rfl, bool_f fitR, hp.chg⟩
 refine Cd ?_ ?_<;>intro hc24<;>refine so ?_
 refine Cx hp (rNewMay_ok (rdTn qhn)) fun w15 hp hE15 => so ?_
 refine Pt ?_
 exact ⟨_, rfl, congrArg Value.bool (decide_eq_decide.2 fitR), hp.chg⟩
 refine Cd ?_ ?_<;>intro hc25<;>refine so ?_
 refine Cd ?_ ?_<;>intro hc26<;>refine so ?_
 refine Gs 99 ?_ ?_<;>intro hg27<;>refine so ?_
 refine Cs (r12_within) ?_
 refine so ?_
 refine Gs 104 ?_ ?_<;>intro hg28<;>refine so ?_
 refine Cs (r12_within) ?_
 refine so ?_
 refine Gs 109 ?_ ?_<;>intro hg29<;>refine so ?_
 refine Gs 115 ?_ ?_<;>intro hg30<;>refine so ?_
 refine Pt ?_
 exact ⟨_, rfl, congrArg Value.bool (decide_eq_decide.2 fitR), hp.chg⟩
 refine Pt ?_
 exact ⟨_, rfl, bool_f fitR, hp.chg⟩
 refine Pt ?_
 exact ⟨_, rfl, bool_f fitR, hp.chg⟩
 refine Pt ?_
 exact ⟨_, rfl, bool_f fitR, hp.chg⟩
 refine Pt ?_
 exact ⟨_, rfl, bool_f fitR, hp.chg⟩
 exact absurd hc25 hc26
 refine Cd ?_ ?_<;>intro hc31<;>refine so ?_
 refine Gs 99 ?_ ?_<;>intro hg32<;>refine so ?_
 refine Cs (r12_within) ?_
 refine so ?_
 refine Gs 104 ?_ ?_<;>intro hg33<;>refine so ?_
 refine Cs (r12_within) ?_
 refine so ?_
 refine Gs 109 ?_ ?_<;>intro hg34<;>refine so ?_
 refine Gs 115 ?_ ?_<;>intro hg35<;>refine so ?_
 refine Pt ?_
 exact ⟨_, rfl, congrArg Value.bool (decide_eq_decide.2 fitR), hp.chg⟩
 refine Pt ?_
 exact ⟨_, rfl, bool_f fitR, hp.chg⟩
 refine Pt ?_
 exact ⟨_, rfl, bool_f fitR, hp.chg⟩
 refine Pt ?_
 exact ⟨_, rfl, bool_f fitR, hp.chg⟩
 refine Pt ?_
 exact ⟨_, rfl, bool_f fitR, hp.chg⟩
 refine Cd ?_ ?_<;>intro hc36<;>refine so ?_
 refine Cx hp (rRising_ok hn10.tn) fun w20 hp hE20 => so ?_
 refine Pt ?_
 exact ⟨_, rfl, congrArg Value.bool (decide_eq_decide.2 fitR), hp.chg⟩
 refine Cd ?_ ?_<;>intro hc37<;>refine so ?_
 refine Cx hp (rBatchMay_ok hn0.tn (rdTn qhn)) fun w21 hp hE21 => so ?_
 refine Pt ?_
 exact ⟨_, rfl, congrArg Value.bool (decide_eq_decide.2 fitR), hp.chg⟩
 refine Gs 133 ?_ ?_<;>intro hg38<;>refine so ?_
 refine Cx hp (rBatchMay_ok hn0.tn (rdTn qhn)) fun w22 hp hE22 => so ?_
 refine Pt ?_
 exact ⟨_, rfl, congrArg Value.bool (decide_eq_decide.2 fitR), hp.chg⟩
 refine Pt ?_
 exact ⟨_, rfl, bool_f fitR, hp.chg⟩
end Go.Proofs.YtkdoomglflikkaaGreat
