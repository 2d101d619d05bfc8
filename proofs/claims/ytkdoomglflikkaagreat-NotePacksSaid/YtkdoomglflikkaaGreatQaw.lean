/- What each of these functions computes, for every argument that its theorem names; a part of what the proof of NotePacks stands on. -/
import Derived.Test.YtkdoomglflikkaaGreatQac
import Derived.Test.YtkdoomglflikkaaGreatQad
import Derived.Test.YtkdoomglflikkaaGreatQaj
import Derived.Test.YtkdoomglflikkaaGreatQan
import Derived.Test.YtkdoomglflikkaaGreatQau
namespace Go.Proofs.YtkdoomglflikkaaGreat
open Go.RowKit Go.Eng Go.Eng _root_.Go.Proofs.Tryz
set_option maxRecDepth 100000
variable {w0 w : World} {M0 Fz : Nat → Prop} {H : List It} {A : Option Addr} {c : Nat}
theorem t0_rWishMay_ok {p : Prop} (h : p := by unfold WishNote; first | omega | (simp_all; done) | (simp_all; omega) | (simp_all; intros; omega)) : p := h
set_option maxHeartbeats 40000000 in
theorem rWishMay_ok {csn : List Value} {n : Nte} {Sn : Nat → Prop} (hn : noteR.rd Sn w csn n) : Ret prog 87 #[.agg csn.toArray] w (fun v w' => v = .bool (decide (WishNote n)) ∧ Ext w w') := by
 have qhn:=hn
 obtain ⟨hIn, An0, cn0, An1, cn1, An2, cn2, An3, cn3, An4, cn4, An5, cn5, An6, cn6, An7, cn7, An8, cn8, An9, cn9, An10, cn10, rfl, hn0, hn1, hn2, hn3, hn4, hn5, hn6, hn7, hn8, hn9, hn10⟩ := hn
 refine ret_of_wk func87 rfl ntmps87 leB_ ?_
 have hp:=HP.begin_ w
 refine so ?_
 refine Bx hp (h := fun gs1 w1 hp hE1 => so ?_)
 by_cases hs1 : (n.batch.length : Int) ≠ 1
 refine wP 27 hp (h := fun wD hp hED => so ?_)
 refine aT (so ?_)
 refine Pt ?_
 exact ⟨_, rfl, bool_f t0_rWishMay_ok, hp.chg⟩
 by_cases hs2 : BatchMay n.batch n.group n.epoch
 by_cases hs3 : (n.batch.getD 0 wish0).client ≠ n.from_
 obtain ⟨aw14, pw14_0, qw14_0, pw14_1, qw14_1, hAw14, hatw14, hIw14, hw14_0, hw14_1⟩ := wishR_el (hn0.tn (w' := w1)) 0 (by omega)
 refine wdP 27 hp (fun wD hp hED => by refine pm ?_; exact PLeg (rBatchMay_ok hn0.tn (rdTn qhn)) (h := pl)) fun wD hp hED => ?_
 refine so ?_
 refine aT (so ?_)
 refine Pt ?_
 exact ⟨_, rfl, bool_f t0_rWishMay_ok, hp.chg⟩
 obtain ⟨aw14, pw14_0, qw14_0, pw14_1, qw14_1, hAw14, hatw14, hIw14, hw14_0, hw14_1⟩ := wishR_el (hn0.tn (w' := w1)) 0 (by omega)
 refine wdP 27 hp (fun wD hp hED => by refine pm ?_; exact PLeg (rBatchMay_ok hn0.tn (rdTn qhn)) (h := by refine pm ?_; exact PLsg (r12_within) (h := pl))) fun wD hp hED => ?_
 refine so ?_
 refine Cd ?_ ?_<;>intro hc4<;>refine so ?_
 refine Pt ?_
 exact ⟨_, rfl, bool_f t0_rWishMay_ok, hp.chg⟩
 refine Gs 33 ?_ ?_<;>intro hg5<;>refine so ?_
 refine Pt ?_
 exact ⟨_, rfl, bool_t t0_rWishMay_ok, hp.chg⟩
 obtain ⟨ae2, pe2_0, qe2_0, pe2_1, qe2_1, hAe2, hate2, hIe2, he2_0, he2_1⟩ := wishR_el (hn0.tn (w' := wD)) 0 (by omega)
 cases Option.some.inj (hAw14.symm.trans hAe2)
 refine so ?_
 refine Pt ?_
 exact ⟨_, rfl, congrArg Value.bool (decide_eq_decide.2 t0_rWishMay_ok), hp.chg⟩
 refine wdP 27 hp (fun wD hp hED => by refine pm ?_; exact PLeg (rBatchMay_ok hn0.tn (rdTn qhn)) (h := pl)) fun wD hp hED => ?_
 refine so ?_
 refine aT (so ?_)
 refine Pt ?_
 exact ⟨_, rfl, bool_f t0_rWishMay_ok, hp.chg⟩
end Go.Proofs.YtkdoomglflikkaaGreat
