/- What each of these functions computes, for every argument that its theorem names; a part of what the proof of ImageOnce stands on. -/
import Derived.Test.YtmbpneaibmldfaaGreatAac
import Derived.Test.YtmbpneaibmldfaaGreatAad
import Derived.Test.YtmbpneaibmldfaaGreatAag
namespace Go.Proofs.YtmbpneaibmldfaaGreat
open Go.RowKit Go.Eng Go.Eng _root_.Go.Proofs.Tryz
set_option maxRecDepth 100000
variable {w0 w:World} {M0 Fz:Nat→Prop} {H:List It} {A:Option Addr} {c:Nat}
theorem t0_wmay_ok {p:Prop} (h:p:=by unfold WishMay;first|omega|(by_cases hnm:nextMay w0.next<;>simp only [hnm,true_and,and_true,and_false,false_and,or_false,false_or,not_true_eq_false,not_false_eq_true,true_iff,false_iff,iff_true,iff_false] at * <;>omega)):p:=h
set_option maxHeartbeats 40000000 in
theorem wmay_ok {csw0:List Value} {w0:Wsh} {Sw0:Nat→Prop} (hw0:wishR.rd Sw0 w csw0 w0):Ret prog 184 #[.agg csw0.toArray] w (fun v w'=>v= .bool (decide (WishMay w0))∧Ext w w'):=by
 obtain ⟨hIw0,Aw00,cw00,Aw01,cw01,rfl,hw00,hw01⟩:=hw0
 refine ret_of_wk func184 rfl ntmps184 leB_ ?_
 have hp:=HP.begin_ w
 refine so ?_
 refine Bx hp (h:=fun gs1 w1 hp hE1=> ?_)
 replace hp:=hp.ay (itB gs1 112 ([iv w0.client,iv w0.stamp,iv w0.group,iv w0.epoch,iv w0.kind,iv w0.block, .slice Aw00 w0.data.length cw00,iv w0.old,iv w0.new, .slice Aw01 w0.next.length cw01])::_)
 refine so ?_
 refine Cs (w_within) ?_
 refine so ?_
 refine Cd ?_ ?_<;>intro hc1<;>refine so ?_
 refine Pt ?_
 exact ⟨_,rfl,bool_f t0_wmay_ok,hp.chg⟩
 refine Cd ?_ ?_<;>intro hc2<;>refine so ?_
 refine Gs 16 ?_ ?_<;>intro hg3<;>refine so ?_
 refine Gs 21 ?_ ?_<;>intro hg4<;>refine so ?_
 refine Gs 26 ?_ ?_<;>intro hg5<;>refine so ?_
 refine Gs 32 ?_ ?_<;>intro hg6<;>refine so ?_
 refine Gs 37 ?_ ?_<;>intro hg7<;>refine so ?_
 refine Gs 43 ?_ ?_<;>intro hg8<;>refine so ?_
 refine Cs (w_within) ?_
 refine so ?_
 refine Gs 48 ?_ ?_<;>intro hg9<;>refine so ?_
 refine Cs (crew_ok hw01.tn) ?_
 refine so ?_
 refine Pt ?_
 exact ⟨_,rfl,congrArg Value.bool (decide_eq_decide.2 t0_wmay_ok),hp.chg⟩
 refine Pt ?_
 exact ⟨_,rfl,bool_f t0_wmay_ok,hp.chg⟩
 refine Pt ?_
 exact ⟨_,rfl,bool_f t0_wmay_ok,hp.chg⟩
 refine Pt ?_
 exact ⟨_,rfl,bool_f t0_wmay_ok,hp.chg⟩
 refine Pt ?_
 exact ⟨_,rfl,bool_f t0_wmay_ok,hp.chg⟩
 refine Pt ?_
 exact ⟨_,rfl,bool_f t0_wmay_ok,hp.chg⟩
 refine Pt ?_
 exact ⟨_,rfl,bool_f t0_wmay_ok,hp.chg⟩
 refine Pt ?_
 exact ⟨_,rfl,bool_f t0_wmay_ok,hp.chg⟩
 refine Cs (w_within) ?_
 refine so ?_
 refine Gs 57 ?_ ?_<;>intro hg10<;>refine so ?_
 refine aT (so ?_)
 refine Pt ?_
 exact ⟨_,rfl,bool_f t0_wmay_ok,hp.chg⟩
 refine Cs (w_within) ?_
 refine so ?_
 refine Gs 63 ?_ ?_<;>intro hg11<;>refine so ?_
 refine aT (so ?_)
 refine Pt ?_
 exact ⟨_,rfl,bool_f t0_wmay_ok,hp.chg⟩
 refine Cd ?_ ?_<;>intro hc12<;>refine so ?_
 refine Pt ?_
 exact ⟨_,rfl,bool_f t0_wmay_ok,hp.chg⟩
 refine Cd ?_ ?_<;>intro hc13<;>refine so ?_
 refine Cs (w_within) ?_
 refine so ?_
 refine Gs 83 ?_ ?_<;>intro hg14<;>refine so ?_
 refine aT (so ?_)
 refine Pt ?_
 exact ⟨_,rfl,bool_f t0_wmay_ok,hp.chg⟩
 refine Cs (w_within) ?_
 refine so ?_
 refine Cd ?_ ?_<;>intro hc15<;>refine so ?_
 refine Pt ?_
 exact ⟨_,rfl,bool_f t0_wmay_ok,hp.chg⟩
 refine aF (so ?_)
 refine Gs 130 ?_ ?_<;>intro hg16<;>refine so ?_
 refine Gs 135 ?_ ?_<;>intro hg17<;>refine so ?_
 refine Pt ?_
 exact ⟨_,rfl,congrArg Value.bool (decide_eq_decide.2 t0_wmay_ok),hp.chg⟩
 refine Pt ?_
 exact ⟨_,rfl,bool_f t0_wmay_ok,hp.chg⟩
 refine Pt ?_
 exact ⟨_,rfl,bool_f t0_wmay_ok,hp.chg⟩
 refine Cd ?_ ?_<;>intro hc18<;>refine so ?_
 refine Cs (w_within) ?_
 refine so ?_
 refine Gs 83 ?_ ?_<;>intro hg19<;>refine so ?_
 refine aT (so ?_)
 refine Pt ?_
 exact ⟨_,rfl,bool_f t0_wmay_ok,hp.chg⟩
 refine Cs (w_within) ?_
 refine so ?_
 refine Cd ?_ ?_<;>intro hc20<;>refine so ?_
 refine Pt ?_
 exact ⟨_,rfl,bool_f t0_wmay_ok,hp.chg⟩
 refine aF (so ?_)
 refine Gs 130 ?_ ?_<;>intro hg21<;>refine so ?_
 refine Gs 135 ?_ ?_<;>intro hg22<;>refine so ?_
 refine Pt ?_
 exact ⟨_,rfl,congrArg Value.bool (decide_eq_decide.2 t0_wmay_ok),hp.chg⟩
 refine Pt ?_
 exact ⟨_,rfl,bool_f t0_wmay_ok,hp.chg⟩
 refine Pt ?_
 exact ⟨_,rfl,bool_f t0_wmay_ok,hp.chg⟩
 refine Cd ?_ ?_<;>intro hc23<;>refine so ?_
 refine Gs 92 ?_ ?_<;>intro hg24<;>refine so ?_
 refine aT (so ?_)
 refine Pt ?_
 exact ⟨_,rfl,bool_f t0_wmay_ok,hp.chg⟩
 refine Gs 97 ?_ ?_<;>intro hg25<;>refine so ?_
 refine aT (so ?_)
 refine Pt ?_
 exact ⟨_,rfl,bool_f t0_wmay_ok,hp.chg⟩
 refine Cs (w_within) ?_
 refine so ?_
 refine Cd ?_ ?_<;>intro hc26<;>refine so ?_
 refine Pt ?_
 exact ⟨_,rfl,bool_f t0_wmay_ok,hp.chg⟩
 refine aT (so ?_)
 refine Gs 108 ?_ ?_<;>intro hg27<;>refine so ?_
 refine Cs (w_within) ?_
 refine so ?_
 refine Gs 113 ?_ ?_<;>intro hg28<;>refine so ?_
 refine Cs (w_within) ?_
 refine so ?_
 refine Gs 118 ?_ ?_<;>intro hg29<;>refine so ?_
 refine Pt ?_
 exact ⟨_,rfl,congrArg Value.bool (decide_eq_decide.2 t0_wmay_ok),hp.chg⟩
 refine Pt ?_
 exact ⟨_,rfl,bool_f t0_wmay_ok,hp.chg⟩
 refine Pt ?_
 exact ⟨_,rfl,bool_f t0_wmay_ok,hp.chg⟩
 refine Pt ?_
 exact ⟨_,rfl,bool_f t0_wmay_ok,hp.chg⟩
 refine Cd ?_ ?_<;>intro hc30<;>refine so ?_
 refine Gs 92 ?_ ?_<;>intro hg31<;>refine so ?_
 refine aT (so ?_)
 refine Pt ?_
 exact ⟨_,rfl,bool_f t0_wmay_ok,hp.chg⟩
 refine Gs 97 ?_ ?_<;>intro hg32<;>refine so ?_
 refine aT (so ?_)
 refine Pt ?_
 exact ⟨_,rfl,bool_f t0_wmay_ok,hp.chg⟩
 refine Cs (w_within) ?_
 refine so ?_
 refine Cd ?_ ?_<;>intro hc33<;>refine so ?_
 refine Pt ?_
 exact ⟨_,rfl,bool_f t0_wmay_ok,hp.chg⟩
 refine aF (so ?_)
 refine Gs 130 ?_ ?_<;>intro hg34<;>refine so ?_
 refine Gs 135 ?_ ?_<;>intro hg35<;>refine so ?_
 refine Pt ?_
 exact ⟨_,rfl,congrArg Value.bool (decide_eq_decide.2 t0_wmay_ok),hp.chg⟩
 refine Pt ?_
 exact ⟨_,rfl,bool_f t0_wmay_ok,hp.chg⟩
 refine Pt ?_
 exact ⟨_,rfl,bool_f t0_wmay_ok,hp.chg⟩
 refine Pt ?_
 exact ⟨_,rfl,bool_f t0_wmay_ok,hp.chg⟩
end Go.Proofs.YtmbpneaibmldfaaGreat
