/- What each of these functions computes, for every argument that its theorem names; a part of what the proof of ImageOnce stands on. -/
import Derived.Test.YtmbpneaibmldfaaGreatAac
import Derived.Test.YtmbpneaibmldfaaGreatAad
import Derived.Test.YtmbpneaibmldfaaGreatAaf
import Derived.Test.YtmbpneaibmldfaaGreatAag
import Derived.Test.YtmbpneaibmldfaaGreatAai
import Derived.Test.YtmbpneaibmldfaaGreatAaj
import Derived.Test.YtmbpneaibmldfaaGreatAak
import Derived.Test.YtmbpneaibmldfaaGreatAal
import Derived.Test.YtmbpneaibmldfaaGreatAar
import Derived.Test.YtmbpneaibmldfaaGreatAas
import Derived.Test.YtmbpneaibmldfaaGreatAau
namespace Go.Proofs.YtmbpneaibmldfaaGreat
open Go.RowKit Go.Eng Go.Eng _root_.Go.Proofs.Tryz
set_option maxRecDepth 100000
variable {w0 w:World} {M0 Fz:Nat→Prop} {H:List It} {A:Option Addr} {c:Nat}
theorem fitT {p:Prop} (h:p:=by unfold FitsN;simp only [*,WishNote_iff,nodesR_iff,true_or,or_true,or_false,false_or,or_self,if_true,if_false,true_and,and_true,false_and,and_false,and_self,not_false_eq_true,not_true_eq_false,Int.reduceEq,reduceIte];try (first|omega|exact Iff.rfl|exact ⟨fun h=>⟨h,by omega,by omega⟩,fun h=>h.1⟩|(simp_all;done)|(unfold isView at *;omega)|(unfold isView at *;simp_all;done)|(unfold isView at *;simp_all;omega))):p:=h
set_option maxHeartbeats 40000000 in
theorem nFits_ok {csn:List Value} {n:Nte} {Sn:Nat→Prop} (hn:noteR.rd Sn w csn n) (hch:n.changes.length*96≤140737488355328):Ret prog 168 #[.agg csn.toArray] w (fun v w'=>v= .bool (decide (FitsN n))∧Ext w w'):=by
 have qhn:=hn
 obtain ⟨hIn,An0,cn0,An1,cn1,An2,cn2,An3,cn3,An4,cn4,An5,cn5,An6,cn6,An7,cn7,An8,cn8,An9,cn9,An10,cn10,rfl,hn0,hn1,hn2,hn3,hn4,hn5,hn6,hn7,hn8,hn9,hn10⟩:=hn
 refine ret_of_wk func168 rfl ntmps168 leB_ ?_
 have hp:=HP.begin_ w
 refine so ?_
 refine Bx hp (h:=fun gs1 w1 hp hE1=>so ?_)
 refine Cd ?_ ?_<;>intro hc1<;>refine so ?_
 refine Cd ?_ ?_<;>intro hc2<;>refine so ?_
 by_cases hs3:(n.batch.length:Int)=1
 by_cases hs4:BatchMay n.batch n.group n.epoch
 by_cases hs5:31≤n.from_∧n.from_≤34
 obtain ⟨aw18,pw18_0,qw18_0,pw18_1,qw18_1,hAw18,hatw18,hIw18,hw18_0,hw18_1⟩:=wishR_el (hn0.tn (w':=w1)) 0 (by omega)
 refine wdP 26 hp (fun wD hp hED=>by refine pm ?_;exact PLeg (nBatchMay_ok hn0.tn (rdTn qhn)) (h:=by refine pm ?_;exact PLsg (n_isClient) (h:=pl))) fun wD hp hED=> ?_
 refine so ?_
 refine Gs 35 ?_ ?_<;>intro hg6<;>refine so ?_
 refine Gs 39 ?_ ?_<;>intro hg7<;>refine so ?_
 refine Pt ?_
 exact ⟨_,rfl,bool_t fitT,hp.chg⟩
 obtain ⟨ae2,pe2_0,qe2_0,pe2_1,qe2_1,hAe2,hate2,hIe2,he2_0,he2_1⟩:=wishR_el (hn0.tn (w':=wD)) 0 (by omega)
 cases Option.some.inj (hAw18.symm.trans hAe2)
 refine so ?_
 refine Pt ?_
 exact ⟨_,rfl,congrArg Value.bool (decide_eq_decide.2 fitT),hp.chg⟩
 refine Pt ?_
 exact ⟨_,rfl,bool_f fitT,hp.chg⟩
 refine wdP 26 hp (fun wD hp hED=>by refine pm ?_;exact PLeg (nBatchMay_ok hn0.tn (rdTn qhn)) (h:=by refine pm ?_;exact PLsg (n_isClient) (h:=pl))) fun wD hp hED=> ?_
 refine so ?_
 refine Pt ?_
 exact ⟨_,rfl,bool_f fitT,hp.chg⟩
 refine wdP 26 hp (fun wD hp hED=>by refine pm ?_;exact PLeg (nBatchMay_ok hn0.tn (rdTn qhn)) (h:=pl)) fun wD hp hED=> ?_
 refine so ?_
 refine Pt ?_
 exact ⟨_,rfl,bool_f fitT,hp.chg⟩
 refine wP 26 hp (h:=fun wD hp hED=>so ?_)
 refine Pt ?_
 exact ⟨_,rfl,bool_f fitT,hp.chg⟩
 exact absurd hc1 hc2
 refine Cd ?_ ?_<;>intro hc8<;>refine so ?_
 by_cases hs9:(n.batch.length:Int)=1
 by_cases hs10:BatchMay n.batch n.group n.epoch
 by_cases hs11:31≤n.from_∧n.from_≤34
 obtain ⟨aw18,pw18_0,qw18_0,pw18_1,qw18_1,hAw18,hatw18,hIw18,hw18_0,hw18_1⟩:=wishR_el (hn0.tn (w':=w1)) 0 (by omega)
 refine wdP 26 hp (fun wD hp hED=>by refine pm ?_;exact PLeg (nBatchMay_ok hn0.tn (rdTn qhn)) (h:=by refine pm ?_;exact PLsg (n_isClient) (h:=pl))) fun wD hp hED=> ?_
 refine so ?_
 refine Gs 35 ?_ ?_<;>intro hg12<;>refine so ?_
 refine Gs 39 ?_ ?_<;>intro hg13<;>refine so ?_
 refine Pt ?_
 exact ⟨_,rfl,bool_t fitT,hp.chg⟩
 obtain ⟨ae3,pe3_0,qe3_0,pe3_1,qe3_1,hAe3,hate3,hIe3,he3_0,he3_1⟩:=wishR_el (hn0.tn (w':=wD)) 0 (by omega)
 cases Option.some.inj (hAw18.symm.trans hAe3)
 refine so ?_
 refine Pt ?_
 exact ⟨_,rfl,congrArg Value.bool (decide_eq_decide.2 fitT),hp.chg⟩
 refine Pt ?_
 exact ⟨_,rfl,bool_f fitT,hp.chg⟩
 refine wdP 26 hp (fun wD hp hED=>by refine pm ?_;exact PLeg (nBatchMay_ok hn0.tn (rdTn qhn)) (h:=by refine pm ?_;exact PLsg (n_isClient) (h:=pl))) fun wD hp hED=> ?_
 refine so ?_
 refine Pt ?_
 exact ⟨_,rfl,bool_f fitT,hp.chg⟩
 refine wdP 26 hp (fun wD hp hED=>by refine pm ?_;exact PLeg (nBatchMay_ok hn0.tn (rdTn qhn)) (h:=pl)) fun wD hp hED=> ?_
 refine so ?_
 refine Pt ?_
 exact ⟨_,rfl,bool_f fitT,hp.chg⟩
 refine wP 26 hp (h:=fun wD hp hED=>so ?_)
 refine Pt ?_
 exact ⟨_,rfl,bool_f fitT,hp.chg⟩
 refine Cd ?_ ?_<;>intro hc14<;>refine so ?_
 refine Cs (n_isClient) ?_
 refine so ?_
 refine Gs 53 ?_ ?_<;>intro hg15<;>refine so ?_
 refine Cs (n_within) ?_
 refine so ?_
 refine Gs 58 ?_ ?_<;>intro hg16<;>refine so ?_
 refine Cx hp (nAnswerMay_ok ⟨(hIn.ans),_,_,_,_,rfl,hn1.tn,hn2.tn⟩) fun w6 hp hE6=>so ?_
 refine Pt ?_
 exact ⟨_,rfl,congrArg Value.bool (decide_eq_decide.2 fitT),hp.chg⟩
 refine Pt ?_
 exact ⟨_,rfl,bool_f fitT,hp.chg⟩
 refine Pt ?_
 exact ⟨_,rfl,bool_f fitT,hp.chg⟩
 refine Cd ?_ ?_<;>intro hc17<;>refine so ?_
 refine Cs (n_isView) ?_
 refine so ?_
 refine Gs 68 ?_ ?_<;>intro hg18<;>refine so ?_
 refine Cs (n_isSeq) ?_
 refine so ?_
 refine Gs 73 ?_ ?_<;>intro hg19<;>refine so ?_
 refine Cx hp (nBatchMay_ok hn0.tn (rdTn qhn)) fun w9 hp hE9=>so ?_
 refine Pt ?_
 exact ⟨_,rfl,congrArg Value.bool (decide_eq_decide.2 fitT),hp.chg⟩
 refine Pt ?_
 exact ⟨_,rfl,bool_f fitT,hp.chg⟩
 refine Pt ?_
 exact ⟨_,rfl,bool_f fitT,hp.chg⟩
 refine Cd ?_ ?_<;>intro hc20<;>refine so ?_
 refine Cd ?_ ?_<;>intro hc21<;>refine so ?_
 refine Cs (n_isView) ?_
 refine so ?_
 refine Gs 85 ?_ ?_<;>intro hg22<;>refine so ?_
 refine Cs (n_isSeq) ?_
 refine so ?_
 refine Pt ?_
 exact ⟨_,rfl,congrArg Value.bool (decide_eq_decide.2 fitT),hp.chg⟩
 refine Pt ?_
 exact ⟨_,rfl,bool_f fitT,hp.chg⟩
 exact absurd hc20 hc21
 refine Cd ?_ ?_<;>intro hc23<;>refine so ?_
 refine Cs (n_isView) ?_
 refine so ?_
 refine Gs 85 ?_ ?_<;>intro hg24<;>refine so ?_
 refine Cs (n_isSeq) ?_
 refine so ?_
 refine Pt ?_
 exact ⟨_,rfl,congrArg Value.bool (decide_eq_decide.2 fitT),hp.chg⟩
 refine Pt ?_
 exact ⟨_,rfl,bool_f fitT,hp.chg⟩
 refine Cd ?_ ?_<;>intro hc25<;>refine so ?_
 refine Cd ?_ ?_<;>intro hc26<;>refine so ?_
 refine Cs (n_isSeq) ?_
 refine so ?_
 refine Pt ?_
 exact ⟨_,rfl,congrArg Value.bool (decide_eq_decide.2 fitT),hp.chg⟩
 exact absurd hc25 hc26
 refine Cd ?_ ?_<;>intro hc27<;>refine so ?_
 refine Cs (n_isSeq) ?_
 refine so ?_
 refine Pt ?_
 exact ⟨_,rfl,congrArg Value.bool (decide_eq_decide.2 fitT),hp.chg⟩
 refine Cd ?_ ?_<;>intro hc28<;>refine so ?_
 refine Cx hp (nChangeMay_ok ⟨(hIn.change),_,_,_,_,_,_,rfl,hn3.tn,hn4.tn,hn5.tn⟩) fun w16 hp hE16=>so ?_
 refine Gs 101 ?_ ?_<;>intro hg29<;>refine so ?_
 refine Pt ?_
 exact ⟨_,rfl,congrArg Value.bool (decide_eq_decide.2 fitT),hp.chg⟩
 refine Pt ?_
 exact ⟨_,rfl,bool_f fitT,hp.chg⟩
 refine Cd ?_ ?_<;>intro hc30<;>refine so ?_
 refine Cs (n_isView) ?_
 refine so ?_
 refine Gs 114 ?_ ?_<;>intro hg31<;>refine so ?_
 refine Gs 119 ?_ ?_<;>intro hg32<;>refine so ?_
 refine Cs (n_isNode) ?_
 refine so ?_
 refine Gs 124 ?_ ?_<;>intro hg33<;>refine so ?_
 refine Pt ?_
 exact ⟨_,rfl,congrArg Value.bool (decide_eq_decide.2 fitT),hp.chg⟩
 refine Pt ?_
 exact ⟨_,rfl,bool_f fitT,hp.chg⟩
 refine Pt ?_
 exact ⟨_,rfl,bool_f fitT,hp.chg⟩
 refine Pt ?_
 exact ⟨_,rfl,bool_f fitT,hp.chg⟩
 refine Cd ?_ ?_<;>intro hc34<;>refine so ?_
 refine Cx hp (nNewMay_ok (rdTn qhn) (by omega)) fun w19 hp hE19=>so ?_
 refine Pt ?_
 exact ⟨_,rfl,congrArg Value.bool (decide_eq_decide.2 fitT),hp.chg⟩
 refine Cd ?_ ?_<;>intro hc35<;>refine so ?_
 refine Cd ?_ ?_<;>intro hc36<;>refine so ?_
 refine Cs (n_isSeq) ?_
 refine so ?_
 refine Gs 141 ?_ ?_<;>intro hg37<;>refine so ?_
 refine Cs (n_within) ?_
 refine so ?_
 refine Gs 146 ?_ ?_<;>intro hg38<;>refine so ?_
 refine Cs (n_within) ?_
 refine so ?_
 refine Gs 151 ?_ ?_<;>intro hg39<;>refine so ?_
 refine Gs 157 ?_ ?_<;>intro hg40<;>refine so ?_
 refine Pt ?_
 exact ⟨_,rfl,congrArg Value.bool (decide_eq_decide.2 fitT),hp.chg⟩
 refine Pt ?_
 exact ⟨_,rfl,bool_f fitT,hp.chg⟩
 refine Pt ?_
 exact ⟨_,rfl,bool_f fitT,hp.chg⟩
 refine Pt ?_
 exact ⟨_,rfl,bool_f fitT,hp.chg⟩
 refine Pt ?_
 exact ⟨_,rfl,bool_f fitT,hp.chg⟩
 exact absurd hc35 hc36
 refine Cd ?_ ?_<;>intro hc41<;>refine so ?_
 refine Cs (n_isSeq) ?_
 refine so ?_
 refine Gs 141 ?_ ?_<;>intro hg42<;>refine so ?_
 refine Cs (n_within) ?_
 refine so ?_
 refine Gs 146 ?_ ?_<;>intro hg43<;>refine so ?_
 refine Cs (n_within) ?_
 refine so ?_
 refine Gs 151 ?_ ?_<;>intro hg44<;>refine so ?_
 refine Gs 157 ?_ ?_<;>intro hg45<;>refine so ?_
 refine Pt ?_
 exact ⟨_,rfl,congrArg Value.bool (decide_eq_decide.2 fitT),hp.chg⟩
 refine Pt ?_
 exact ⟨_,rfl,bool_f fitT,hp.chg⟩
 refine Pt ?_
 exact ⟨_,rfl,bool_f fitT,hp.chg⟩
 refine Pt ?_
 exact ⟨_,rfl,bool_f fitT,hp.chg⟩
 refine Pt ?_
 exact ⟨_,rfl,bool_f fitT,hp.chg⟩
 refine Cd ?_ ?_<;>intro hc46<;>refine so ?_
 refine Cs (n_within) ?_
 refine so ?_
 refine Gs 169 ?_ ?_<;>intro hg47<;>refine so ?_
 refine Cx hp (nRise_ok hn10.tn) fun w27 hp hE27=>so ?_
 refine Gs 174 ?_ ?_<;>intro hg48<;>refine so ?_
 refine Cx hp (fICon_ok (fid:=203) (first:= []) (cap:= []) (p0:=fun x=> ¬(1≤x∧x≤28)) hn10.tn cl203 (fun w1 x hE=>(fits1_ok (n:=x)).mono (fun v w2 h=>⟨h.1,h.2▸Chg.refl _ _⟩))) fun w7 hp hE7=>so ?_
 refine Pt ?_
 exact ⟨_,rfl,congrArg Value.bool (decide_eq_decide.2 fitT),hp.chg⟩
 refine Pt ?_
 exact ⟨_,rfl,bool_f fitT,hp.chg⟩
 refine Pt ?_
 exact ⟨_,rfl,bool_f fitT,hp.chg⟩
 refine Cd ?_ ?_<;>intro hc49<;>refine so ?_
 refine Cx hp (nBatchMay_ok hn0.tn (rdTn qhn)) fun w28 hp hE28=>so ?_
 refine Pt ?_
 exact ⟨_,rfl,congrArg Value.bool (decide_eq_decide.2 fitT),hp.chg⟩
 refine Cs (n_isSeq) ?_
 refine so ?_
 refine Gs 189 ?_ ?_<;>intro hg50<;>refine so ?_
 refine Cx hp (nBatchMay_ok hn0.tn (rdTn qhn)) fun w30 hp hE30=>so ?_
 refine Pt ?_
 exact ⟨_,rfl,congrArg Value.bool (decide_eq_decide.2 fitT),hp.chg⟩
 refine Pt ?_
 exact ⟨_,rfl,bool_f fitT,hp.chg⟩
end Go.Proofs.YtmbpneaibmldfaaGreat
