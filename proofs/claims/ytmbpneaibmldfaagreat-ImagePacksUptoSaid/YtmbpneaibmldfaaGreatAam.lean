/- What each of these functions computes, for every argument that its theorem names; a part of what the proof of ImageOnce stands on. -/
import Derived.Test.YtmbpneaibmldfaaGreatAac
import Derived.Test.YtmbpneaibmldfaaGreatAad
import Derived.Test.YtmbpneaibmldfaaGreatAae
import Derived.Test.YtmbpneaibmldfaaGreatAaf
import Derived.Test.YtmbpneaibmldfaaGreatAag
import Derived.Test.YtmbpneaibmldfaaGreatAai
import Derived.Test.YtmbpneaibmldfaaGreatAaj
import Derived.Test.YtmbpneaibmldfaaGreatAak
import Derived.Test.YtmbpneaibmldfaaGreatAal
namespace Go.Proofs.YtmbpneaibmldfaaGreat
open Go.RowKit Go.Eng Go.Eng _root_.Go.Proofs.Tryz
set_option maxRecDepth 100000
variable {w0 w:World} {M0 Fz:Nat→Prop} {H:List It} {A:Option Addr} {c:Nat}
theorem t0_r11Check_ok {p:Prop} (h:p:=by exact Hx_ ([iv w0.client,iv w0.stamp,iv w0.group,iv w0.epoch,iv w0.kind,iv w0.block, .slice Aw00 w0.data.length cw00,iv w0.old,iv w0.new, .slice Aw01 w0.next.length cw01]) 0 ag112 e1 (hp.ext hER) rfl rfl rfl qz):p:=h
theorem t1_r11Check_ok {p:Prop} (h:p:=by first|exact (decide_eq_true (by rw [WQ_iff];first|omega|grind)).symm|exact (decide_eq_false (by rw [WQ_iff];first|omega|grind)).symm|exact decide_eq_decide.2 (by rw [WQ_iff];first|omega|grind)):p:=h
theorem t2_r11Check_ok {p:Prop} (h:p:=by first|exact (decide_eq_true (by subst hm;first|(have hq:=of_decide_eq_false ‹decide (WQ w0)=false›;exact fun h=>hq (WishMay_iff.1 h).1)|(have hq:=of_decide_eq_true ‹decide (WQ w0)=true›;rw [WishMay_iff];unfold WKd;simp only [hq,true_and];first|omega|(by_cases hnm:nextMay w0.next<;>simp only [hnm,and_true,and_false,or_false,not_true_eq_false,not_false_eq_true,true_iff,false_iff,iff_true,iff_false]<;>omega))|(rw [WishMay_iff];unfold WKd;omega))).symm|exact (decide_eq_false (by subst hm;first|(have hq:=of_decide_eq_false ‹decide (WQ w0)=false›;exact fun h=>hq (WishMay_iff.1 h).1)|(have hq:=of_decide_eq_true ‹decide (WQ w0)=true›;rw [WishMay_iff];unfold WKd;simp only [hq,true_and];first|omega|(by_cases hnm:nextMay w0.next<;>simp only [hnm,and_true,and_false,or_false,not_true_eq_false,not_false_eq_true,true_iff,false_iff,iff_true,iff_false]<;>omega))|(rw [WishMay_iff];unfold WKd;omega))).symm|exact decide_eq_decide.2 (by subst hm;first|(have hq:=of_decide_eq_false ‹decide (WQ w0)=false›;exact fun h=>hq (WishMay_iff.1 h).1)|(have hq:=of_decide_eq_true ‹decide (WQ w0)=true›;rw [WishMay_iff];unfold WKd;simp only [hq,true_and];first|omega|(by_cases hnm:nextMay w0.next<;>simp only [hnm,and_true,and_false,or_false,not_true_eq_false,not_false_eq_true,true_iff,false_iff,iff_true,iff_false]<;>omega))|(rw [WishMay_iff];unfold WKd;omega))):p:=h
set_option maxHeartbeats 2000000 in
theorem r11Check_ok {csw0:List Value} {w0:Wsh} {Sw0:Nat→Prop} (hw0:wishR.rd Sw0 w csw0 w0):Ret prog 136 #[.agg csw0.toArray] w (fun v w'=>v= .int .i64 (if WishMay w0 then 0 else 2)∧Ext w w'):=by
 have qhw0:=hw0
 obtain ⟨hIw0,Aw00,cw00,Aw01,cw01,rfl,hw00,hw01⟩:=hw0
 have mhw00:=hw00.mx
 have mhw01:=hw01.mx
 refine ret_of_wk func136 rfl ntmps136 leB_ ?_
 have hp:=HP.begin_ w
 refine so ?_
 refine Bx hp (h:=fun gs1 w1 hp hE1=>so ?_)
 by_cases hs1:0≤w0.epoch∧w0.epoch≤1048576
 apply wdL [.eq _,.eq _,.eq (.bool true),.eq (.bool true),.eq _,.eq _,SP.rd wishR (fun b=>b<w.heap.size) ((ownW w0)),.eq _,.eq _,.eq _]
 refine ⟨?_,?_,?_,?_,?_,?_,?_,?_,?_,?_,trivial⟩<;>intro F wF hER hk
 exact Fd_ 3 fld112_3 (hk.pi 1) rfl qz
 exact Hl_ 0 sc3 (hk.pe 0) (hp.ext hER) rfl rfl qz
 have e7:=hk.pe 1
 refine Cl_ cl160 (by simp only [evs,ev,e7];first|done|rfl) (r11_within) ?_
 rintro _ _ ⟨rfl,rfl⟩
 exact wl_re (k:=8) (v:= .bool true) rfl (congrArg Value.bool (decide_eq_true (by first|exact hs1|omega|simpa using hs1))) qy
 exact dm (hk.pe 2)
 have e1:=hk.pi 1
 have e9:=hk.pe 3
 refine wl_gyes rfl e9 ?_
 exact t0_r11Check_ok
 have e1:=hk.pi 1
 have e9:=hk.pe 3
 refine wl_gyes rfl e9 ?_
 exact t0_r11Check_ok
 have e11:=hk.pe 5
 have e9:=hk.pe 3
 refine wl_gyes rfl e9 ?_
 have hcl:=own11_ok (rdTn qhw0 (w':=wF))
 refine Cl_ cl161 (by simp only [evs,ev,e11];first|done|rfl) hcl ?_
 clear hcl
 rintro _ w7 ⟨cs7,rfl,hr7,hE7⟩
 exact qz ⟨hE7,_,rfl,hr7⟩
 have e10:=hk.pe 4
 obtain ⟨u12,e12,h12⟩:=hk.pp 6
 obtain ⟨cs12,rfl,hr12⟩:=h12
 have e9:=hk.pe 3
 refine wl_gyes rfl e9 ?_
 have hcl:=r11Same_ok (rdTn qhw0 (w':=wF)) hr12
 refine Cl_ cl154 (by simp only [evs,ev,e10,e12];first|done|rfl) hcl ?_
 clear hcl
 rintro _ w7 ⟨rfl,hE7⟩
 exact qz ⟨hE7,rfl⟩
 have e9:=hk.pe 3
 have e13:=hk.pe 7
 exact Pk_ e9 e13 qz
 exact wl_assign (by decide) (hk.pe 8) qz
 intro F wD hED hini hdo
 refine wk_drop [(1,_),(3,_)] ⟨di hini 1,dq hdo 9,trivial⟩ ?_
 clear hini hdo
 replace hp:=hp.ext hED
 refine sl ?_
 refine wc_seq_cut (fun L' w'=> ∃(m:Bool),L'= [(1,pt gs1 0),(3, .bool m)]∧(m=decide (WQ w0))∧Ext wD w') (fun K hK=> ?_) ?_
 refine so ?_
 refine Cd ?_ ?_<;>intro hc2<;>refine so ?_
 refine Gs 19 ?_ ?_<;>intro hg3<;>refine so ?_
 refine Cs (r11_within) ?_
 refine so ?_
 refine Gs 24 ?_ ?_<;>intro hg4<;>refine so ?_
 refine Cs (r11_within) ?_
 refine so ?_
 refine Kd [1,3] hK ⟨_,rfl, ?_,me⟩
 exact t1_r11Check_ok
 refine Kd [1,3] hK ⟨_,rfl, ?_,me⟩
 exact t1_r11Check_ok
 refine Kd [1,3] hK ⟨_,rfl, ?_,me⟩
 exact t1_r11Check_ok
 refine Kd [1,3] hK ⟨_,rfl, ?_,me⟩
 exact t1_r11Check_ok
 rintro _ wa ⟨m,rfl,hm,hEq0⟩
 replace hp:=hp.ext hEq0
 refine so ?_
 refine Cs (r11_within) ?_
 refine so ?_
 refine Gs 35 ?_ ?_<;>intro hg5
 refine so ?_
 refine Gs 40 ?_ ?_<;>intro hg6
 refine so ?_
 refine Cs (r11_within) ?_
 refine sl ?_
 refine wc_seq_cut (fun L' w'=> ∃(m2:Bool),L'= [(3, .bool m2)]∧(m2=decide (WishMay w0))∧Ext wa w') (fun K hK=> ?_) ?_
 refine so ?_
 refine Cd ?_ ?_<;>intro hc7<;>refine so ?_
 refine Gs 50 ?_ ?_<;>intro hg8<;>refine so ?_
 refine Gs 53 ?_ ?_<;>intro hg9<;>refine so ?_
 refine Cs (r11_within) ?_
 refine so ?_
 refine Kd [3] hK ⟨_,rfl, ?_,me⟩
 exact t2_r11Check_ok
 refine Kd [3] hK ⟨_,rfl, ?_,me⟩
 exact t2_r11Check_ok
 refine Kd [3] hK ⟨_,rfl, ?_,me⟩
 exact t2_r11Check_ok
 refine Cd ?_ ?_<;>intro hc10<;>refine so ?_
 refine Gs 61 ?_ ?_<;>intro hg11<;>refine so ?_
 refine Gs 64 ?_ ?_<;>intro hg12<;>refine so ?_
 refine Cs (r11_within) ?_
 refine so ?_
 refine Gs 69 ?_ ?_<;>intro hg13<;>refine so ?_
 refine Kd [3] hK ⟨_,rfl, ?_,me⟩
 exact t2_r11Check_ok
 refine Kd [3] hK ⟨_,rfl, ?_,me⟩
 exact t2_r11Check_ok
 refine Kd [3] hK ⟨_,rfl, ?_,me⟩
 exact t2_r11Check_ok
 refine Kd [3] hK ⟨_,rfl, ?_,me⟩
 exact t2_r11Check_ok
 refine Cd ?_ ?_<;>intro hc14<;>refine so ?_
 refine Gs 78 ?_ ?_<;>intro hg15<;>refine so ?_
 refine Kd [3] hK ⟨_,rfl, ?_,me⟩
 exact t2_r11Check_ok
 refine Kd [3] hK ⟨_,rfl, ?_,me⟩
 exact t2_r11Check_ok
 refine Cd ?_ ?_<;>intro hc16<;>refine so ?_
 refine Gs 84 ?_ ?_<;>intro hg17<;>refine so ?_
 refine Gs 87 ?_ ?_<;>intro hg18<;>refine so ?_
 refine Cs (r11_within) ?_
 refine so ?_
 refine Gs 92 ?_ ?_<;>intro hg19<;>refine so ?_
 refine Cs (r11_within) ?_
 refine so ?_
 refine Gs 97 ?_ ?_<;>intro hg20<;>refine so ?_
 refine Kd [3] hK ⟨_,rfl, ?_,me⟩
 exact t2_r11Check_ok
 refine Kd [3] hK ⟨_,rfl, ?_,me⟩
 exact t2_r11Check_ok
 refine Kd [3] hK ⟨_,rfl, ?_,me⟩
 exact t2_r11Check_ok
 refine Kd [3] hK ⟨_,rfl, ?_,me⟩
 exact t2_r11Check_ok
 refine Kd [3] hK ⟨_,rfl, ?_,me⟩
 exact t2_r11Check_ok
 refine Cd ?_ ?_<;>intro hc21<;>refine so ?_
 refine Gs 107 ?_ ?_<;>intro hg22<;>refine so ?_
 refine Gs 110 ?_ ?_<;>intro hg23<;>refine so ?_
 refine Cx hp (r11next_ok hw01.tn) fun w10 hp hE10=>so ?_
 refine Kd [3] hK ⟨_,rfl, ?_,me⟩
 exact t2_r11Check_ok
 refine Kd [3] hK ⟨_,rfl, ?_,me⟩
 exact t2_r11Check_ok
 refine Kd [3] hK ⟨_,rfl, ?_,me⟩
 exact t2_r11Check_ok
 refine Kd [3] hK ⟨_,rfl, ?_,me⟩
 exact t2_r11Check_ok
 rintro _ wb ⟨m2,rfl,hm2,hEq1⟩
 replace hp:=hp.ext hEq1
 refine so ?_
 refine Cd ?_ ?_<;>intro hc24<;>refine so ?_
 refine Pt ?_
 exact ⟨_,rfl,by simp_all,hp.chg⟩
 refine Pt ?_
 exact ⟨_,rfl,by simp_all,hp.chg⟩
 refine sl ?_
 refine wc_seq_cut (fun L' w'=> ∃(m2:Bool),L'= [(3, .bool m2)]∧(m2=decide (WishMay w0))∧Ext wa w') (fun K hK=> ?_) ?_
 refine so ?_
 refine Cd ?_ ?_<;>intro hc25<;>refine so ?_
 refine Gs 50 ?_ ?_<;>intro hg26<;>refine so ?_
 refine Gs 53 ?_ ?_<;>intro hg27<;>refine so ?_
 refine Cs (r11_within) ?_
 refine so ?_
 refine Kd [3] hK ⟨_,rfl, ?_,me⟩
 exact t2_r11Check_ok
 refine Kd [3] hK ⟨_,rfl, ?_,me⟩
 exact t2_r11Check_ok
 refine Kd [3] hK ⟨_,rfl, ?_,me⟩
 exact t2_r11Check_ok
 refine Cd ?_ ?_<;>intro hc28<;>refine so ?_
 refine Gs 61 ?_ ?_<;>intro hg29<;>refine so ?_
 refine Gs 64 ?_ ?_<;>intro hg30<;>refine so ?_
 refine Cs (r11_within) ?_
 refine so ?_
 refine Gs 69 ?_ ?_<;>intro hg31<;>refine so ?_
 refine Kd [3] hK ⟨_,rfl, ?_,me⟩
 exact t2_r11Check_ok
 refine Kd [3] hK ⟨_,rfl, ?_,me⟩
 exact t2_r11Check_ok
 refine Kd [3] hK ⟨_,rfl, ?_,me⟩
 exact t2_r11Check_ok
 refine Kd [3] hK ⟨_,rfl, ?_,me⟩
 exact t2_r11Check_ok
 refine Cd ?_ ?_<;>intro hc32<;>refine so ?_
 refine Gs 78 ?_ ?_<;>intro hg33<;>refine so ?_
 refine Kd [3] hK ⟨_,rfl, ?_,me⟩
 exact t2_r11Check_ok
 refine Kd [3] hK ⟨_,rfl, ?_,me⟩
 exact t2_r11Check_ok
 refine Cd ?_ ?_<;>intro hc34<;>refine so ?_
 refine Gs 84 ?_ ?_<;>intro hg35<;>refine so ?_
 refine Kd [3] hK ⟨_,rfl, ?_,me⟩
 exact t2_r11Check_ok
 refine Kd [3] hK ⟨_,rfl, ?_,me⟩
 exact t2_r11Check_ok
 refine Cd ?_ ?_<;>intro hc36<;>refine so ?_
 refine Gs 107 ?_ ?_<;>intro hg37<;>refine so ?_
 refine Gs 110 ?_ ?_<;>intro hg38<;>refine so ?_
 refine Cx hp (r11next_ok hw01.tn) fun w13 hp hE13=>so ?_
 refine Kd [3] hK ⟨_,rfl, ?_,me⟩
 exact t2_r11Check_ok
 refine Kd [3] hK ⟨_,rfl, ?_,me⟩
 exact t2_r11Check_ok
 refine Kd [3] hK ⟨_,rfl, ?_,me⟩
 exact t2_r11Check_ok
 refine Kd [3] hK ⟨_,rfl, ?_,me⟩
 exact t2_r11Check_ok
 rintro _ wb ⟨m2,rfl,hm2,hEq2⟩
 replace hp:=hp.ext hEq2
 refine so ?_
 refine Cd ?_ ?_<;>intro hc39<;>refine so ?_
 refine Pt ?_
 exact ⟨_,rfl,by simp_all,hp.chg⟩
 refine Pt ?_
 exact ⟨_,rfl,by simp_all,hp.chg⟩
 refine sl ?_
 refine wc_seq_cut (fun L' w'=> ∃(m2:Bool),L'= [(3, .bool m2)]∧(m2=decide (WishMay w0))∧Ext wa w') (fun K hK=> ?_) ?_
 refine so ?_
 refine Cd ?_ ?_<;>intro hc40<;>refine so ?_
 refine Gs 50 ?_ ?_<;>intro hg41<;>refine so ?_
 refine Gs 53 ?_ ?_<;>intro hg42<;>refine so ?_
 refine Cs (r11_within) ?_
 refine so ?_
 refine Kd [3] hK ⟨_,rfl, ?_,me⟩
 exact t2_r11Check_ok
 refine Kd [3] hK ⟨_,rfl, ?_,me⟩
 exact t2_r11Check_ok
 refine Kd [3] hK ⟨_,rfl, ?_,me⟩
 exact t2_r11Check_ok
 refine Cd ?_ ?_<;>intro hc43<;>refine so ?_
 refine Gs 61 ?_ ?_<;>intro hg44<;>refine so ?_
 refine Gs 64 ?_ ?_<;>intro hg45<;>refine so ?_
 refine Cs (r11_within) ?_
 refine so ?_
 refine Gs 69 ?_ ?_<;>intro hg46<;>refine so ?_
 refine Kd [3] hK ⟨_,rfl, ?_,me⟩
 exact t2_r11Check_ok
 refine Kd [3] hK ⟨_,rfl, ?_,me⟩
 exact t2_r11Check_ok
 refine Kd [3] hK ⟨_,rfl, ?_,me⟩
 exact t2_r11Check_ok
 refine Kd [3] hK ⟨_,rfl, ?_,me⟩
 exact t2_r11Check_ok
 refine Cd ?_ ?_<;>intro hc47<;>refine so ?_
 refine Gs 78 ?_ ?_<;>intro hg48<;>refine so ?_
 refine Kd [3] hK ⟨_,rfl, ?_,me⟩
 exact t2_r11Check_ok
 refine Kd [3] hK ⟨_,rfl, ?_,me⟩
 exact t2_r11Check_ok
 refine Cd ?_ ?_<;>intro hc49<;>refine so ?_
 refine Gs 84 ?_ ?_<;>intro hg50<;>refine so ?_
 refine Kd [3] hK ⟨_,rfl, ?_,me⟩
 exact t2_r11Check_ok
 refine Kd [3] hK ⟨_,rfl, ?_,me⟩
 exact t2_r11Check_ok
 refine Cd ?_ ?_<;>intro hc51<;>refine so ?_
 refine Gs 107 ?_ ?_<;>intro hg52<;>refine so ?_
 refine Gs 110 ?_ ?_<;>intro hg53<;>refine so ?_
 refine Cx hp (r11next_ok hw01.tn) fun w16 hp hE16=>so ?_
 refine Kd [3] hK ⟨_,rfl, ?_,me⟩
 exact t2_r11Check_ok
 refine Kd [3] hK ⟨_,rfl, ?_,me⟩
 exact t2_r11Check_ok
 refine Kd [3] hK ⟨_,rfl, ?_,me⟩
 exact t2_r11Check_ok
 refine Kd [3] hK ⟨_,rfl, ?_,me⟩
 exact t2_r11Check_ok
 rintro _ wb ⟨m2,rfl,hm2,hEq3⟩
 replace hp:=hp.ext hEq3
 refine so ?_
 refine Cd ?_ ?_<;>intro hc54<;>refine so ?_
 refine Pt ?_
 exact ⟨_,rfl,by simp_all,hp.chg⟩
 refine Pt ?_
 exact ⟨_,rfl,by simp_all,hp.chg⟩
 refine wdP 10 hp (fun wD hp hED=>by refine pm ?_;exact PLs (r11_within) (h:=pl)) fun wD hp hED=> ?_
 refine sl ?_
 refine wc_seq_cut (fun L' w'=> ∃(m:Bool),L'= [(1,pt gs1 0),(3, .bool m)]∧(m=decide (WQ w0))∧Ext wD w') (fun K hK=> ?_) ?_
 refine so ?_
 refine Cd ?_ ?_<;>intro hc55<;>refine so ?_
 refine Kd [1,3] hK ⟨_,rfl, ?_,me⟩
 exact t1_r11Check_ok
 refine Kd [1,3] hK ⟨_,rfl, ?_,me⟩
 exact t1_r11Check_ok
 rintro _ wa ⟨m,rfl,hm,hEq4⟩
 replace hp:=hp.ext hEq4
 refine so ?_
 refine Cs (r11_within) ?_
 refine so ?_
 refine Gs 35 ?_ ?_<;>intro hg56
 refine so ?_
 refine Gs 40 ?_ ?_<;>intro hg57
 refine so ?_
 refine Cs (r11_within) ?_
 refine sl ?_
 refine wc_seq_cut (fun L' w'=> ∃(m2:Bool),L'= [(3, .bool m2)]∧(m2=decide (WishMay w0))∧Ext wa w') (fun K hK=> ?_) ?_
 refine so ?_
 refine Cd ?_ ?_<;>intro hc58<;>refine so ?_
 refine Gs 50 ?_ ?_<;>intro hg59<;>refine so ?_
 refine Gs 53 ?_ ?_<;>intro hg60<;>refine so ?_
 refine Cs (r11_within) ?_
 refine so ?_
 refine Kd [3] hK ⟨_,rfl, ?_,me⟩
 exact t2_r11Check_ok
 refine Kd [3] hK ⟨_,rfl, ?_,me⟩
 exact t2_r11Check_ok
 refine Kd [3] hK ⟨_,rfl, ?_,me⟩
 exact t2_r11Check_ok
 refine Cd ?_ ?_<;>intro hc61<;>refine so ?_
 refine Gs 61 ?_ ?_<;>intro hg62<;>refine so ?_
 refine Gs 64 ?_ ?_<;>intro hg63<;>refine so ?_
 refine Cs (r11_within) ?_
 refine so ?_
 refine Gs 69 ?_ ?_<;>intro hg64<;>refine so ?_
 refine Kd [3] hK ⟨_,rfl, ?_,me⟩
 exact t2_r11Check_ok
 refine Kd [3] hK ⟨_,rfl, ?_,me⟩
 exact t2_r11Check_ok
 refine Kd [3] hK ⟨_,rfl, ?_,me⟩
 exact t2_r11Check_ok
 refine Kd [3] hK ⟨_,rfl, ?_,me⟩
 exact t2_r11Check_ok
 refine Cd ?_ ?_<;>intro hc65<;>refine so ?_
 refine Gs 78 ?_ ?_<;>intro hg66<;>refine so ?_
 refine Kd [3] hK ⟨_,rfl, ?_,me⟩
 exact t2_r11Check_ok
 refine Kd [3] hK ⟨_,rfl, ?_,me⟩
 exact t2_r11Check_ok
 refine Cd ?_ ?_<;>intro hc67<;>refine so ?_
 refine Gs 84 ?_ ?_<;>intro hg68<;>refine so ?_
 refine Gs 87 ?_ ?_<;>intro hg69<;>refine so ?_
 refine Cs (r11_within) ?_
 refine so ?_
 refine Gs 92 ?_ ?_<;>intro hg70<;>refine so ?_
 refine Cs (r11_within) ?_
 refine so ?_
 refine Gs 97 ?_ ?_<;>intro hg71<;>refine so ?_
 refine Kd [3] hK ⟨_,rfl, ?_,me⟩
 exact t2_r11Check_ok
 refine Kd [3] hK ⟨_,rfl, ?_,me⟩
 exact t2_r11Check_ok
 refine Kd [3] hK ⟨_,rfl, ?_,me⟩
 exact t2_r11Check_ok
 refine Kd [3] hK ⟨_,rfl, ?_,me⟩
 exact t2_r11Check_ok
 refine Kd [3] hK ⟨_,rfl, ?_,me⟩
 exact t2_r11Check_ok
 refine Cd ?_ ?_<;>intro hc72<;>refine so ?_
 refine Gs 107 ?_ ?_<;>intro hg73<;>refine so ?_
 refine Gs 110 ?_ ?_<;>intro hg74<;>refine so ?_
 refine Cx hp (r11next_ok hw01.tn) fun w23 hp hE23=>so ?_
 refine Kd [3] hK ⟨_,rfl, ?_,me⟩
 exact t2_r11Check_ok
 refine Kd [3] hK ⟨_,rfl, ?_,me⟩
 exact t2_r11Check_ok
 refine Kd [3] hK ⟨_,rfl, ?_,me⟩
 exact t2_r11Check_ok
 refine Kd [3] hK ⟨_,rfl, ?_,me⟩
 exact t2_r11Check_ok
 rintro _ wb ⟨m2,rfl,hm2,hEq5⟩
 replace hp:=hp.ext hEq5
 refine so ?_
 refine Cd ?_ ?_<;>intro hc75<;>refine so ?_
 refine Pt ?_
 exact ⟨_,rfl,by simp_all,hp.chg⟩
 refine Pt ?_
 exact ⟨_,rfl,by simp_all,hp.chg⟩
 refine sl ?_
 refine wc_seq_cut (fun L' w'=> ∃(m2:Bool),L'= [(3, .bool m2)]∧(m2=decide (WishMay w0))∧Ext wa w') (fun K hK=> ?_) ?_
 refine so ?_
 refine Cd ?_ ?_<;>intro hc76<;>refine so ?_
 refine Gs 50 ?_ ?_<;>intro hg77<;>refine so ?_
 refine Gs 53 ?_ ?_<;>intro hg78<;>refine so ?_
 refine Cs (r11_within) ?_
 refine so ?_
 refine Kd [3] hK ⟨_,rfl, ?_,me⟩
 exact t2_r11Check_ok
 refine Kd [3] hK ⟨_,rfl, ?_,me⟩
 exact t2_r11Check_ok
 refine Kd [3] hK ⟨_,rfl, ?_,me⟩
 exact t2_r11Check_ok
 refine Cd ?_ ?_<;>intro hc79<;>refine so ?_
 refine Gs 61 ?_ ?_<;>intro hg80<;>refine so ?_
 refine Gs 64 ?_ ?_<;>intro hg81<;>refine so ?_
 refine Cs (r11_within) ?_
 refine so ?_
 refine Gs 69 ?_ ?_<;>intro hg82<;>refine so ?_
 refine Kd [3] hK ⟨_,rfl, ?_,me⟩
 exact t2_r11Check_ok
 refine Kd [3] hK ⟨_,rfl, ?_,me⟩
 exact t2_r11Check_ok
 refine Kd [3] hK ⟨_,rfl, ?_,me⟩
 exact t2_r11Check_ok
 refine Kd [3] hK ⟨_,rfl, ?_,me⟩
 exact t2_r11Check_ok
 refine Cd ?_ ?_<;>intro hc83<;>refine so ?_
 refine Gs 78 ?_ ?_<;>intro hg84<;>refine so ?_
 refine Kd [3] hK ⟨_,rfl, ?_,me⟩
 exact t2_r11Check_ok
 refine Kd [3] hK ⟨_,rfl, ?_,me⟩
 exact t2_r11Check_ok
 refine Cd ?_ ?_<;>intro hc85<;>refine so ?_
 refine Gs 84 ?_ ?_<;>intro hg86<;>refine so ?_
 refine Kd [3] hK ⟨_,rfl, ?_,me⟩
 exact t2_r11Check_ok
 refine Kd [3] hK ⟨_,rfl, ?_,me⟩
 exact t2_r11Check_ok
 refine Cd ?_ ?_<;>intro hc87<;>refine so ?_
 refine Gs 107 ?_ ?_<;>intro hg88<;>refine so ?_
 refine Gs 110 ?_ ?_<;>intro hg89<;>refine so ?_
 refine Cx hp (r11next_ok hw01.tn) fun w26 hp hE26=>so ?_
 refine Kd [3] hK ⟨_,rfl, ?_,me⟩
 exact t2_r11Check_ok
 refine Kd [3] hK ⟨_,rfl, ?_,me⟩
 exact t2_r11Check_ok
 refine Kd [3] hK ⟨_,rfl, ?_,me⟩
 exact t2_r11Check_ok
 refine Kd [3] hK ⟨_,rfl, ?_,me⟩
 exact t2_r11Check_ok
 rintro _ wb ⟨m2,rfl,hm2,hEq6⟩
 replace hp:=hp.ext hEq6
 refine so ?_
 refine Cd ?_ ?_<;>intro hc90<;>refine so ?_
 refine Pt ?_
 exact ⟨_,rfl,by simp_all,hp.chg⟩
 refine Pt ?_
 exact ⟨_,rfl,by simp_all,hp.chg⟩
 refine sl ?_
 refine wc_seq_cut (fun L' w'=> ∃(m2:Bool),L'= [(3, .bool m2)]∧(m2=decide (WishMay w0))∧Ext wa w') (fun K hK=> ?_) ?_
 refine so ?_
 refine Cd ?_ ?_<;>intro hc91<;>refine so ?_
 refine Gs 50 ?_ ?_<;>intro hg92<;>refine so ?_
 refine Gs 53 ?_ ?_<;>intro hg93<;>refine so ?_
 refine Cs (r11_within) ?_
 refine so ?_
 refine Kd [3] hK ⟨_,rfl, ?_,me⟩
 exact t2_r11Check_ok
 refine Kd [3] hK ⟨_,rfl, ?_,me⟩
 exact t2_r11Check_ok
 refine Kd [3] hK ⟨_,rfl, ?_,me⟩
 exact t2_r11Check_ok
 refine Cd ?_ ?_<;>intro hc94<;>refine so ?_
 refine Gs 61 ?_ ?_<;>intro hg95<;>refine so ?_
 refine Gs 64 ?_ ?_<;>intro hg96<;>refine so ?_
 refine Cs (r11_within) ?_
 refine so ?_
 refine Gs 69 ?_ ?_<;>intro hg97<;>refine so ?_
 refine Kd [3] hK ⟨_,rfl, ?_,me⟩
 exact t2_r11Check_ok
 refine Kd [3] hK ⟨_,rfl, ?_,me⟩
 exact t2_r11Check_ok
 refine Kd [3] hK ⟨_,rfl, ?_,me⟩
 exact t2_r11Check_ok
 refine Kd [3] hK ⟨_,rfl, ?_,me⟩
 exact t2_r11Check_ok
 refine Cd ?_ ?_<;>intro hc98<;>refine so ?_
 refine Gs 78 ?_ ?_<;>intro hg99<;>refine so ?_
 refine Kd [3] hK ⟨_,rfl, ?_,me⟩
 exact t2_r11Check_ok
 refine Kd [3] hK ⟨_,rfl, ?_,me⟩
 exact t2_r11Check_ok
 refine Cd ?_ ?_<;>intro hc100<;>refine so ?_
 refine Gs 84 ?_ ?_<;>intro hg101<;>refine so ?_
 refine Kd [3] hK ⟨_,rfl, ?_,me⟩
 exact t2_r11Check_ok
 refine Kd [3] hK ⟨_,rfl, ?_,me⟩
 exact t2_r11Check_ok
 refine Cd ?_ ?_<;>intro hc102<;>refine so ?_
 refine Gs 107 ?_ ?_<;>intro hg103<;>refine so ?_
 refine Gs 110 ?_ ?_<;>intro hg104<;>refine so ?_
 refine Cx hp (r11next_ok hw01.tn) fun w29 hp hE29=>so ?_
 refine Kd [3] hK ⟨_,rfl, ?_,me⟩
 exact t2_r11Check_ok
 refine Kd [3] hK ⟨_,rfl, ?_,me⟩
 exact t2_r11Check_ok
 refine Kd [3] hK ⟨_,rfl, ?_,me⟩
 exact t2_r11Check_ok
 refine Kd [3] hK ⟨_,rfl, ?_,me⟩
 exact t2_r11Check_ok
 rintro _ wb ⟨m2,rfl,hm2,hEq7⟩
 replace hp:=hp.ext hEq7
 refine so ?_
 refine Cd ?_ ?_<;>intro hc105<;>refine so ?_
 refine Pt ?_
 exact ⟨_,rfl,by simp_all,hp.chg⟩
 refine Pt ?_
 exact ⟨_,rfl,by simp_all,hp.chg⟩
end Go.Proofs.YtmbpneaibmldfaaGreat
