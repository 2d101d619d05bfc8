/- What each of these functions computes, for every argument that its theorem names; a part of what the proof of ImagePacksUpto stands on. -/
import Derived.Test.YtmbpneaibmldfaaGreatEaa
import Derived.Test.YtmbpneaibmldfaaGreatAaa
import Derived.Test.YtmbpneaibmldfaaGreatAab
import Derived.Test.YtmbpneaibmldfaaGreatAai
import Derived.Test.YtmbpneaibmldfaaGreatEab
import Derived.Test.YtmbpneaibmldfaaGreatEac
namespace Go.Proofs.YtmbpneaibmldfaaGreat
open Go.RowKit Go.Eng Go.Eng _root_.Go.Proofs.Tryz
set_option maxRecDepth 100000
variable {w0 w:World} {M0 Fz:Nat→Prop} {H:List It} {A:Option Addr} {c:Nat}
set_option maxHeartbeats 40000000 in
theorem rChangeMay_ok {cscg:List Value} {cg:Chn} {Scg:Nat→Prop} (hcg:changeR.rd Scg w cscg cg):Ret prog 46 #[.agg cscg.toArray] w (fun v w'=>v= .bool (decide (ChangeMay cg))∧Ext w w'):=by
 have qhcg:=hcg
 obtain ⟨hIcg,Acg0,ccg0,Acg1,ccg1,Acg2,ccg2,rfl,hcg0,hcg1,hcg2⟩:=hcg
 refine ret_of_wk func46 rfl ntmps46 leB_ ?_
 have hp:=HP.begin_ w
 refine so ?_
 refine Bx hp (h:=fun gs1 w1 hp hE1=>so ?_)
 by_cases hs1:1≤cg.node∧cg.node≤28
 by_cases hs2:1≤cg.view∧cg.view≤1048576
 by_cases hs3:0≤cg.low∧cg.low≤9007199254740983
 by_cases hs4:1≤(cg.marks.length:Int)∧(cg.marks.length:Int)≤5
 obtain ⟨aw26,hAw26,hatw26,hIw26⟩:=markR_el (hcg0.tn (w':=w1)) 0 (by omega)
 refine wdP 33 hp (fun wD hp hED=>by refine pm ?_;exact PLs (r12_node) (h:=by refine pm ?_;exact PLsg (r12_within) (h:=by refine pm ?_;exact PLsg (r12_within) (h:=by refine pm ?_;exact PLsg (r12_within) (h:=pl))))) fun wD hp hED=> ?_
 refine so ?_
 refine Cd ?_ ?_<;>intro hc5<;>refine so ?_
 refine Pt ?_
 exact ⟨_,rfl,bool_f (by unfold ChangeMay;omega),hp.chg⟩
 refine Lp [1, 3] (fun L' w' mes => ∃ (k : Nat), L' = [(1, pt gs1 0), (3, iv (k : Int))] ∧ (1 ≤ k) ∧ (∀ i, i < k → 0 < i → (cg.marks.getD (i - 1) mark0).seq < (cg.marks.getD i mark0).seq ∧ (cg.marks.getD i mark0).seq ≤ 9007199254740991) ∧ (1 ≤ cg.node ∧ cg.node ≤ 28 ∧ 1 ≤ cg.view ∧ cg.view ≤ 1048576 ∧ 0 ≤ cg.low ∧ cg.low ≤ 9007199254740983 ∧ 1 ≤ cg.marks.length ∧ cg.marks.length ≤ 5 ∧ (cg.marks.getD 0 mark0).seq = cg.low) ∧ Ext wD w' ∧ cg.marks.length - k = mes) (cg.marks.length - 1) (by
     refine ⟨1,rfl, ?_, ?_, ?_,me,rfl⟩
     omega
     intro i h1 h2;omega
     refine ⟨by omega,by omega,by omega,by omega,by omega,by omega,by omega,by omega,by omega⟩) ?_
 rintro _ wr _ ⟨k,rfl,h1,hmr,hpre,hEq0,rfl⟩ KL1 hKL1
 replace hp:=hp.ext hEq0
 refine so ?_
 refine Cd ?_ ?_<;>intro hc6
 refine so ?_
 by_cases hs7:(cg.marks.getD k mark0).seq≤(cg.marks.getD (k-1) mark0).seq
 obtain ⟨aw3,hAw3,hatw3,hIw3⟩:=markR_el (hcg0.tn (w':=wr)) k (by omega)
 obtain ⟨aw10,hAw10,hatw10,hIw10⟩:=markR_el (hcg0.tn (w':=wr)) (k-1) (by omega)
 cases Option.some.inj (hAw3.symm.trans hAw10)
 refine wdP 23 hp (fun wD hp hED=>by refine pm ?_;exact .op rfl (wl_idx0 (by decide) sl29 rfl rfl hAw10 (k-1) (by omega) (by omega) (wl_nil qp)) pl) fun wD hp hED=> ?_
 refine so ?_
 refine aT (so ?_)
 refine Pt ?_
 exact ⟨_,rfl,bool_f (fun h=>by have:=h.2.2.2.2.2.2.2.2.2.1 k (by omega) (by omega);omega),hp.chg⟩
 obtain ⟨aw3,hAw3,hatw3,hIw3⟩:=markR_el (hcg0.tn (w':=wr)) k (by omega)
 obtain ⟨aw10,hAw10,hatw10,hIw10⟩:=markR_el (hcg0.tn (w':=wr)) (k-1) (by omega)
 cases Option.some.inj (hAw3.symm.trans hAw10)
 refine wdP 23 hp (fun wD hp hED=>by refine pm ?_;exact .op rfl (wl_idx0 (by decide) sl29 rfl rfl hAw10 (k-1) (by omega) (by omega) (wl_nil qp)) pl) fun wD hp hED=> ?_
 refine so ?_
 refine Cd ?_ ?_<;>intro hc8<;>refine so ?_
 refine Pt ?_
 exact ⟨_,rfl,bool_f (fun h=>by have:=h.2.2.2.2.2.2.2.2.2.1 k (by omega) (by omega);omega),hp.chg⟩
 exact Kl [1,3] hKL1 (cg.marks.length-(k+1)) ⟨(k+1),rfl,by omega,upto hmr (fun _=>⟨by omega,by omega⟩),hpre,me,rfl⟩ (by omega)
 have hmr2:MarksRise cg.marks:=fun i hi h0=>hmr i (by omega) h0
 refine so ?_
 refine Cx hp (rStandsMay_ok (many:=1) hcg1.tn (rdTn qhcg) (by omega) (by omega)) fun w2 hp hE2=>so ?_
 refine Gs 71 ?_ ?_<;>intro hg9<;>refine so ?_
 refine Cx hp (rStandsMay_ok (many:=4) hcg2.tn (rdTn qhcg) (by omega) (by omega)) fun w3 hp hE3=>so ?_
 refine Pt ?_
 exact ⟨_,rfl,congrArg Value.bool (decide_eq_decide.2 (by unfold ChangeMay;simp_all)),hp.chg⟩
 refine Pt ?_
 exact ⟨_,rfl,bool_f (by unfold ChangeMay;simp_all),hp.chg⟩
 refine wdP 33 hp (fun wD hp hED=>by refine pm ?_;exact PLs (r12_node) (h:=by refine pm ?_;exact PLsg (r12_within) (h:=by refine pm ?_;exact PLsg (r12_within) (h:=by refine pm ?_;exact PLsg (r12_within) (h:=pl))))) fun wD hp hED=> ?_
 refine so ?_
 refine aT (so ?_)
 refine Pt ?_
 exact ⟨_,rfl,bool_f (by unfold ChangeMay;omega),hp.chg⟩
 refine wdP 33 hp (fun wD hp hED=>by refine pm ?_;exact PLs (r12_node) (h:=by refine pm ?_;exact PLsg (r12_within) (h:=by refine pm ?_;exact PLsg (r12_within) (h:=pl)))) fun wD hp hED=> ?_
 refine so ?_
 refine aT (so ?_)
 refine Pt ?_
 exact ⟨_,rfl,bool_f (by unfold ChangeMay;omega),hp.chg⟩
 refine wdP 33 hp (fun wD hp hED=>by refine pm ?_;exact PLs (r12_node) (h:=by refine pm ?_;exact PLsg (r12_within) (h:=pl))) fun wD hp hED=> ?_
 refine so ?_
 refine aT (so ?_)
 refine Pt ?_
 exact ⟨_,rfl,bool_f (by unfold ChangeMay;omega),hp.chg⟩
 refine wdP 33 hp (fun wD hp hED=>by refine pm ?_;exact PLs (r12_node) (h:=pl)) fun wD hp hED=> ?_
 refine so ?_
 refine aT (so ?_)
 refine Pt ?_
 exact ⟨_,rfl,bool_f (by unfold ChangeMay;omega),hp.chg⟩
end Go.Proofs.YtmbpneaibmldfaaGreat
