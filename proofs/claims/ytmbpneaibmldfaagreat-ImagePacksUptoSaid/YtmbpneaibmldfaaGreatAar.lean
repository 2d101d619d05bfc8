/- What each of these functions computes, for every argument that its theorem names; a part of what the proof of ImageOnce stands on. -/
import Derived.Test.YtmbpneaibmldfaaGreatAac
import Derived.Test.YtmbpneaibmldfaaGreatAad
import Derived.Test.YtmbpneaibmldfaaGreatAaf
import Derived.Test.YtmbpneaibmldfaaGreatAag
import Derived.Test.YtmbpneaibmldfaaGreatAai
import Derived.Test.YtmbpneaibmldfaaGreatAaj
import Derived.Test.YtmbpneaibmldfaaGreatAan
import Derived.Test.YtmbpneaibmldfaaGreatAaq
namespace Go.Proofs.YtmbpneaibmldfaaGreat
open Go.RowKit Go.Eng Go.Eng _root_.Go.Proofs.Tryz
set_option maxRecDepth 100000
variable {w0 w:World} {M0 Fz:Nat→Prop} {H:List It} {A:Option Addr} {c:Nat}
theorem t0_nChangeMay_ok {p:Prop} (h:p:=by subst hkl;have htn:((cg.marks.length:Int)-1).toNat=cg.marks.length-1:=(by omega);have hg0:=mseq_get (cg:=cg) (k:=cg.marks.length) (i:=0) (by omega);have hgl:=mseq_get (cg:=cg) (k:=cg.marks.length) (i:=cg.marks.length-1) (by omega);(try simp only [htn,hg0,hgl,hml,Decidable.not_not,ne_eq,Bool.not_eq_true,decide_eq_true_eq,decide_eq_false_iff_not] at hg1 hg2 hg3 hc4 hlt hs6 hs7 hs8 hs9);rw [ChangeMay_prog];have hA:1≤cg.marks.length∧cg.marks.length≤5:=(by omega);(try simp only [hA,hg0,hgl,hml]);(try simp only [hg1,hg2,hg3,hc4,hlt,hs6,hs7,hs8,hs9,true_and,and_true,false_and,and_false,not_false_eq_true]);try omega):p:=h
set_option maxHeartbeats 40000000 in
theorem nChangeMay_ok {cscg:List Value} {cg:Chn} {Scg:Nat→Prop} (hcg:changeR.rd Scg w cscg cg):Ret prog 80 #[.agg cscg.toArray] w (fun v w'=>v= .bool (decide (ChangeMay cg))∧Ext w w'):=by
 obtain ⟨hIcg,Acg0,ccg0,Acg1,ccg1,Acg2,ccg2,rfl,hcg0,hcg1,hcg2⟩:=hcg
 refine ret_of_wk func80 rfl ntmps80 leB_ ?_
 have hp:=HP.begin_ w
 refine so ?_
 refine Bx hp (h:=fun gs1 w1 hp hE1=>so ?_)
 refine Cs (n_isNode) ?_
 refine so ?_
 refine Gs 10 ?_ ?_<;>intro hg1<;>refine so ?_
 refine aT (so ?_)
 refine Pt ?_
 exact ⟨_,rfl,bool_f (by unfold ChangeMay;omega),hp.chg⟩
 refine Cs (n_within) ?_
 refine so ?_
 refine Gs 16 ?_ ?_<;>intro hg2<;>refine so ?_
 refine aT (so ?_)
 refine Pt ?_
 exact ⟨_,rfl,bool_f (by unfold ChangeMay;omega),hp.chg⟩
 refine Cs (n_within) ?_
 refine so ?_
 refine Gs 22 ?_ ?_<;>intro hg3<;>refine so ?_
 refine aT (so ?_)
 refine Pt ?_
 exact ⟨_,rfl,bool_f (by unfold ChangeMay;omega),hp.chg⟩
 refine Cs (n_within) ?_
 refine so ?_
 refine Cd ?_ ?_<;>intro hc4<;>refine so ?_
 refine Pt ?_
 exact ⟨_,rfl,bool_f (by unfold ChangeMay;omega),hp.chg⟩
 replace hp:=hp.noRow 3 1
 refine so ?_
 refine Lp [1,3,30,31,32] (fun L' w' mes=> ∃(k:Nat),∃(A:Option Addr),∃(c:Nat),L'= [(1,pt gs1 0),(3, .slice A (mseq cg k).length c),(30, .slice Acg0 cg.marks.length ccg0),(31,iv (cg.marks.length:Int)),(32,iv (k:Int))]∧(k≤cg.marks.length)∧(cg.marks.length≤5)∧(GS intR (fun _=>True) w' A c (mseq cg k))∧(GS markR (fun b=>b<w.heap.size) w' Acg0 ccg0 cg.marks)∧(GS standR (fun b=>b<w.heap.size) w' Acg1 ccg1 cg.p)∧(GS standR (fun b=>b<w.heap.size) w' Acg2 ccg2 cg.q)∧(HP w (fun _=>False) (fun b=>b<w.heap.size) w' (itR 3 1 A (mseq cg k).length c ((mseq cg k).map fun z:Int=>iv z)::itB gs1 35 ([iv cg.node,iv cg.view,iv cg.low, .slice Acg0 cg.marks.length ccg0, .slice Acg1 cg.p.length ccg1, .slice Acg2 cg.q.length ccg2]):: []))∧cg.marks.length-k=mes) (cg.marks.length-0) ⟨0,none,0,rfl,by omega,by omega,gsn,hcg0.tn,hcg1.tn,hcg2.tn,hp,rfl⟩ ?_
 rintro _ wr _ ⟨k,A,c,rfl,hk,hm5,hsq,hcg0,hcg1,hcg2,hp,rfl⟩ KL1 hKL1
 refine so ?_
 refine Cd ?_ ?_<;>intro hlt
 refine so ?_
 obtain ⟨ae6,hAe6,hate6,hIe6⟩:=markR_el hcg0 k (by omega)
 refine so ?_
 refine Alo hp (h:=fun gs5 w7 hp hE7=> ?_)
 refine Hs 0 hp (h:=fun w8 hp hC8=>so ?_)
 refine wl_bsliceE (enc:=fun z:Int=>iv z) (xs:= [.tmp 38]) (bs:= [(cg.marks.getD k mark0).seq]) (fun _=>rfl) (by decide) sl22 rfl rfl rfl (by simp) _ (Nat.le_refl _) ?_
 rintro gt wt hgt hot hEt
 replace hp:=hp.ext hEt
 refine wl_happend (i:=1) (m:=1) (news:= [iv (cg.marks.getD k mark0).seq]) (by decide) sl22 rfl rfl hp rfl rfl (fun b hb=>by cases hb;exact hot.at0) (by simp) (by simp [Value.oneCell']) (by rw [mseq_len (by omega)];omega) ?_
 rintro A3 c3 w3 hp hC3
 refine sl ?_
 refine wc_region ?_
 refine sl ?_
 refine wk_drop [(1,pt gs1 0),(3, .slice A3 (mseq cg (k+1)).length c3),(30, .slice Acg0 cg.marks.length ccg0),(31,iv (cg.marks.length:Int)),(32,iv ((k+1):Int))] ⟨rfl,(by rw [mseq_succ (by omega),List.length_append];rfl),rfl,rfl,rfl,trivial⟩ (hKL1 _ _ (m2:=cg.marks.length-(k+1)) ?_ ?_)
 refine ⟨(k+1),A3,c3,rfl,by omega,hm5, ?_,hcg0.to,hcg1.to,hcg2.to, ?_,rfl⟩
 exact (OwnRow.gsF (he:=fun _=>rfl) (by have:=hp.rowAt (i:=1) rfl;rw [mseq_succ (by omega)];simpa using this) (fun _ _ _=>trivial))
 rw [mseq_succ (by omega),List.map_append,List.length_append];exact hp.tail
 omega
 have hkl:k=cg.marks.length:=by omega
 have hml:=mseq_len (cg:=cg) (k:=k) (by omega)
 refine so ?_
 by_cases hs6:((mseq cg k).getD 0 0)=cg.low
 by_cases hs7:RiseI (mseq cg k)
 by_cases hs8:((mseq cg k).getD (((mseq cg k).length:Int)-1).toNat 0)≤9007199254740991
 by_cases hs9:StandsMay cg.p cg.low cg.view 1
 obtain ⟨aw1,hAw1,hatw1⟩:=GS.elI hsq 0 (by omega)
 obtain ⟨aw15,hAw15,hatw15⟩:=GS.elI hsq (((mseq cg k).length:Int)-1).toNat (by omega)
 cases Option.some.inj (hAw1.symm.trans hAw15)
 refine wdP 32 hp (fun wD hp hED=>by refine pm ?_;exact PLeg (nRise_ok hsq.to) (h:=by refine pm ?_;exact .op rfl (aGy rfl rfl (by first|rfl|exact bt|exact bf) (wl_idx0 (by decide) sl22 rfl rfl hAw15 (((mseq cg k).length:Int)-1).toNat (by omega) (by omega) (wl_nil qp))) (by refine pm ?_;exact PLeg (nStandsMay_ok (many:=1) hcg1.to ⟨hIcg,_,_,_,_,_,_,rfl,hcg0.to,hcg1.to,hcg2.to⟩ (by omega) (by omega)) (h:=by refine pm ?_;exact PLeg (nStandsMay_ok (many:=4) hcg2.to ⟨hIcg,_,_,_,_,_,_,rfl,hcg0.to,hcg1.to,hcg2.to⟩ (by omega) (by omega)) (h:=pl))))) fun wD hp hED=> ?_
 refine so ?_
 refine Pt ?_
 exact ⟨_,rfl,congrArg Value.bool (decide_eq_decide.2 t0_nChangeMay_ok),hp.chg⟩
 obtain ⟨aw1,hAw1,hatw1⟩:=GS.elI hsq 0 (by omega)
 obtain ⟨aw15,hAw15,hatw15⟩:=GS.elI hsq (((mseq cg k).length:Int)-1).toNat (by omega)
 cases Option.some.inj (hAw1.symm.trans hAw15)
 refine wdP 32 hp (fun wD hp hED=>by refine pm ?_;exact PLeg (nRise_ok hsq.to) (h:=by refine pm ?_;exact .op rfl (aGy rfl rfl (by first|rfl|exact bt|exact bf) (wl_idx0 (by decide) sl22 rfl rfl hAw15 (((mseq cg k).length:Int)-1).toNat (by omega) (by omega) (wl_nil qp))) (by refine pm ?_;exact PLeg (nStandsMay_ok (many:=1) hcg1.to ⟨hIcg,_,_,_,_,_,_,rfl,hcg0.to,hcg1.to,hcg2.to⟩ (by omega) (by omega)) (h:=pl)))) fun wD hp hED=> ?_
 refine so ?_
 refine Pt ?_
 exact ⟨_,rfl,bool_f t0_nChangeMay_ok,hp.chg⟩
 obtain ⟨aw1,hAw1,hatw1⟩:=GS.elI hsq 0 (by omega)
 obtain ⟨aw15,hAw15,hatw15⟩:=GS.elI hsq (((mseq cg k).length:Int)-1).toNat (by omega)
 cases Option.some.inj (hAw1.symm.trans hAw15)
 refine wdP 32 hp (fun wD hp hED=>by refine pm ?_;exact PLeg (nRise_ok hsq.to) (h:=by refine pm ?_;exact .op rfl (aGy rfl rfl (by first|rfl|exact bt|exact bf) (wl_idx0 (by decide) sl22 rfl rfl hAw15 (((mseq cg k).length:Int)-1).toNat (by omega) (by omega) (wl_nil qp))) pl)) fun wD hp hED=> ?_
 refine so ?_
 refine Pt ?_
 exact ⟨_,rfl,bool_f (by subst hkl;have htn:((cg.marks.length:Int)-1).toNat=cg.marks.length-1:=(by omega);have hg0:=mseq_get (cg:=cg) (k:=cg.marks.length) (i:=0) (by omega);have hgl:=mseq_get (cg:=cg) (k:=cg.marks.length) (i:=cg.marks.length-1) (by omega);(try simp only [htn,hg0,hgl,hml,Decidable.not_not] at hg1 hg2 hg3 hc4 hlt hs6 hs7 hs8);rw [ChangeMay_prog];have hA:1≤cg.marks.length∧cg.marks.length≤5:=(by omega);(try simp only [hA]);(try simp only [hg1,hg2,hg3,hs6,hs7,hs8,and_true,false_and,and_false,not_false_eq_true]);try omega),hp.chg⟩
 obtain ⟨aw1,hAw1,hatw1⟩:=GS.elI hsq 0 (by omega)
 refine wdP 32 hp (fun wD hp hED=>by refine pm ?_;exact PLeg (nRise_ok hsq.to) (h:=pl)) fun wD hp hED=> ?_
 refine so ?_
 refine Pt ?_
 exact ⟨_,rfl,bool_f (by subst hkl;have htn:((cg.marks.length:Int)-1).toNat=cg.marks.length-1:=(by omega);have hg0:=mseq_get (cg:=cg) (k:=cg.marks.length) (i:=0) (by omega);have hgl:=mseq_get (cg:=cg) (k:=cg.marks.length) (i:=cg.marks.length-1) (by omega);(try simp only [hg0,Decidable.not_not] at hg1 hg2 hg3 hc4 hlt hs6 hs7);rw [ChangeMay_prog];have hA:1≤cg.marks.length∧cg.marks.length≤5:=(by omega);(try simp only [hA]);(try simp only [hg1,hg2,hg3,hs6,hs7,and_true,false_and,and_false,not_false_eq_true]);try omega),hp.chg⟩
 obtain ⟨aw1,hAw1,hatw1⟩:=GS.elI hsq 0 (by omega)
 refine wP 32 hp (h:=fun wD hp hED=>so ?_)
 refine Pt ?_
 exact ⟨_,rfl,bool_f (by subst hkl;have htn:((cg.marks.length:Int)-1).toNat=cg.marks.length-1:=(by omega);have hg0:=mseq_get (cg:=cg) (k:=cg.marks.length) (i:=0) (by omega);have hgl:=mseq_get (cg:=cg) (k:=cg.marks.length) (i:=cg.marks.length-1) (by omega);(try simp only [hg0,Decidable.not_not] at hg1 hg2 hg3 hc4 hlt hs6);rw [ChangeMay_prog];have hA:1≤cg.marks.length∧cg.marks.length≤5:=(by omega);(try simp only [hA]);(try simp only [hg1,hg2,hg3,hs6,and_true,false_and,and_false,not_false_eq_true]);try omega),hp.chg⟩
end Go.Proofs.YtmbpneaibmldfaaGreat
