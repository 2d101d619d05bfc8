/- What each of these functions computes, for every argument that its theorem names; a part of what the proof of ImageOnce stands on. -/
import Derived.Test.YtmbpneaibmldfaaGreatAac
import Derived.Test.YtmbpneaibmldfaaGreatAad
import Derived.Test.YtmbpneaibmldfaaGreatAaf
import Derived.Test.YtmbpneaibmldfaaGreatAag
import Derived.Test.YtmbpneaibmldfaaGreatAai
import Derived.Test.YtmbpneaibmldfaaGreatAaj
import Derived.Test.YtmbpneaibmldfaaGreatAak
import Derived.Test.YtmbpneaibmldfaaGreatAal
import Derived.Test.YtmbpneaibmldfaaGreatAar
import Derived.Test.YtmbpneaibmldfaaGreatAas
namespace Go.Proofs.YtmbpneaibmldfaaGreat
open Go.RowKit Go.Eng Go.Eng _root_.Go.Proofs.Tryz
set_option maxRecDepth 100000
variable {w0 w:World} {M0 Fz:Nat→Prop} {H:List It} {A:Option Addr} {c:Nat}
theorem t0_nNewMay_ok {p:Prop} (h:p:=by exact upto hps (PkAt_iff.2 ⟨Decidable.not_not.1 (by assumption),fun h0=>by first|(exfalso;omega)|exact Decidable.not_not.1 (by assumption),Decidable.not_not.1 (by assumption),fun hh=>by first|omega|exact absurd hh.1 (by assumption)⟩)):p:=h
theorem t1_nNewMay_ok {p:Prop} (h:p:=by rw [NewMay_prog];first|exact ⟨fun hq=>⟨by omega,⟨by omega,by omega⟩,by assumption,by omega,fun i hi=>hcs i hi,fun i hi=>hps i hi⟩,fun h=>by have:=h.2.2.2.1;omega⟩|(intro h;obtain ⟨h1,h2,h3,h4,_⟩:=h;first|omega|exact absurd h3 (by assumption))):p:=h
set_option maxHeartbeats 40000000 in
theorem nNewMay_ok {csn:List Value} {n:Nte} {Sn:Nat→Prop} (hn:noteR.rd Sn w csn n) (hch:n.changes.length*96≤140737488355328):Ret prog 201 #[.agg csn.toArray] w (fun v w'=>v= .bool (decide (NewMay n))∧Ext w w'):=by
 obtain ⟨hIn,An0,cn0,An1,cn1,An2,cn2,An3,cn3,An4,cn4,An5,cn5,An6,cn6,An7,cn7,An8,cn8,An9,cn9,An10,cn10,rfl,hn0,hn1,hn2,hn3,hn4,hn5,hn6,hn7,hn8,hn9,hn10⟩:=hn
 have hJn:=hIn
 unfold NteI i64 at hJn
 have mhn0:=hn0.mx
 have mhn1:=hn1.mx
 have mhn2:=hn2.mx
 have mhn3:=hn3.mx
 have mhn4:=hn4.mx
 have mhn5:=hn5.mx
 have mhn6:=hn6.mx
 have mhn7:=hn7.mx
 have mhn8:=hn8.mx
 have mhn9:=hn9.mx
 have mhn10:=hn10.mx
 refine ret_of_wk func201 rfl ntmps201 leB_ ?_
 have hp:=HP.begin_ w
 refine so ?_
 refine Bx hp (h:=fun gs1 w1 hp hE1=>so ?_)
 replace hp:=hp.noRow 3 1
 refine so ?_
 refine Lp [1, 3, 10, 11, 12] (fun L' w' mes => ∃ (k : Nat), ∃ (A : Option Addr), ∃ (c : Nat), L' = [(1, pt gs1 0), (3, .slice A (mnode n k).length c), (10, .slice An6 n.changes.length cn6), (11, iv (n.changes.length : Int)), (12, iv (k : Int))] ∧ (k ≤ n.changes.length) ∧ (∀ i, i < k → ChangeMay (n.changes.getD i change0) ∧ (n.changes.getD i change0).view = n.view) ∧ (GS intR (fun _ => True) w' A c (mnode n k)) ∧ (GS wishR (fun b => b < w.heap.size) w' An0 cn0 n.batch) ∧ (GS byteR (fun b => b < w.heap.size) w' An1 cn1 n.ans.data) ∧ (GS intR (fun b => b < w.heap.size) w' An2 cn2 n.ans.nodes) ∧ (GS markR (fun b => b < w.heap.size) w' An3 cn3 n.change.marks) ∧ (GS standR (fun b => b < w.heap.size) w' An4 cn4 n.change.p) ∧ (GS standR (fun b => b < w.heap.size) w' An5 cn5 n.change.q) ∧ (GS changeR (fun b => b < w.heap.size) w' An6 cn6 n.changes) ∧ (GS pickR (fun b => b < w.heap.size) w' An7 cn7 n.picks) ∧ (GS digR (fun b => b < w.heap.size) w' An8 cn8 n.digs) ∧ (GS byteR (fun b => b < w.heap.size) w' An9 cn9 n.data) ∧ (GS intR (fun b => b < w.heap.size) w' An10 cn10 n.nodes) ∧ (HP w (fun _ => False) (fun b => b < w.heap.size) w' (itR 3 1 A (mnode n k).length c ((mnode n k).map fun z : Int => iv z) :: itB gs1 157 ([iv n.kind, iv n.from_, iv n.group, iv n.epoch, iv n.view, iv n.seq] ++ (digC n.dig ++ ([.slice An0 n.batch.length cn0, iv n.ans.err, .slice An1 n.ans.data.length cn1, iv n.ans.epoch, .slice An2 n.ans.nodes.length cn2, iv n.stamp, iv n.node, iv n.change.node, iv n.change.view, iv n.change.low, .slice An3 n.change.marks.length cn3, .slice An4 n.change.p.length cn4, .slice An5 n.change.q.length cn5, .slice An6 n.changes.length cn6, .slice An7 n.picks.length cn7, iv n.level, iv n.place, .slice An8 n.digs.length cn8, .slice An9 n.data.length cn9, .slice An10 n.nodes.length cn10]))) :: [])) ∧ n.changes.length - k = mes) (n.changes.length - 0) (by
     refine ⟨0,none,0,rfl,by omega, ?_,gsn,hn0.tn,hn1.tn,hn2.tn,hn3.tn,hn4.tn,hn5.tn,hn6.tn,hn7.tn,hn8.tn,hn9.tn,hn10.tn,hp,rfl⟩
     intro i hi;omega) ?_
 rintro _ wr _ ⟨k,A,c,rfl,hk,hcs,hsq,hn0,hn1,hn2,hn3,hn4,hn5,hn6,hn7,hn8,hn9,hn10,hp,rfl⟩ KL1 hKL1
 refine so ?_
 refine Cd ?_ ?_<;>intro hlt
 refine so ?_
 obtain ⟨ae2,pe2_0,qe2_0,pe2_1,qe2_1,pe2_2,qe2_2,hAe2,hate2,hIe2,he2_0,he2_1,he2_2⟩:=changeR_el hn6 k (by omega)
 refine so ?_
 refine Alo hp (h:=fun gs5 w3 hp hE3=> ?_)
 refine Hs 0 hp (h:=fun w4 hp hC4=>so ?_)
 refine Cx hp (nChangeMay_ok ⟨hIe2,_,_,_,_,_,_,rfl,he2_0.to,he2_1.to,he2_2.to⟩) fun w5 hp hE5=>so ?_
 refine Gs 19 ?_ ?_<;>intro hg2<;>refine so ?_
 refine aT (so ?_)
 refine Pt ?_
 exact ⟨_,rfl,bool_f (fun h=>by rw [NewMay_prog] at h;have:=h.2.2.2.2.1 k (by omega);simp_all),hp.chg⟩
 refine Cd ?_ ?_<;>intro hc3<;>refine so ?_
 refine Pt ?_
 exact ⟨_,rfl,bool_f (fun h=>by rw [NewMay_prog] at h;have:=h.2.2.2.2.1 k (by omega);simp_all),hp.chg⟩
 refine wl_bsliceE (enc:=fun z:Int=>iv z) (xs:= [.tmp 28]) (bs:= [(n.changes.getD k change0).node]) (fun _=>rfl) (by decide) sl22 rfl rfl rfl (by simp) _ (Nat.le_refl _) ?_
 rintro gt wt hgt hot hEt
 replace hp:=hp.ext hEt
 refine wl_happend (i:=1) (m:=1) (news:= [iv (n.changes.getD k change0).node]) (by decide) sl22 rfl rfl hp rfl rfl (fun b hb=>by cases hb;exact hot.at0) (by simp) (by simp [Value.oneCell']) (by rw [mnode_len (by omega)];omega) ?_
 rintro A3 c3 w3 hp hC3
 refine sl ?_
 refine wc_region ?_
 refine sl ?_
 refine wk_drop [(1,pt gs1 0),(3, .slice A3 (mnode n (k+1)).length c3),(10, .slice An6 n.changes.length cn6),(11,iv (n.changes.length:Int)),(12,iv ((k+1):Int))] ⟨rfl,(by rw [mnode_succ (by omega),List.length_append];rfl),rfl,rfl,rfl,trivial⟩ (hKL1 _ _ (m2:=n.changes.length-(k+1)) ?_ ?_)
 refine ⟨(k+1),A3,c3,rfl,by omega,upto hcs ⟨by simp_all,by omega⟩, ?_,hn0.to,hn1.to,hn2.to,hn3.to,hn4.to,hn5.to,hn6.to,hn7.to,hn8.to,hn9.to,hn10.to, ?_,rfl⟩
 exact (OwnRow.gsF (he:=fun _=>rfl) (by have:=hp.rowAt (i:=1) rfl;rw [mnode_succ (by omega)];simpa using this) (fun _ _ _=>trivial))
 rw [mnode_succ (by omega),List.map_append,List.length_append];exact hp.tail
 omega
 have hkl:k=n.changes.length:=by omega
 have hml:=mnode_len (n:=n) (k:=k) (by omega)
 subst hkl
 refine so ?_
 refine Lp [1, 3, 33, 34, 35] (fun L' w' mes => ∃ (j : Nat), L' = [(1, pt gs1 0), (3, .slice A (mnode n n.changes.length).length c), (33, .slice An7 n.picks.length cn7), (34, iv (n.picks.length : Int)), (35, iv (j : Int))] ∧ (j ≤ n.picks.length) ∧ (∀ i, i < j → PkAt n.picks n.group n.epoch i) ∧ (GS wishR (fun b => b < w.heap.size) w' An0 cn0 n.batch) ∧ (GS byteR (fun b => b < w.heap.size) w' An1 cn1 n.ans.data) ∧ (GS intR (fun b => b < w.heap.size) w' An2 cn2 n.ans.nodes) ∧ (GS markR (fun b => b < w.heap.size) w' An3 cn3 n.change.marks) ∧ (GS standR (fun b => b < w.heap.size) w' An4 cn4 n.change.p) ∧ (GS standR (fun b => b < w.heap.size) w' An5 cn5 n.change.q) ∧ (GS changeR (fun b => b < w.heap.size) w' An6 cn6 n.changes) ∧ (GS pickR (fun b => b < w.heap.size) w' An7 cn7 n.picks) ∧ (GS digR (fun b => b < w.heap.size) w' An8 cn8 n.digs) ∧ (GS byteR (fun b => b < w.heap.size) w' An9 cn9 n.data) ∧ (GS intR (fun b => b < w.heap.size) w' An10 cn10 n.nodes) ∧ (HP w (fun _ => False) (fun b => b < w.heap.size) w' (itR 3 1 A (mnode n n.changes.length).length c ((mnode n n.changes.length).map fun z : Int => iv z) :: itB gs1 157 ([iv n.kind, iv n.from_, iv n.group, iv n.epoch, iv n.view, iv n.seq] ++ (digC n.dig ++ ([.slice An0 n.batch.length cn0, iv n.ans.err, .slice An1 n.ans.data.length cn1, iv n.ans.epoch, .slice An2 n.ans.nodes.length cn2, iv n.stamp, iv n.node, iv n.change.node, iv n.change.view, iv n.change.low, .slice An3 n.change.marks.length cn3, .slice An4 n.change.p.length cn4, .slice An5 n.change.q.length cn5, .slice An6 n.changes.length cn6, .slice An7 n.picks.length cn7, iv n.level, iv n.place, .slice An8 n.digs.length cn8, .slice An9 n.data.length cn9, .slice An10 n.nodes.length cn10]))) :: [])) ∧ n.picks.length - j = mes) (n.picks.length - 0) (by
     refine ⟨0,rfl,by omega, ?_,hn0,hn1,hn2,hn3,hn4,hn5,hn6,hn7,hn8,hn9,hn10,hp,rfl⟩
     intro i hi;omega) ?_
 rintro _ wp _ ⟨j,rfl,hj,hps,hn0,hn1,hn2,hn3,hn4,hn5,hn6,hn7,hn8,hn9,hn10,hp,rfl⟩ KL2 hKL2
 refine so ?_
 refine Cd ?_ ?_<;>intro hc4
 refine so ?_
 obtain ⟨ae6,pe6_0,qe6_0,hAe6,hate6,hIe6,he6_0⟩:=pickR_el hn7 j (by omega)
 refine so ?_
 refine Alo hp (h:=fun gs7 w7 hp hE7=>so ?_)
 refine Hs 0 hp (h:=fun w8 hp hC8=>so ?_)
 by_cases hs5:(j:Int)=0
 refine wP 16 hp (h:=fun wD hp hED=>so ?_)
 refine Cs (n_isSeq) ?_
 refine so ?_
 refine Gs 59 ?_ ?_<;>intro hg6<;>refine so ?_
 refine aT (so ?_)
 refine Pt ?_
 exact ⟨_,rfl,bool_f (fun h=>by obtain ⟨p1,p2,p3,p4⟩:=PkAt_iff.1 (h.2.2.2.2.2 j (by omega));first|exact absurd p1 (by assumption)|exact absurd p3 (by assumption)|exact absurd (p2 (by omega)) (by assumption)|exact p4 ⟨by assumption,by omega⟩),hp.chg⟩
 refine Cx hp (nBatchMay_ok he6_0.to ⟨hIn,_,_,_,_,_,_,_,_,_,_,_,_,_,_,_,_,_,_,_,_,_,_,rfl,hn0.to,hn1.to,hn2.to,hn3.to,hn4.to,hn5.to,hn6.to,hn7.to,hn8.to,hn9.to,hn10.to⟩) fun w10 hp hE10=>so ?_
 refine Gs 70 ?_ ?_<;>intro hg7<;>refine so ?_
 refine aT (so ?_)
 refine Pt ?_
 exact ⟨_,rfl,bool_f (fun h=>by obtain ⟨p1,p2,p3,p4⟩:=PkAt_iff.1 (h.2.2.2.2.2 j (by omega));first|exact absurd p1 (by assumption)|exact absurd p3 (by assumption)|exact absurd (p2 (by omega)) (by assumption)|exact p4 ⟨by assumption,by omega⟩),hp.chg⟩
 refine wl_builtS (cells:=digC dig0) (ps:= []) (by decide) bld26 rfl rfl ?_
 refine so ?_
 refine wl_eqlK (m:=6) ((n.picks.getD j pick0).dig=dig0) (by decide) key26 eg26 rfl rfl (digC_fit _) (digC_fit _) digC_inj ?_
 refine so ?_
 refine Gs 75 ?_ ?_<;>intro hg8<;>refine so ?_
 refine Cd ?_ ?_<;>intro hc9<;>refine so ?_
 refine Pt ?_
 exact ⟨_,rfl,bool_f (fun h=>by obtain ⟨p1,p2,p3,p4⟩:=PkAt_iff.1 (h.2.2.2.2.2 j (by omega));first|exact absurd p1 (by assumption)|exact absurd p3 (by assumption)|exact absurd (p2 (by omega)) (by assumption)|exact p4 ⟨by assumption,by omega⟩),hp.chg⟩
 refine Kl [1,3,33,34,35] hKL2 (n.picks.length-(j+1)) ⟨(j+1),rfl,by omega, ?_,hn0.to,hn1.to,hn2.to,hn3.to,hn4.to,hn5.to,hn6.to,hn7.to,hn8.to,hn9.to,hn10.to,hp.tail,rfl⟩ (by omega)
 exact t0_nNewMay_ok
 refine aF (so ?_)
 refine Kl [1,3,33,34,35] hKL2 (n.picks.length-(j+1)) ⟨(j+1),rfl,by omega, ?_,hn0.to,hn1.to,hn2.to,hn3.to,hn4.to,hn5.to,hn6.to,hn7.to,hn8.to,hn9.to,hn10.to,hp.tail,rfl⟩ (by omega)
 exact t0_nNewMay_ok
 obtain ⟨aw10,pw10_0,qw10_0,hAw10,hatw10,hIw10,hw10_0⟩:=pickR_el (hn7.to (w':=w8)) (j-1) (by omega)
 refine wdP 16 hp (fun wD hp hED=>by refine pm ?_;exact .op rfl (aGy rfl rfl (by first|rfl|exact bt|exact bf) (wl_sub (by decide) rfl rfl rfl (wl_nil qp))) (by refine pm ?_;exact .op rfl (aGy rfl rfl (by first|rfl|exact bt|exact bf) (wl_idx0 (by decide) sl154 rfl rfl hAw10 (j-1) (by omega) (by omega) (wl_nil qp))) pl)) fun wD hp hED=> ?_
 refine so ?_
 refine Cs (n_isSeq) ?_
 refine so ?_
 refine Gs 59 ?_ ?_<;>intro hg10<;>refine so ?_
 refine aT (so ?_)
 refine Pt ?_
 exact ⟨_,rfl,bool_f (fun h=>by obtain ⟨p1,p2,p3,p4⟩:=PkAt_iff.1 (h.2.2.2.2.2 j (by omega));first|exact absurd p1 (by assumption)|exact absurd p3 (by assumption)|exact absurd (p2 (by omega)) (by assumption)|exact p4 ⟨by assumption,by omega⟩),hp.chg⟩
 refine Gs 63 ?_ ?_<;>intro hg11<;>refine so ?_
 refine aT (so ?_)
 refine Pt ?_
 exact ⟨_,rfl,bool_f (fun h=>by obtain ⟨p1,p2,p3,p4⟩:=PkAt_iff.1 (h.2.2.2.2.2 j (by omega));first|exact absurd p1 (by assumption)|exact absurd p3 (by assumption)|exact absurd (p2 (by omega)) (by assumption)|exact p4 ⟨by assumption,by omega⟩),hp.chg⟩
 refine Cx hp (nBatchMay_ok he6_0.to ⟨hIn,_,_,_,_,_,_,_,_,_,_,_,_,_,_,_,_,_,_,_,_,_,_,rfl,hn0.to,hn1.to,hn2.to,hn3.to,hn4.to,hn5.to,hn6.to,hn7.to,hn8.to,hn9.to,hn10.to⟩) fun w12 hp hE12=>so ?_
 refine Gs 70 ?_ ?_<;>intro hg12<;>refine so ?_
 refine aT (so ?_)
 refine Pt ?_
 exact ⟨_,rfl,bool_f (fun h=>by obtain ⟨p1,p2,p3,p4⟩:=PkAt_iff.1 (h.2.2.2.2.2 j (by omega));first|exact absurd p1 (by assumption)|exact absurd p3 (by assumption)|exact absurd (p2 (by omega)) (by assumption)|exact p4 ⟨by assumption,by omega⟩),hp.chg⟩
 refine wl_builtS (cells:=digC dig0) (ps:= []) (by decide) bld26 rfl rfl ?_
 refine so ?_
 refine wl_eqlK (m:=6) ((n.picks.getD j pick0).dig=dig0) (by decide) key26 eg26 rfl rfl (digC_fit _) (digC_fit _) digC_inj ?_
 refine so ?_
 refine Gs 75 ?_ ?_<;>intro hg13<;>refine so ?_
 refine Cd ?_ ?_<;>intro hc14<;>refine so ?_
 refine Pt ?_
 exact ⟨_,rfl,bool_f (fun h=>by obtain ⟨p1,p2,p3,p4⟩:=PkAt_iff.1 (h.2.2.2.2.2 j (by omega));first|exact absurd p1 (by assumption)|exact absurd p3 (by assumption)|exact absurd (p2 (by omega)) (by assumption)|exact p4 ⟨by assumption,by omega⟩),hp.chg⟩
 refine Kl [1,3,33,34,35] hKL2 (n.picks.length-(j+1)) ⟨(j+1),rfl,by omega, ?_,hn0.to,hn1.to,hn2.to,hn3.to,hn4.to,hn5.to,hn6.to,hn7.to,hn8.to,hn9.to,hn10.to,hp.tail,rfl⟩ (by omega)
 exact t0_nNewMay_ok
 refine aF (so ?_)
 refine Kl [1,3,33,34,35] hKL2 (n.picks.length-(j+1)) ⟨(j+1),rfl,by omega, ?_,hn0.to,hn1.to,hn2.to,hn3.to,hn4.to,hn5.to,hn6.to,hn7.to,hn8.to,hn9.to,hn10.to,hp.tail,rfl⟩ (by omega)
 exact t0_nNewMay_ok
 clear hsq
 have hsq:GS intR (fun _=>True) _ A c (mnode n n.changes.length):=OwnRow.gsF (he:=fun _=>rfl) (hp.rowAt (i:=0) rfl) (fun _ _ _=>trivial)
 have hjl:j=n.picks.length:=by omega
 subst hjl
 refine so ?_
 refine Gs 86 ?_ ?_<;>intro hg15<;>refine so ?_
 refine Cs (n_within) ?_
 refine so ?_
 refine Gs 91 ?_ ?_<;>intro hg16<;>refine so ?_
 refine Cx hp (nRise_ok hsq) fun w14 hp hE14=>so ?_
 refine Gs 95 ?_ ?_<;>intro hg17<;>refine so ?_
 refine Pt ?_
 exact ⟨_,rfl,congrArg Value.bool (decide_eq_decide.2 t1_nNewMay_ok),hp.chg⟩
 refine Pt ?_
 exact ⟨_,rfl,bool_f t1_nNewMay_ok,hp.chg⟩
 refine Pt ?_
 exact ⟨_,rfl,bool_f t1_nNewMay_ok,hp.chg⟩
 refine Pt ?_
 exact ⟨_,rfl,bool_f t1_nNewMay_ok,hp.chg⟩
end Go.Proofs.YtmbpneaibmldfaaGreat
