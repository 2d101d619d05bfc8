/- What each of these functions computes, for every argument that its theorem names; a part of what the proof of ImageOnce stands on. -/
import Derived.Test.YtmbpneaibmldfaaGreatAac
import Derived.Test.YtmbpneaibmldfaaGreatAad
import Derived.Test.YtmbpneaibmldfaaGreatAaf
import Derived.Test.YtmbpneaibmldfaaGreatAag
import Derived.Test.YtmbpneaibmldfaaGreatAai
import Derived.Test.YtmbpneaibmldfaaGreatAaj
namespace Go.Proofs.YtmbpneaibmldfaaGreat
open Go.RowKit Go.Eng Go.Eng _root_.Go.Proofs.Tryz
set_option maxRecDepth 100000
variable {w0 w:World} {M0 Fz:Nat→Prop} {H:List It} {A:Option Addr} {c:Nat}
def noteR:Rep Nte where
 size:=58
 rd:=fun S w cs x=>NteI x∧∃A0 c0 A1 c1 A2 c2 A3 c3 A4 c4 A5 c5 A6 c6 A7 c7 A8 c8 A9 c9 A10 c10,cs= [.int .i64 x.kind, .int .i64 x.from_, .int .i64 x.group, .int .i64 x.epoch, .int .i64 x.view, .int .i64 x.seq]++(digC x.dig++([.slice A0 x.batch.length c0, .int .i64 x.ans.err, .slice A1 x.ans.data.length c1, .int .i64 x.ans.epoch, .slice A2 x.ans.nodes.length c2, .int .i64 x.stamp, .int .i64 x.node, .int .i64 x.change.node, .int .i64 x.change.view, .int .i64 x.change.low, .slice A3 x.change.marks.length c3, .slice A4 x.change.p.length c4, .slice A5 x.change.q.length c5, .slice A6 x.changes.length c6, .slice A7 x.picks.length c7, .int .i64 x.level, .int .i64 x.place, .slice A8 x.digs.length c8, .slice A9 x.data.length c9, .slice A10 x.nodes.length c10]))∧GS wishR S w A0 c0 x.batch∧GS byteR S w A1 c1 x.ans.data∧GS intR S w A2 c2 x.ans.nodes∧GS markR S w A3 c3 x.change.marks∧GS standR S w A4 c4 x.change.p∧GS standR S w A5 c5 x.change.q∧GS changeR S w A6 c6 x.changes∧GS pickR S w A7 c7 x.picks∧GS digR S w A8 c8 x.digs∧GS byteR S w A9 c9 x.data∧GS intR S w A10 c10 x.nodes
 len:=by rintro _ _ _ _ ⟨hI,A0,c0,A1,c1,A2,c2,A3,c3,A4,c4,A5,c5,A6,c6,A7,c7,A8,c8,A9,c9,A10,c10,rfl,k0,k1,k2,k3,k4,k5,k6,k7,k8,k9,k10⟩;rfl
 one:=by rintro _ _ _ _ ⟨hI,A0,c0,A1,c1,A2,c2,A3,c3,A4,c4,A5,c5,A6,c6,A7,c7,A8,c8,A9,c9,A10,c10,rfl,k0,k1,k2,k3,k4,k5,k6,k7,k8,k9,k10⟩;exact List.all_eq_true.1 rfl
 keep:=by rintro _ _ _ _ _ _ ch hm ⟨hI,A0,c0,A1,c1,A2,c2,A3,c3,A4,c4,A5,c5,A6,c6,A7,c7,A8,c8,A9,c9,A10,c10,rfl,k0,k1,k2,k3,k4,k5,k6,k7,k8,k9,k10⟩;exact ⟨hI,_,_,_,_,_,_,_,_,_,_,_,_,_,_,_,_,_,_,_,_,_,_,rfl,k0.keep ch hm,k1.keep ch hm,k2.keep ch hm,k3.keep ch hm,k4.keep ch hm,k5.keep ch hm,k6.keep ch hm,k7.keep ch hm,k8.keep ch hm,k9.keep ch hm,k10.keep ch hm⟩
 mono:=by rintro _ _ _ _ _ hs ⟨hI,A0,c0,A1,c1,A2,c2,A3,c3,A4,c4,A5,c5,A6,c6,A7,c7,A8,c8,A9,c9,A10,c10,rfl,k0,k1,k2,k3,k4,k5,k6,k7,k8,k9,k10⟩;exact ⟨hI,_,_,_,_,_,_,_,_,_,_,_,_,_,_,_,_,_,_,_,_,_,_,rfl,k0.mono hs,k1.mono hs,k2.mono hs,k3.mono hs,k4.mono hs,k5.mono hs,k6.mono hs,k7.mono hs,k8.mono hs,k9.mono hs,k10.mono hs⟩
def imgR:Rep Img where
 size:=42
 rd:=fun S w cs x=>ImgI x∧∃A0 c0 A1 c1 A2 c2 A3 c3 A4 c4,cs= [.int .i64 x.view, .bool x.active, .int .i64 x.low.seq]++(digC x.low.dig++([.slice A0 x.own.length c0, .slice A1 x.p.length c1, .slice A2 x.q.length c2, .int .i64 x.ran, .slice A3 x.done.length c3, .bool x.ended, .slice A4 x.batches.length c4]))∧GS markR S w A0 c0 x.own∧GS standR S w A1 c1 x.p∧GS standR S w A2 c2 x.q∧GS markR S w A3 c3 x.done∧GS batR S w A4 c4 x.batches
 len:=by rintro _ _ _ _ ⟨hI,A0,c0,A1,c1,A2,c2,A3,c3,A4,c4,rfl,k0,k1,k2,k3,k4⟩;rfl
 one:=by rintro _ _ _ _ ⟨hI,A0,c0,A1,c1,A2,c2,A3,c3,A4,c4,rfl,k0,k1,k2,k3,k4⟩;exact List.all_eq_true.1 rfl
 keep:=by rintro _ _ _ _ _ _ ch hm ⟨hI,A0,c0,A1,c1,A2,c2,A3,c3,A4,c4,rfl,k0,k1,k2,k3,k4⟩;exact ⟨hI,_,_,_,_,_,_,_,_,_,_,rfl,k0.keep ch hm,k1.keep ch hm,k2.keep ch hm,k3.keep ch hm,k4.keep ch hm⟩
 mono:=by rintro _ _ _ _ _ hs ⟨hI,A0,c0,A1,c1,A2,c2,A3,c3,A4,c4,rfl,k0,k1,k2,k3,k4⟩;exact ⟨hI,_,_,_,_,_,_,_,_,_,_,rfl,k0.mono hs,k1.mono hs,k2.mono hs,k3.mono hs,k4.mono hs⟩
def rplR:Rep Rpl where
 size:=54
 rd:=fun S w cs x=>RplI x∧∃A0 c0 A1 c1 A2 c2 A3 c3 A4 c4 A5 c5 A6 c6 A7 c7 A8 c8 A9 c9,cs= [.int .i64 x.group, .int .i64 x.epoch, .int .i64 x.faults, .slice A0 x.nodes.length c0, .int .i64 x.img.view, .bool x.img.active, .int .i64 x.img.low.seq]++(digC x.img.low.dig++([.slice A1 x.img.own.length c1, .slice A2 x.img.p.length c2, .slice A3 x.img.q.length c3, .int .i64 x.img.ran, .slice A4 x.img.done.length c4, .bool x.img.ended, .slice A5 x.img.batches.length c5, .bool x.left, .int .i64 x.change.node, .int .i64 x.change.view, .int .i64 x.change.low, .slice A6 x.change.marks.length c6, .slice A7 x.change.p.length c7, .slice A8 x.change.q.length c8, .slice A9 x.state.length c9]))∧GS intR S w A0 c0 x.nodes∧GS markR S w A1 c1 x.img.own∧GS standR S w A2 c2 x.img.p∧GS standR S w A3 c3 x.img.q∧GS markR S w A4 c4 x.img.done∧GS batR S w A5 c5 x.img.batches∧GS markR S w A6 c6 x.change.marks∧GS standR S w A7 c7 x.change.p∧GS standR S w A8 c8 x.change.q∧GS byteR S w A9 c9 x.state
 len:=by rintro _ _ _ _ ⟨hI,A0,c0,A1,c1,A2,c2,A3,c3,A4,c4,A5,c5,A6,c6,A7,c7,A8,c8,A9,c9,rfl,k0,k1,k2,k3,k4,k5,k6,k7,k8,k9⟩;rfl
 one:=by rintro _ _ _ _ ⟨hI,A0,c0,A1,c1,A2,c2,A3,c3,A4,c4,A5,c5,A6,c6,A7,c7,A8,c8,A9,c9,rfl,k0,k1,k2,k3,k4,k5,k6,k7,k8,k9⟩;exact List.all_eq_true.1 rfl
 keep:=by rintro _ _ _ _ _ _ ch hm ⟨hI,A0,c0,A1,c1,A2,c2,A3,c3,A4,c4,A5,c5,A6,c6,A7,c7,A8,c8,A9,c9,rfl,k0,k1,k2,k3,k4,k5,k6,k7,k8,k9⟩;exact ⟨hI,_,_,_,_,_,_,_,_,_,_,_,_,_,_,_,_,_,_,_,_,rfl,k0.keep ch hm,k1.keep ch hm,k2.keep ch hm,k3.keep ch hm,k4.keep ch hm,k5.keep ch hm,k6.keep ch hm,k7.keep ch hm,k8.keep ch hm,k9.keep ch hm⟩
 mono:=by rintro _ _ _ _ _ hs ⟨hI,A0,c0,A1,c1,A2,c2,A3,c3,A4,c4,A5,c5,A6,c6,A7,c7,A8,c8,A9,c9,rfl,k0,k1,k2,k3,k4,k5,k6,k7,k8,k9⟩;exact ⟨hI,_,_,_,_,_,_,_,_,_,_,_,_,_,_,_,_,_,_,_,_,rfl,k0.mono hs,k1.mono hs,k2.mono hs,k3.mono hs,k4.mono hs,k5.mono hs,k6.mono hs,k7.mono hs,k8.mono hs,k9.mono hs⟩
theorem RplI.crew {r:Rpl} (h:RplI r):CrwI r.crew:=by unfold RplI i64 at h;unfold CrwI i64 Rpl.crew;dsimp only;omega
end Go.Proofs.YtmbpneaibmldfaaGreat
namespace Go.Proofs.YtmbpneaibmldfaaGreat
open Go.RowKit Go.Eng _root_.Go.Proofs.Tryz Go.Eng _root_.Go.Proofs.Tryz
set_option maxRecDepth 100000
variable {w0 w:World} {M0 Fz:Nat→Prop} {H:List It} {A:Option Addr} {c:Nat}
theorem schA_len (B:List UInt8) (k:Nat):(schA B k).length=64:=by
 induction k with
 |zero=>rfl
 |succ k ih=>rw [schA,List.length_set,ih]
def sched (B:List UInt8):List Int:=schB (schA B 16) 48
theorem padV_len (l:List UInt8):(padV l).length%64=0∧(padV l).length≤l.length+72:=by
 simp only [padV,padZ,List.length_append,List.length_replicate,tailB_len,List.length_cons,List.length_nil]
 omega
end Go.Proofs.YtmbpneaibmldfaaGreat
namespace Go.Proofs.YtmbpneaibmldfaaGreat
open Go.RowKit Go.Eng Go.Eng _root_.Go.Proofs.Tryz
set_option maxRecDepth 100000
variable {w0 w:World} {M0 Fz:Nat→Prop} {H:List It} {A:Option Addr} {c:Nat}
theorem rstr_ok {b:List UInt8} {Sa:Nat→Prop} (h:BS Sa w A c b):Ret prog 87 #[.slice A b.length c] w (fun v w'=> ∃A c,v= .tuple #[.slice A (strS b).1.length c, .int .i64 (strS b).2]∧OwnB 5 w.heap.size w' A c (strS b).1∧Ext w w'):=by
 refine ret_of_wk func87 rfl ntmps87 leB_ ?_
 refine go ?_
 refine Ln_ underlying36 rfl ?_
 refine Gt_ rfl rfl (go ?_)
 refine Cd (fun hl=> ?_) fun hl=> ?_
 refine go ?_
 refine P2 results87 ?_
 have e:strS b=([],5):=by simp only [strS];rw [if_pos (by omega)]
 exact ⟨_,rfl,none,0,by rw [e];try rfl,by rw [e];exact OwnRow.nil _ _ _ _ _,Chg.refl _ _⟩
 have hns:numS (b.length:Int)=(numL b.length,0):=by rw [numS,if_neg (by omega)];simp
 have hnl:=numL_len b.length (by omega)
 refine go ?_
 refine Ln_ underlying36 rfl ?_
 refine Cl_ cl83 rfl (rnum_ok (by omega) (by omega)) ?_
 rintro _ w1 ⟨A1,c1,rfl,ho1,hE1⟩
 rw [hns] at ho1⊢
 refine go ?_
 refine wl_appendB (by decide) sl36 rfl rfl ho1 (h.ext hE1) (by simp;omega) hE1.size ?_
 rintro A3 c3 w3 ho3 ch3 _
 refine go ?_
 refine P2 results87 ?_
 have e:strS b=(numL b.length++b,0):=by simp only [strS];rw [if_neg (by omega)]
 exact ⟨_,rfl,A3,c3,by rw [e],by rw [e];exact ho3,hE1.own ch3 (Nat.le_refl _)⟩
set_option maxHeartbeats 40000000 in
theorem sameMarks_ok {Aa:Option Addr} {ca:Nat} {a:List Mrk} {Sa:Nat→Prop} {Ab:Option Addr} {cb:Nat} {b:List Mrk} {Sb:Nat→Prop} (ha:GS markR Sa w Aa ca a) (hb:GS markR Sb w Ab cb b):Ret prog 96 #[.slice Aa a.length ca, .slice Ab b.length cb] w (fun v w'=>v= .bool (decide (a=b))∧Ext w w'):=by
 have mha:=ha.mx
 have mhb:=hb.mx
 refine ret_of_wk func96 rfl ntmps96 leB_ ?_
 refine so ?_
 refine Cd ?_ ?_<;>intro hne
 refine so ?_
 refine Pt ?_
 exact ⟨_,rfl,bool_f (fun e=>hne (by rw [e])),me⟩
 have hll:a.length=b.length:=by omega
 refine so ?_
 refine Lp [0, 1, 5] (fun L' w' mes => ∃ (k : Nat), L' = [(0, .slice Aa a.length ca), (1, .slice Ab b.length cb), (5, iv (k : Int))] ∧ (k ≤ a.length) ∧ (a.take k = b.take k) ∧ Ext w w' ∧ a.length - k = mes) (a.length - 0) (by
     refine ⟨0,rfl, ?_, ?_,me,rfl⟩
     omega
     simp) ?_
 rintro _ wr _ ⟨k,rfl,hk,htk,hEq0,rfl⟩ KL1 hKL1
 refine so ?_
 refine Cd ?_ ?_<;>intro hlt
 refine so ?_
 obtain ⟨aw2,hAw2,hatw2,hIw2⟩:=markR_el (ha.to (w':=wr)) k (by omega)
 obtain ⟨aw6,hAw6,hatw6,hIw6⟩:=markR_el (hb.to (w':=wr)) k (by omega)
 refine wdE 9 (fun wD hED=>by refine pm ?_;exact .op rfl (wl_neqK (m:=6) ((a.getD k mark0)=(b.getD k mark0)) (by decide) key28 eg28 rfl rfl hIw2.fit hIw6.fit mark_inj (wl_nil qp)) pl) fun wD hED=> ?_
 refine so ?_
 refine Cd ?_ ?_<;>intro hne2<;>refine so ?_
 refine Pt ?_
 exact ⟨_,rfl,bool_f (fun e=>hne2 (by rw [e])),me⟩
 refine Kl [0,1,5] hKL1 (a.length-(k+1)) ⟨(k+1),rfl,by omega, ?_,me,rfl⟩ (by omega)
 rw [take_snoc mark0 (by omega:k<a.length),take_snoc mark0 (by omega:k<b.length),htk,Decidable.not_not.1 hne2]
 have hkl:k=a.length:=by omega
 refine so ?_
 refine Pt ?_
 exact ⟨_,rfl,bool_t (by rw [hkl,List.take_length,hll,List.take_length] at htk;exact htk),me⟩
theorem WshI.fit {w:Wsh} (h:WshI w):FitK [some .i64,some .i64,some .i64,some .i64,some .i64,some .i64,some .i64,some .i64] (P8C w):=by
 obtain ⟨h1,h2,h3,h4,h5,h6,h7,h8⟩:=h
 exact FitK.cons (fit_int h1.1 h1.2) (FitK.cons (fit_int h2.1 h2.2) (FitK.cons (fit_int h3.1 h3.2) (FitK.cons (fit_int h4.1 h4.2) (FitK.cons (fit_int h5.1 h5.2) (FitK.cons (fit_int h6.1 h6.2) (FitK.cons (fit_int h7.1 h7.2) (FitK.cons (fit_int h8.1 h8.2) FitK.nil)))))))
set_option maxHeartbeats 40000000 in
theorem alike_ok {Aa:Option Addr} {ca:Nat} {a:List Wsh} {Sa:Nat→Prop} {Ab:Option Addr} {cb:Nat} {b:List Wsh} {Sb:Nat→Prop} (ha:GS wishR Sa w Aa ca a) (hb:GS wishR Sb w Ab cb b):Ret prog 116 #[.slice Aa a.length ca, .slice Ab b.length cb] w (fun v w'=>v= .bool (decide (a=b))∧Ext w w'):=by
 have mha:=ha.mx
 have mhb:=hb.mx
 refine ret_of_wk func116 rfl ntmps116 leB_ ?_
 refine so ?_
 refine Cd ?_ ?_<;>intro hne
 refine so ?_
 refine Pt ?_
 exact ⟨_,rfl,bool_f (fun e=>hne (by rw [e])),me⟩
 have hll:a.length=b.length:=by omega
 refine so ?_
 refine Lp [0, 1, 5] (fun L' w' mes => ∃ (k : Nat), L' = [(0, .slice Aa a.length ca), (1, .slice Ab b.length cb), (5, iv (k : Int))] ∧ (k ≤ a.length) ∧ (a.take k = b.take k) ∧ Ext w w' ∧ a.length - k = mes) (a.length - 0) (by
     refine ⟨0,rfl, ?_, ?_,me,rfl⟩
     omega
     simp) ?_
 rintro _ wr _ ⟨k,rfl,hk,htk,hEq0,rfl⟩ KL1 hKL1
 refine so ?_
 refine Cd ?_ ?_<;>intro hlt
 refine so ?_
 obtain ⟨aw2,pw2_0,qw2_0,pw2_1,qw2_1,hAw2,hatw2,hIw2,hw2_0,hw2_1⟩:=wishR_el (ha.to (w':=wr)) k (by omega)
 obtain ⟨aw6,pw6_0,qw6_0,pw6_1,qw6_1,hAw6,hatw6,hIw6,hw6_0,hw6_1⟩:=wishR_el (hb.to (w':=wr)) k (by omega)
 refine wdE 10 (fun wD hED=>by refine pm ?_;exact PLe (r11Same_ok ⟨hIw2,_,_,_,_,rfl,hw2_0.to,hw2_1.to⟩ ⟨hIw6,_,_,_,_,rfl,hw6_0.to,hw6_1.to⟩) (h:=pl)) fun wD hED=> ?_
 refine so ?_
 refine Cd ?_ ?_<;>intro hne2
 refine so ?_
 refine Pt ?_
 exact ⟨_,rfl,bool_f (fun e=>hne2 (by rw [e])),me⟩
 replace hne2:=Decidable.not_not.1 hne2
 refine so ?_
 refine Kl [0,1,5] hKL1 (a.length-(k+1)) ⟨(k+1),rfl,by omega, ?_,me,rfl⟩ (by omega)
 rw [take_snoc wish0 (by omega:k<a.length),take_snoc wish0 (by omega:k<b.length),htk,hne2]
 have hkl:k=a.length:=by omega
 refine so ?_
 refine Pt ?_
 exact ⟨_,rfl,bool_t (by rw [hkl,List.take_length,hll,List.take_length] at htk;exact htk),me⟩
theorem WQ_iff {w:Wsh}:WQ w↔0≤w.epoch∧w.epoch≤1048576∧w=ownW w∧(w.kind=5∨(31≤w.client∧w.client≤34∧1≤w.stamp∧w.stamp≤9007199254740991)):=Iff.rfl
theorem t0_nAnswerMay_ok {p:Prop} (h:p:=by unfold AnswerMay;first|omega|exact ⟨fun h=>⟨by omega,by omega,by omega,by omega,by omega,by omega,fun y hy=>Decidable.byContradiction fun hn=>h ⟨y,hy,hn⟩⟩,fun h ⟨y,hy,hn⟩=>hn (h.2.2.2.2.2.2 y hy)⟩):p:=h
set_option maxHeartbeats 40000000 in
theorem nAnswerMay_ok {csa:List Value} {a:Ans} {Sa:Nat→Prop} (ha:ansR.rd Sa w csa a):Ret prog 198 #[.agg csa.toArray] w (fun v w'=>v= .bool (decide (AnswerMay a))∧Ext w w'):=by
 obtain ⟨hIa,Aa0,ca0,Aa1,ca1,rfl,ha0,ha1⟩:=ha
 refine ret_of_wk func198 rfl ntmps198 leB_ ?_
 have hp:=HP.begin_ w
 refine so ?_
 refine Bx hp (h:=fun gs1 w1 hp hE1=> ?_)
 replace hp:=hp.ay (itB gs1 152 ([iv a.err, .slice Aa0 a.data.length ca0,iv a.epoch, .slice Aa1 a.nodes.length ca1])::_)
 refine so ?_
 refine Cs (n_within) ?_
 refine so ?_
 refine Gs 6 ?_ ?_<;>intro hg1<;>refine so ?_
 refine Gs 12 ?_ ?_<;>intro hg2<;>refine so ?_
 refine Cs (n_within) ?_
 refine so ?_
 refine Gs 17 ?_ ?_<;>intro hg3<;>refine so ?_
 refine Gs 23 ?_ ?_<;>intro hg4<;>refine so ?_
 refine Cx hp (fICon_ok (fid:=222) (first:= []) (cap:= []) (p0:=fun x=> ¬(1≤x∧x≤28)) ha1.tn cl222 (fun w1 x hE=>(answerMay1_ok (n:=x)).mono (fun v w2 h=>⟨h.1,h.2▸Chg.refl _ _⟩))) fun w7 hp hE7=>so ?_
 refine Pt ?_
 exact ⟨_,rfl,congrArg Value.bool (decide_eq_decide.2 t0_nAnswerMay_ok),hp.chg⟩
 refine Pt ?_
 exact ⟨_,rfl,bool_f t0_nAnswerMay_ok,hp.chg⟩
 refine Pt ?_
 exact ⟨_,rfl,bool_f t0_nAnswerMay_ok,hp.chg⟩
 refine Pt ?_
 exact ⟨_,rfl,bool_f t0_nAnswerMay_ok,hp.chg⟩
 refine Pt ?_
 exact ⟨_,rfl,bool_f t0_nAnswerMay_ok,hp.chg⟩
theorem NewMay_prog {n:Nte}:NewMay n↔0<n.view∧(1≤n.changes.length∧n.changes.length≤7)∧RiseI (mnode n n.changes.length)∧n.picks.length≤8∧(∀i,i<n.changes.length→ChangeMay (n.changes.getD i change0)∧(n.changes.getD i change0).view=n.view)∧(∀i,i<n.picks.length→PkAt n.picks n.group n.epoch i):=by
 rw [nodes_rise]
 unfold NewMay ChAt
 constructor
 ·rintro ⟨a1, a2, a3, a4, a5, a6⟩
  exact ⟨by omega,⟨a1,a2⟩,fun i hi=>(a5 i hi).2.2,a3,fun i hi=>⟨(a5 i hi).1,(a5 i hi).2.1⟩,a6⟩
 ·rintro ⟨a1, ⟨a2, a3⟩, a4, a5, a6, a7⟩
  exact ⟨a2,a3,a5,by omega,fun i hi=>⟨(a6 i hi).1,(a6 i hi).2,a4 i hi⟩,a7⟩
set_option maxHeartbeats 40000000 in
theorem gMany_ok {gw:Nat} {out:List UInt8} {n:Int} {v9:Value} (hp:HP w0 M0 Fz w (itB gw 132 [.slice A out.length c]::itR 5 1 A out.length c (out.map bv)::H)) (hn:isNum n) (hlen:out.length+(numE n).length≤1000000):Ret prog 244 #[.pointer (some ⟨gw,0,none⟩), .int .i64 n,v9] w (fun v w2=>v= .int .i64 n∧WrP 5 132 gw w0 M0 Fz w H (out++numE n) v w2):=by
 have hFr:=Frz.start Fz w
 refine ret_of_wk func244 rfl ntmps244 leB_ ?_
 refine go ?_
 refine wl_hbox (by decide) rfl hp ?_
 rintro gs4 wc1 hpc1 hEc1
 replace hFr:=hFr.ext hEc1
 replace hp:=hpc1
 obtain ⟨Fzc,hpc2,hsc2,hcap⟩:=(hp.as_ (H':=itB gs4 3 [iv n]::_) rfl).frzBlk
 replace hp:=hpc2
 replace hFr:=hFr.wid hsc2
 refine go ?_
 have hcl:=gNum_ok hp hcap hn hlen
 refine Cl_ cl245 rfl hcl ?_
 clear hcl
 rintro _ w1 ⟨A1,c1,hp1,hF1⟩
 replace hFr:=hFr.fr hF1
 have q0:=hcap.tk.fr hF1
 replace hp:=(hp1.ay (itB gw 132 [.slice A1 (out++numE n).length c1]::itR 5 1 A1 (out++numE n).length c1 ((out++numE n).map bv)::_))
 refine go ?_
 refine Ld_ sc3 rfl (hcap.fr q0).head (go ?_)
 refine P1 results244 ?_
 exact ⟨_,rfl,rfl,_,_,hp.less hFr.sub,hFr.chg,fun _ h=>h⟩
set_option maxHeartbeats 40000000 in
theorem rMark_ok {gr:Nat} {l:List UInt8} {bad:Bool} {X:List Value→It} {pX pc:Addr} (hp:HP w0 M0 Fz w (itB gr 223 [.slice A l.length c, .bool bad]::X ([.int .i64 0]++(digC dig0))::H)) (hS:Slot X pX 33) (hl:GS byteR Fz w A c l) (hcap:AtF Fz w pc [.iface 221 (.pointer (some ⟨gr,0,none⟩))]):Ret prog 131 #[.pointer (some pX), .pointer (some pc)] w (RdP 223 gr w0 M0 Fz w H X markR markP bad l):=by
 refine ret_of_wk func131 rfl ntmps131 leB_ ?_
 refine so ?_
 apply wdT 7 [.eq _,.eq _,.eq _,.eq _,.eq _,.eq _,.eq _]
 refine ⟨?_,?_,?_,?_,?_,?_,?_,trivial⟩<;>intro F wF hER hk
 exact Ld_ sc179 (hk.qi 1) (hcap.ext hER).head qz
 exact dm (hk.qi 0)
 exact Nc_ (hk.qe 1) qz
 have e5:=hk.qe 2
 refine Fe_ fld28_0 e5 ?_
 rw [add_zero']
 exact qz
 have e3:=hk.qe 0
 exact wl_makeFunc (first:= [.tmp 3]) (cap:= []) (by decide) (by simp only [evs,ev,e3];rfl) rfl qz
 exact wl_nilCheckM (t:=221) (by decide) mt250 (hk.qe 4) qz
 exact dm (hk.qe 0)
 intro F wD hED hini hdo
 refine wl_drop [(0,_),(1,_),(6,_),(9,_)] ⟨di hini 0,di hini 1,dr hdo 3,dr hdo 6,trivial⟩ ?_
 clear hini hdo
 replace hp:=hp.ext hED
 refine Ci rfl (nNum_ok (X:=(fun cs=>X (([])++(cs++(digC dig0))))) (pX:=pX) (v0:=0) hp (hS.sub ([]) (digC dig0) rfl) hl.to (by unfold i64;omega)) ?_
 rintro _ w1 ⟨F1,A1,c1,l1,b1,cs1,x1,hp,hF1,hl1,hrd1,hst1⟩
 obtain ⟨hI1,rfl⟩:=hrd1
 replace hp:=(hp.ay (itB gr 223 ([.slice A1 l1.length c1, .bool b1])::X ([iv x1]++(digC dig0))::H))
 refine so ?_
 refine wP 7 hp (h:=fun wD hp hED=> ?_)
 refine Ci rfl (nDigest_ok (X:=(fun cs=>X (([iv x1])++(cs++([]))))) (pX:=(pX.add 1)) (d0:=dig0) hp (hS.sub ([iv x1]) ([]) rfl) hl1.to) ?_
 rintro _ w2 ⟨F2,A2,c2,l2,b2,cs2,x2,hp,hF2,hl2,hrd2,hst2⟩
 obtain rfl:=hrd2
 replace hp:=(hp.ay (itB gr 223 ([.slice A2 l2.length c2, .bool b2])::X ([iv x1]++(digC x2))::H))
 refine so ?_
 refine wk_post0 (.inr rfl) results131 ?_
 exact ⟨_,rfl,_,A2,c2,l2,b2,_,({seq:=x1,dig:=x2}:Mrk),((hp.up 1 rfl).up 1 rfl),mv,hl2,⟨hI1,rfl⟩,StepP.bind hst1 (StepP.bind hst2 (StepP.pure _ _))⟩
set_option maxHeartbeats 40000000 in
theorem rStand_ok {gr:Nat} {l:List UInt8} {bad:Bool} {X:List Value→It} {pX pc:Addr} (hp:HP w0 M0 Fz w (itB gr 223 [.slice A l.length c, .bool bad]::X ([.int .i64 0]++(digC dig0++([.int .i64 0])))::H)) (hS:Slot X pX 34) (hl:GS byteR Fz w A c l) (hcap:AtF Fz w pc [.iface 221 (.pointer (some ⟨gr,0,none⟩))]):Ret prog 159 #[.pointer (some pX), .pointer (some pc)] w (RdP 223 gr w0 M0 Fz w H X standR standP bad l):=by
 refine ret_of_wk func159 rfl ntmps159 leB_ ?_
 refine so ?_
 apply wdT 7 [.eq _,.eq _,.eq _,.eq _,.eq _,.eq _,.eq _]
 refine ⟨?_,?_,?_,?_,?_,?_,?_,trivial⟩<;>intro F wF hER hk
 exact Ld_ sc179 (hk.qi 1) (hcap.ext hER).head qz
 exact dm (hk.qi 0)
 exact Nc_ (hk.qe 1) qz
 have e5:=hk.qe 2
 refine Fe_ fld110_0 e5 ?_
 rw [add_zero']
 exact qz
 have e3:=hk.qe 0
 exact wl_makeFunc (first:= [.tmp 3]) (cap:= []) (by decide) (by simp only [evs,ev,e3];rfl) rfl qz
 exact wl_nilCheckM (t:=221) (by decide) mt250 (hk.qe 4) qz
 exact dm (hk.qe 0)
 intro F wD hED hini hdo
 refine wl_drop [(0,_),(1,_),(6,_),(9,_)] ⟨di hini 0,di hini 1,dr hdo 3,dr hdo 6,trivial⟩ ?_
 clear hini hdo
 replace hp:=hp.ext hED
 refine Ci rfl (nNum_ok (X:=(fun cs=>X (([])++(cs++(digC dig0++([iv 0])))))) (pX:=pX) (v0:=0) hp (hS.sub ([]) (digC dig0++([iv 0])) rfl) hl.to (by unfold i64;omega)) ?_
 rintro _ w1 ⟨F1,A1,c1,l1,b1,cs1,x1,hp,hF1,hl1,hrd1,hst1⟩
 obtain ⟨hI1,rfl⟩:=hrd1
 refine so ?_
 refine wP 7 hp (h:=fun wD hp hED=> ?_)
 refine Ci rfl (nDigest_ok (X:=(fun cs=>X (([iv x1])++(cs++([iv 0]))))) (pX:=(pX.add 1)) (d0:=dig0) hp (hS.sub ([iv x1]) ([iv 0]) rfl) hl1.to) ?_
 rintro _ w2 ⟨F2,A2,c2,l2,b2,cs2,x2,hp,hF2,hl2,hrd2,hst2⟩
 obtain rfl:=hrd2
 refine so ?_
 refine wP 7 hp (h:=fun wD hp hED=> ?_)
 refine Ci rfl (nNum_ok (X:=(fun cs=>X (([iv x1]++(digC x2))++(cs++([]))))) (pX:=(pX.add 33)) (v0:=0) hp (hS.sub ([iv x1]++(digC x2)) ([]) rfl) hl2.to (by unfold i64;omega)) ?_
 rintro _ w3 ⟨F3,A3,c3,l3,b3,cs3,x3,hp,hF3,hl3,hrd3,hst3⟩
 obtain ⟨hI3,rfl⟩:=hrd3
 refine so ?_
 refine wk_post0 (.inr rfl) results159 ?_
 exact ⟨_,rfl,_,A3,c3,l3,b3,_,({seq:=x1,dig:=x2,view:=x3}:Stn),((hp.up 1 rfl).up 1 rfl),mv,hl3,⟨⟨hI1,hI3⟩,rfl⟩,StepP.bind hst1 (StepP.bind hst2 (StepP.bind hst3 (StepP.pure _ _)))⟩
theorem nums_ok {l:List Int} {Sa:Nat→Prop} (h:GS intR Sa w A c l) (hok: ∀x∈l,isNum x) (hb:l.length≤1000):Ret prog 124 #[.slice A l.length c] w (fun v w'=> ∃A' c',v= .slice A' (flatE numE l).length c'∧OwnB 5 w.heap.size w' A' c' (flatE numE l)∧Ext w w'):=by
 refine ret_of_wk func124 rfl ntmps124 leB_ ?_
 refine so ?_
 refine Lp [3,8,9,10] (fun L' w' mes=> ∃(k:Nat),∃(A2:Option Addr),∃(c2:Nat),L'= [(3, .slice A2 (flatE numE (l.take k)).length c2),(8, .slice A l.length c),(9,iv (l.length:Int)),(10,iv (k:Int))]∧(k≤l.length)∧(OwnB 5 w.heap.size w' A2 c2 (flatE numE (l.take k)))∧(Ext w w')∧l.length-k=mes) (l.length-0) ⟨0,_,_,rfl,by omega,OwnRow.nil _ _ _ _ _,Chg.refl _ _,rfl⟩ ?_
 rintro _ wr _ ⟨k,A2,c2,rfl,hk,ho,hE,rfl⟩ KL1 hKL1
 refine so ?_
 refine Cd ?_ ?_<;>intro hlt
 have hk9:k<l.length:=by omega
 have hsucc:=flat_take numE l k hk9
 have hl8:=nums_len hok k
 refine so ?_
 refine wl_idx (r:=intR) (by decide) sl22 rfl rfl (h.ext hE) k rfl (by omega) ?_
 rintro a cs hb1 _ hat rfl
 refine Ld_ sc3 rfl hat.head (so ?_)
 have hnk:isNum l[k]:=hok _ (List.getElem_mem hk9)
 have hn8:=numE_len hnk
 refine Ce (num_ok (n:=l[k]) (w:=wr) (by unfold isNum at hnk;omega) (by unfold isNum at hnk;omega)) ?_
 rintro _ w1 ⟨A1,c1,rfl,ho1,hE1⟩
 rw [num_good hnk] at ho1⊢
 refine so ?_
 refine wl_appendB (by decide) sl36 rfl rfl (ho.ext hE1) ho1.bs (by show _+(numE l[k]).length≤_;omega) (Nat.le_trans hE.size hE1.size) ?_
 rintro A3 c3 w3 ho3 ch3 _
 refine sl ?_
 refine wc_region ?_
 refine sl ?_
 refine wk_drop [(3, .slice A3 (flatE numE (l.take (k+1))).length c3),(8, .slice A l.length c),(9,iv (l.length:Int)),(10,iv ((k+1):Int))] ⟨(by rw [hsucc];rfl),rfl,rfl,rfl,trivial⟩ (hKL1 _ _ (m2:=l.length-(k+1)) ?_ ?_)
 refine ⟨(k+1),A3,c3,rfl,by omega, ?_,(hE.trans hE1).own ch3 (Nat.le_refl _),rfl⟩
 rw [hsucc];exact ho3
 omega
 have hkl:k=l.length:=by omega
 refine so ?_
 refine Pt ?_
 subst hkl
 rw [List.take_length] at ho⊢
 exact ⟨_,rfl,A2,c2,rfl,ho,hE⟩
end Go.Proofs.YtmbpneaibmldfaaGreat
namespace Go.Proofs.YtmbpneaibmldfaaGreat
open Go.RowKit Go.Eng _root_.Go.Proofs.Tryz Go.Eng _root_.Go.Proofs.Tryz
set_option maxRecDepth 100000
variable {w0 w:World} {M0 Fz:Nat→Prop} {H:List It} {A:Option Addr} {c:Nat}
theorem iYes_ok {w0 w:World} {M0 Fz:Nat→Prop} {H:List It} {A:Option Addr} {c:Nat} {go:Nat} {o:List UInt8} {bd:Bool} {x:Bool} (hp:HP w0 M0 Fz w (itB go 72 [.slice A o.length c, .bool bd]::itR 5 1 A o.length c (o.map bv)::H)) (hl:o.length+8≤1099511627776):Ret prog 33 #[pt go 0, .bool x] w (WoP go w0 M0 Fz w H (yesW (o,bd) x)):=by
 refine ret_of_wk func33 rfl ntmps33 leB_ ?_
 refine so ?_
 cases x
 ·refine aF (so ?_)
  refine Cw (iNum_ok (n:=0) (most:=1) hp (by unfold i64;decide) hl) fun v A3 c3 w4 hp F4=>so ?_
  refine wk_post0 (.inr rfl) results33 ?_
  exact ⟨_,rfl,A3,c3,hp,mv⟩
 ·refine aT (so ?_)
  refine Cw (iNum_ok (n:=1) (most:=1) hp (by unfold i64;decide) hl) fun v A3 c3 w4 hp F4=>so ?_
  refine wk_post0 (.inr rfl) results33 ?_
  exact ⟨_,rfl,A3,c3,hp,mv⟩
theorem iMark_ok {w0 w:World} {M0 Fz:Nat→Prop} {H:List It} {A:Option Addr} {c:Nat} {go:Nat} {o:List UInt8} {bd:Bool} {x:Mrk} {cs:List Value} {S:Nat→Prop} (hp:HP w0 M0 Fz w (itB go 72 [.slice A o.length c, .bool bd]::itR 5 1 A o.length c (o.map bv)::H)) (hx:markR.rd S w cs x) (hl:o.length+40≤1099511627776):Ret prog 73 #[pt go 0, .agg cs.toArray] w (WoP go w0 M0 Fz w H (markW (o,bd) x)):=by
 obtain ⟨hI,rfl⟩:=hx
 have hz:=numW_len (o,bd) x.seq 9007199254740991
 have hd:=x.dig.h
 refine ret_of_wk func73 rfl ntmps73 leB_ ?_
 refine so ?_
 refine Bx hp (h:=fun g w1 hp E1=> ?_)
 replace hp:=hp.rot3
 refine so ?_
 refine Cw (iNum_ok hp hI (by omega)) fun v A3 c3 w4 hp F4=>so ?_
 refine wl_sliceA (by decide) ar26 rfl ?_
 have hb:=hp.blkAt (i:=2) rfl
 refine so ?_
 refine Cw (iAdd_ok (b:=x.dig.l) (S:=fun _=>True) hp (((hb.at_ 1).take 32).bs rfl trivial hb.lt) (by simp only at hz;omega)) (fun v A5 c5 w5 hp F5=>so ?_) (hx:=by rw [Dig.h];rfl)
 refine wk_post0 (.inr rfl) results73 ?_
 exact ⟨_,rfl,A5,c5,hp.rot3.rot3.tail,mv⟩
theorem eachS_ok {w0 w:World} {M0 Fz:Nat→Prop} {H:List It} {A:Option Addr} {c:Nat} {go:Nat} {o:List UInt8} {bd:Bool} {l:List Stn} {B:Option Addr} {d:Nat} {most:Int} {f:WS→Stn→WS} {k:Nat} {FV:Value} (hp:HP w0 M0 Fz w (itB go 72 [.slice A o.length c, .bool bd]::itR 5 1 A o.length c (o.map bv)::H)) (hl:GS standR Fz w B d l) (hf:FnW FV go w0 M0 Fz w standR f k) (hk: ∀s x,(f s x).1.length≤s.1.length+k) (hr:o.length+8+l.length*k≤1099511627776):Ret prog 75 #[pt go 0, .slice B l.length d, .int .i64 most,FV] w (WoP go w0 M0 Fz w H (eachW f (o,bd) l most)):=by
 have mx:=hl.mx
 refine ret_of_wk func75 rfl ntmps75 leB_ ?_
 refine so ?_
 refine Cw (iNum_ok (n:=(l.length:Int)) hp ⟨by omega,by omega⟩ (by omega)) fun v A1 c1 w1 hp F1=>so ?_
 refine Lp [3,15,16,17] (fun L' w' mes=> ∃(j:Nat) (A2:Option Addr) (c2:Nat),L'= [(3,FV),(15, .slice B l.length d),(16,iv (l.length:Int)),(17,iv (j:Int))]∧j≤l.length∧Frz Fz Fz w w'∧HP w0 M0 Fz w' (itB go 72 [.slice A2 ((l.take j).foldl f (numW (o,bd) l.length most)).1.length c2, .bool ((l.take j).foldl f (numW (o,bd) l.length most)).2]::itR 5 1 A2 ((l.take j).foldl f (numW (o,bd) l.length most)).1.length c2 (((l.take j).foldl f (numW (o,bd) l.length most)).1.map bv)::H)∧l.length-j=mes) (l.length-0) ⟨0,A1,c1,rfl,Nat.zero_le _,mv,hp,rfl⟩ ?_
 rintro _ wr _ ⟨j,A2,c2,rfl,hj,F2,hp,rfl⟩ KL hKL
 refine so ?_
 refine Cd ?_ ?_<;>intro hc
 ·have hj9 : j < l.length := by omega
  obtain ⟨ae,hA,hat,hI⟩:=standR_el (hl.to (F:=Fz) (w':=wr)) j hj9
  refine so ?_
  refine Alo hp (h:=fun g w2 hp E2=> ?_)
  replace hp:=hp.rot3
  refine Hs 2 hp (h:=fun w3 hp C3=>so ?_)
  have hlen:=fold_room hk o bd l most j hj9 hr
  refine wl_callF (vs:= [_]) (by decide) rfl rfl (fun _ h=>by cases h) (hf w3 _ A2 c2 _ _ _ _ mv hp ⟨hI,rfl⟩ hlen) ?_
  rintro _ w4 ⟨A5,c5,hp,F5⟩
  refine so ?_
  refine Kl [3,15,16,17] hKL (l.length-(j+1)) ⟨j+1,A5,c5,rfl,hj9,mv, ?_,rfl⟩ (by omega)
  rw [fold_take f _ l j stand0 hj9]
  exact hp.rot3.rot3.tail
 obtain rfl:j=l.length:=by omega
 refine so ?_
 refine wk_post0 (.inr rfl) results75 ?_
 rw [List.take_length] at hp
 exact ⟨_,rfl,A2,c2,hp,mv⟩
theorem iBytes1_ok {w0 w:World} {M0 Fz:Nat→Prop} {H:List It} {A:Option Addr} {c:Nat} {go:Nat} {o:List UInt8} {bd:Bool} {x:Int} {g2:Nat} (hp:HP w0 M0 Fz w (itB go 72 [.slice A o.length c, .bool bd]::itR 5 1 A o.length c (o.map bv)::H)) (hx:i64 x) (hat:AtF Fz w ⟨g2,0,none⟩ [pt go 0]) (hl:o.length+8≤1099511627776):Ret prog 31 #[.int .i64 x,pt g2 0] w (WoP go w0 M0 Fz w H (nodeW (o,bd) x)):=by
 refine ret_of_wk func31 rfl ntmps31 leB_ ?_
 refine so ?_
 refine Cw (iNum_ok (most:=28) hp hx hl) fun v A1 c1 w3 hp F3=>so ?_
 refine wk_post0 (.inr rfl) results31 ?_
 exact ⟨_,rfl,A1,c1,hp,mv⟩
end Go.Proofs.YtmbpneaibmldfaaGreat
namespace Go.Proofs.YtmbpneaibmldfaaGreat
open Go.RowKit Go.Eng Go.Eng _root_.Go.Proofs.Tryz
set_option maxRecDepth 100000
variable {w0 w:World} {M0 Fz:Nat→Prop} {H:List It} {A:Option Addr} {c:Nat}
set_option maxHeartbeats 40000000 in
theorem wStr_ok {gr:Nat} {l:List UInt8} {e:Int} {most:Int} (hp:HP w0 M0 Fz w (itB gr 220 [.slice A l.length c, .int .i64 e]::H)) (hl:GS byteR Fz w A c l):Ret prog 164 #[.pointer (some ⟨gr,0,none⟩), .int .i64 most] w (RvE 220 gr w0 M0 Fz w H (sliceR byteR) false (strP most) e l):=by
 refine ret_of_wk func164 rfl ntmps164 leB_ ?_
 refine so ?_
 refine Cd ?_ ?_<;>intro hc1<;>refine so ?_
 refine Ce (takeStr_ok (most:=most) hl) ?_
 rintro _ w1 ⟨A1,c1,B1,d1,rfl,ho1,hq1,hE1⟩
 replace ho1:=ho1.bs
 replace hq1:=hq1.bs
 have hsz2:=hp.chg.size
 obtain ⟨Fz2,hp2,hsub2,hnew2,hup2⟩:=hp.frz hE1
 replace hp:=hp2
 replace ho1:=ho1.frz hnew2
 replace hq1:=hq1.frz hnew2
 refine so ?_
 refine H1 0 hp (h:=fun w3 hp hC3=> ?_)
 replace hp:=hp.ay (itB gr 220 ([.slice B1 (takeStrS l most).2.1.length d1,iv e])::_)
 refine so ?_
 refine H1 0 hp (h:=fun w4 hp hC4=> ?_)
 replace hp:=hp.ay (itB gr 220 ([.slice B1 (takeStrS l most).2.1.length d1,iv ((takeStrS l most).2.2)])::_)
 refine so ?_
 refine Pt ?_
 exact ⟨_,rfl,_,B1,d1,(takeStrS l most).2.1,((takeStrS l most).2.2),_,(takeStrS l most).1,rfl,(hp.up 0 rfl),mv,hq1.to,sliceR_mk ho1.to,step_str (by first|rfl|(simp_all;done)|(simp_all;omega)) (fun h=>by first|exact ⟨rfl,rfl⟩|(simp_all;done))⟩
 refine Pt ?_
 exact ⟨_,rfl,_,A,c,l,e,_, [],rfl,(hp.up 0 rfl),mv,hl,sliceR_mk (GS.nil _ _ _ none 0),step_str (by first|rfl|(simp_all;done)|(simp_all;omega)) (fun h=>by first|exact ⟨rfl,rfl⟩|(simp_all;done))⟩
theorem t0_wMany_ok {p:Prop} (h:p:=by first|rfl|(simp_all;done)|(simp_all;omega)|(simp_all;intros;omega)|(split<;>simp_all)):p:=h
set_option maxHeartbeats 40000000 in
theorem wMany_ok {gr:Nat} {l:List UInt8} {e:Int} {most:Int} (hp:HP w0 M0 Fz w (itB gr 220 [.slice A l.length c, .int .i64 e]::H)) (hl:GS byteR Fz w A c l) (h0:0≤most):Ret prog 163 #[.pointer (some ⟨gr,0,none⟩), .int .i64 most] w (fun v w2=> ∃F2 A' c' l' e2 x,v= .int .i64 x∧HP w0 M0 F2 w2 (itB gr 220 [.slice A' (l':List UInt8).length c', .int .i64 e2]::H)∧Frz Fz F2 w w2∧GS byteR F2 w2 A' c' l'∧StepP (manyP most) (rst (decide (e≠0)) l) (rst (decide (e2≠0)) l') x∧x≤most):=by
 refine ret_of_wk func163 rfl ntmps163 leB_ ?_
 refine so ?_
 refine Ce (wNum_ok hp hl) ?_
 rintro v1 w1 ⟨F1,A1,c1,l1,b1,cs1,x1,hv1,hp,hF1,hl1,hrd1,hst1⟩
 obtain ⟨hI1,rfl⟩:=hrd1
 obtain rfl:v1=iv x1:=hv1
 have hJ1:=hI1
 unfold i64 at hJ1
 replace hp:=(hp.ay (itB gr 220 ([.slice A1 l1.length c1,iv b1])::H))
 refine so ?_
 refine Gs 13 ?_ ?_<;>intro hg1<;>refine so ?_
 refine Cd ?_ ?_<;>intro hc2<;>refine so ?_
 refine H1 0 hp (h:=fun w2 hp hC2=> ?_)
 replace hp:=hp.ay (itB gr 220 ([.slice A1 l1.length c1,iv 5])::_)
 refine so ?_
 refine Cd ?_ ?_<;>intro hc3<;>refine so ?_
 refine Pt ?_
 exact ⟨_,rfl,_,A1,c1,l1,5,0,rfl,(hp.up 0 rfl),mv,hl1.to,many_fin2 hst1 t0_wMany_ok (fun h=>by first|rfl|(simp_all;done)|(simp_all;omega)),by omega⟩
 refine Pt ?_
 exact ⟨_,rfl,_,A1,c1,l1,5,x1,rfl,(hp.up 0 rfl),mv,hl1.to,many_fin2 hst1 t0_wMany_ok (fun h=>by first|rfl|(simp_all;done)|(simp_all;omega)),by omega⟩
 refine Cd ?_ ?_<;>intro hc4<;>refine so ?_
 refine Pt ?_
 exact ⟨_,rfl,_,A1,c1,l1,b1,0,rfl,(hp.up 0 rfl),mv,hl1,many_fin2 hst1 t0_wMany_ok (fun h=>by first|rfl|(simp_all;done)|(simp_all;omega)),by omega⟩
 refine Pt ?_
 exact ⟨_,rfl,_,A1,c1,l1,b1,x1,rfl,(hp.up 0 rfl),mv,hl1,many_fin2 hst1 t0_wMany_ok (fun h=>by first|rfl|(simp_all;done)|(simp_all;omega)),by omega⟩
 refine aF (so ?_)
 refine Cd ?_ ?_<;>intro hc5<;>refine so ?_
 refine Pt ?_
 exact ⟨_,rfl,_,A1,c1,l1,b1,0,rfl,(hp.up 0 rfl),mv,hl1,many_fin2 hst1 t0_wMany_ok (fun h=>by first|rfl|(simp_all;done)|(simp_all;omega)),by omega⟩
 refine Pt ?_
 exact ⟨_,rfl,_,A1,c1,l1,b1,x1,rfl,(hp.up 0 rfl),mv,hl1,many_fin2 hst1 t0_wMany_ok (fun h=>by first|rfl|(simp_all;done)|(simp_all;omega)),by omega⟩
end Go.Proofs.YtmbpneaibmldfaaGreat
namespace Go.Proofs.YtmbpneaibmldfaaGreat
open Go.RowKit Go.Eng _root_.Go.Proofs.Tryz Go.Eng _root_.Go.Proofs.Tryz
set_option maxRecDepth 100000
variable {w0 w:World} {M0 Fz:Nat→Prop} {H:List It} {A:Option Addr} {c:Nat}
theorem tStr_ok {w0 w:World} {M0 Fz:Nat→Prop} {H:List It} {A:Option Addr} {c:Nat} {gt:Nat} {l:List UInt8} {bad:Bool} {most:Int} (hm:most≤65536) (hp:HP w0 M0 Fz w (itB gt 94 [.slice A l.length c, .bool bad]::H)) (hl:GS byteR Fz w A c l):Ret prog 54 #[pt gt 0, .int .i64 most] w (TsP gt w0 M0 Fz w H most bad l):=by
 refine ret_of_wk func54 rfl ntmps54 leB_ ?_
 refine so ?_
 refine Ce (takeStr_ok hl) ?_
 rintro _ w2 ⟨B1,d1,B,d,rfl,ho1,ho,E2⟩
 obtain ⟨F2,hp,s2,n2,l2⟩:=hp.frz E2
 have hg:=ho.bs.frz n2
 have hg1:=ho1.bs.frz n2
 refine so ?_
 refine Ce (took_ok hp) ?_
 rintro _ w3 ⟨h|h,F3⟩
 ·obtain ⟨hb, rfl, hp⟩ := h
  refine so ?_
  refine aT (so ?_)
  refine Pt ?_
  refine ⟨_,rfl,F2,A,c,l,true,none,0, [],rfl,hp,mv,hl.to,GS.nil _ _ _ _ _,fun b h=>absurd rfl h,Nat.zero_le _, ?_⟩
  exact step_str (by rcases hb with hb|hb<;>simp [hb]) (fun h=>by cases h)
 ·obtain ⟨rfl, he, rfl, hp⟩ := h
  refine so ?_
  refine aF (so ?_)
  refine Pt ?_
  exact ⟨_,rfl,F2,B,d,_,false,B1,d1,_,rfl,hp,mv,hg.to,hg1.to,fun b hd hb=>(ho1.lt hd b hb).1,by have:=(takeStr_back l most he).2.1;omega,step_str (by simp [he]) (fun _=>⟨rfl,rfl⟩)⟩
theorem tMark_ok {w0 w:World} {M0 Fz:Nat→Prop} {H:List It} {A:Option Addr} {c:Nat} {gt:Nat} {l:List UInt8} {bad:Bool} (hp:HP w0 M0 Fz w (itB gt 94 [.slice A l.length c, .bool bad]::H)) (hl:GS byteR Fz w A c l):Ret prog 100 #[pt gt 0] w (TkP gt w0 M0 Fz w H aggV markR markP bad l):=by
 refine ret_of_wk func100 rfl ntmps100 leB_ ?_
 refine so ?_
 refine Alo hp (h:=fun g2 w1 hp E1=> ?_)
 replace hp:=hp.swp
 refine so ?_
 refine Ce (tNum_ok (most:=9007199254740991) hp (hl.ext E1)) ?_
 rintro _ w2 ⟨F2,A2,c2,l2,b2,n,rfl,hp,F3,hg,hn,hs⟩
 refine so ?_
 refine Ce (tDig_ok hp hg) ?_
 rintro _ w3 ⟨F5,A3,c3,l3,b3,cs,x,rfl,hp,F6,hg3,rfl,hs3⟩
 refine so ?_
 refine wl_builtS (ps:= [(0, .tmp 6),(1, .tmp 8)]) (by decide) bld28 rfl rfl ?_
 refine Hs 1 hp (h:=fun w4 hp C4=>so ?_)
 refine wk_postR (rs:= [.cell 2 28]) (.inl rfl) results100 ⟨_,_,_,rfl,rfl,loadVar_agg ag28 (hp.blkAt (i:=1) rfl).at0 rfl,rfl⟩ ?_
 rw [many_num] at hs
 refine ⟨_,rfl,F5,A3,c3,l3,b3,_,⟨n,x⟩,rfl,hp.swp.tail,mv,hg3.to,⟨by unfold MrkI i64;simp only;omega,rfl⟩,hs.bind (hs3.bind (StepP.pure _ _))⟩
theorem tAllS_ok {w0 w:World} {M0 Fz:Nat→Prop} {H:List It} {A:Option Addr} {c:Nat} {gt:Nat} {l:List UInt8} {bad:Bool} {most:Int} {FV:Value} (hm:most≤100) (hp:HP w0 M0 Fz w (itB gt 94 [.slice A l.length c, .bool bad]::H)) (hl:GS byteR Fz w A c l) (hf:FnT FV gt w0 M0 Fz w standR istandP):Ret prog 102 #[pt gt 0, .int .i64 most,FV] w (TlP gt w0 M0 Fz w H standR istandP most bad l):=by
 refine ret_of_wk func102 rfl ntmps102 leB_ ?_
 refine so ?_
 refine Ce (tNum_ok (most:=most) hp hl) ?_
 rintro _ w1 ⟨F1,A1,c1,l1,b1,n,rfl,hp,F3,hg,hn,hs⟩
 obtain ⟨N,rfl⟩: ∃N:Nat,n=(N:Int):=⟨n.toNat,by omega⟩
 replace hp:=(hp.noRow 110 34).swp
 refine so ?_
 refine Lp [0,2,6,9,10] (fun L' w' mes=> ∃(k:Nat) (F2:Nat→Prop) (A2:Option Addr) (c2:Nat) (l2:List UInt8) (b2:Bool) (A3:Option Addr) (c3:Nat) (rows:List (List Value)) (xs:List Stn),L'= [(0,pt gt 0),(2,FV),(6, .slice A3 k c3),(9,iv (N:Int)),(10,iv (k:Int))]∧k≤N∧xs.length=k∧HP w0 M0 F2 w' (itB gt 94 [.slice A2 l2.length c2, .bool b2]::itR 110 34 A3 k c3 rows.flatten::H)∧RF standR F2 w' rows xs∧Frz F1 F2 w1 w'∧GS byteR F2 w' A2 c2 l2∧StepP (repP istandP k) (rst b1 l1) (rst b2 l2) xs∧N-k=mes) (N-0) ⟨0,F1,A1,c1,l1,b1,none,0, [], [],rfl,Nat.zero_le _,rfl,hp,RF.nil _ _ _,Frz.start _ _,hg,StepP.pure _ _,rfl⟩ ?_
 rintro _ wr _ ⟨k,F2,A2,c2,l2,b2,A3,c3,rows,xs,rfl,hk,hxl,hp,hR,F12,hg2,hs2,rfl⟩ KL hKL
 refine so ?_
 refine Cd ?_ ?_<;>intro hc
 ·refine so ?_
  cases b2
  ·refine so ?_
   refine aF (so ?_)
   refine wl_callF (vs:= []) (by decide) rfl rfl (fun _ h=>by cases h) (hf wr F2 _ A2 c2 l2 false mv hp hg2) ?_
   rintro _ w2 ⟨F5,A5,c5,l5,b5,cs,x,rfl,hp,F25,hg5,hx,hs5⟩
   have hlc:=standR.len hx
   have hoc:=standR.one hx
   refine wl_oneOf (by decide) sl30 rfl rfl hlc leB_ ?_
   rintro _ w3 hOn hE3
   obtain ⟨gu,rfl,hat9⟩:=hOn
   replace hp:=hp.ext hE3
   refine wl_happend (i:=1) (m:=1) (size:=34) (news:=cs) (by decide) sl30 rfl rfl hp rfl (by rw [hlc];rfl) (fun b hb=>by cases hb;exact hat9) (by simp) hoc (by omega) ?_
   rintro A9 c9 w4 hp hC4
   have f4:Frz F2 F5 wr w4:=mv
   have f5:Frz F5 F5 w2 w4:=mv
   refine so ?_
   refine Kl [0,2,6,9,10] hKL (N-(k+1)) ⟨k+1,F5,A5,c5,l5,b5,A9,c9,rows++ [cs],xs++ [x],rfl,by omega,by rw [List.length_append,hxl];rfl, ?_,(hR.to f4).append (RF.one (rdTo hx f5)),Frz.bF f4 F12,hg5.to f5,StepP.bind hs2 (StepP.bind hs5 (StepP.pure _ _)),rfl⟩ (by omega)
   rw [flat_snoc,List.append_nil]
   exact hp
  ·refine so ?_
   refine aT (so ?_)
   refine Pt ?_
   refine ⟨_,rfl, ?_⟩
   subst hxl
   refine tl_end (r:=standR) hp hR hg2 mv (hs.bind ?_)
   have h9:=rep_none (show StepP (repP istandP xs.length) (rst b1 l1) none xs from hs2) (N-xs.length) xs
   rw [show xs.length+(N-xs.length)=N by omega] at h9
   rw [Int.toNat_natCast]
   exact h9
 obtain rfl:k=N:=by omega
 refine so ?_
 refine Pt ?_
 refine ⟨_,rfl, ?_⟩
 subst hxl
 refine tl_end (r:=standR) hp hR hg2 mv (hs.bind ?_)
 rw [Int.toNat_natCast]
 exact hs2
theorem tAllI_ok {w0 w:World} {M0 Fz:Nat→Prop} {H:List It} {A:Option Addr} {c:Nat} {gt:Nat} {l:List UInt8} {bad:Bool} {most:Int} {FV:Value} (hm:most≤100) (hp:HP w0 M0 Fz w (itB gt 94 [.slice A l.length c, .bool bad]::H)) (hl:GS byteR Fz w A c l) (hf:FnTI FV gt w0 M0 Fz w inodeP):Ret prog 49 #[pt gt 0, .int .i64 most,FV] w (TlP gt w0 M0 Fz w H intR inodeP most bad l):=by
 refine ret_of_wk func49 rfl ntmps49 leB_ ?_
 refine so ?_
 refine Ce (tNum_ok (most:=most) hp hl) ?_
 rintro _ w1 ⟨F1,A1,c1,l1,b1,n,rfl,hp,F3,hg,hn,hs⟩
 obtain ⟨N,rfl⟩: ∃N:Nat,n=(N:Int):=⟨n.toNat,by omega⟩
 replace hp:=(hp.noRow 3 1).swp
 refine so ?_
 refine Lp [0,2,6,9,10] (fun L' w' mes=> ∃(k:Nat) (F2:Nat→Prop) (A2:Option Addr) (c2:Nat) (l2:List UInt8) (b2:Bool) (A3:Option Addr) (c3:Nat) (rows:List (List Value)) (xs:List Int),L'= [(0,pt gt 0),(2,FV),(6, .slice A3 k c3),(9,iv (N:Int)),(10,iv (k:Int))]∧k≤N∧xs.length=k∧HP w0 M0 F2 w' (itB gt 94 [.slice A2 l2.length c2, .bool b2]::itR 3 1 A3 k c3 rows.flatten::H)∧RF intR F2 w' rows xs∧Frz F1 F2 w1 w'∧GS byteR F2 w' A2 c2 l2∧StepP (repP inodeP k) (rst b1 l1) (rst b2 l2) xs∧N-k=mes) (N-0) ⟨0,F1,A1,c1,l1,b1,none,0, [], [],rfl,Nat.zero_le _,rfl,hp,RF.nil _ _ _,Frz.start _ _,hg,StepP.pure _ _,rfl⟩ ?_
 rintro _ wr _ ⟨k,F2,A2,c2,l2,b2,A3,c3,rows,xs,rfl,hk,hxl,hp,hR,F12,hg2,hs2,rfl⟩ KL hKL
 refine so ?_
 refine Cd ?_ ?_<;>intro hc
 ·refine so ?_
  cases b2
  ·refine so ?_
   refine aF (so ?_)
   refine wl_callF (vs:= []) (by decide) rfl rfl (fun _ h=>by cases h) (hf wr F2 _ A2 c2 l2 false mv hp hg2) ?_
   rintro _ w2 ⟨F5,A5,c5,l5,b5,cs,x,rfl,hp,F25,hg5,hx,hs5⟩
   obtain rfl:cs= [.int .i64 x]:=hx
   have hx:intR.rd F5 w2 [.int .i64 x] x:=rfl
   refine wl_oneOf (v:= .int .i64 x) (by decide) sl22 rfl rfl rfl leB_ ?_
   rintro _ w3 hOn hE3
   obtain ⟨gu,rfl,hat9⟩:=hOn
   replace hp:=hp.ext hE3
   refine wl_happend (i:=1) (m:=1) (size:=1) (news:= [.int .i64 x]) (by decide) sl22 rfl rfl hp rfl rfl (fun b hb=>by cases hb;exact hat9) (by simp) (List.all_eq_true.1 rfl) (by omega) ?_
   rintro A9 c9 w4 hp hC4
   have f4:Frz F2 F5 wr w4:=mv
   have f5:Frz F5 F5 w2 w4:=mv
   refine so ?_
   refine Kl [0,2,6,9,10] hKL (N-(k+1)) ⟨k+1,F5,A5,c5,l5,b5,A9,c9,rows++ [[.int .i64 x]],xs++ [x],rfl,by omega,by rw [List.length_append,hxl];rfl, ?_,(hR.to f4).append (RF.one (rdTo hx f5)),Frz.bF f4 F12,hg5.to f5,StepP.bind hs2 (StepP.bind hs5 (StepP.pure _ _)),rfl⟩ (by omega)
   rw [flat_snoc,List.append_nil]
   exact hp
  ·refine so ?_
   refine aT (so ?_)
   refine Pt ?_
   refine ⟨_,rfl, ?_⟩
   subst hxl
   refine tl_end (r:=intR) hp hR hg2 mv (hs.bind ?_)
   have h9:=rep_none (show StepP (repP inodeP xs.length) (rst b1 l1) none xs from hs2) (N-xs.length) xs
   rw [show xs.length+(N-xs.length)=N by omega] at h9
   rw [Int.toNat_natCast]
   exact h9
 obtain rfl:k=N:=by omega
 refine so ?_
 refine Pt ?_
 refine ⟨_,rfl, ?_⟩
 subst hxl
 refine tl_end (r:=intR) hp hR hg2 mv (hs.bind ?_)
 rw [Int.toNat_natCast]
 exact hs2
theorem iParse1_ok {w0 w:World} {M0 Fz:Nat→Prop} {H:List It} {A:Option Addr} {c:Nat} {gt g4:Nat} {l:List UInt8} {bad:Bool} (hp:HP w0 M0 Fz w (itB gt 94 [.slice A l.length c, .bool bad]::H)) (hl:GS byteR Fz w A c l) (hat:AtF Fz w ⟨g4,0,none⟩ [pt gt 0]):Ret prog 50 #[pt g4 0] w (TkP gt w0 M0 Fz w H (fun cs=>cs.headD undef) intR inodeP bad l):=by
 refine ret_of_wk func50 rfl ntmps50 leB_ ?_
 refine so ?_
 refine Ce (tNum_ok (most:=28) hp hl) ?_
 rintro _ w2 ⟨F2,A2,c2,l2,b2,n2,rfl,hp,f2,hg,hn2,hs2⟩
 refine so ?_
 refine Pt ?_
 exact ⟨_,rfl,F2,A2,c2,l2,b2, [.int .i64 n2],n2,rfl,hp,f2,hg,rfl,hs2⟩
theorem lWishiT_ok {w:World} {e:Nat} (h5:5≠e) (h112:112≠e):Ret prog 66 #[] w (fun v w'=> ∃A c,v= .slice A ([wshi]:List Wsh).length c∧GS wishR (nT w.heap.size e w') w' A c [wshi]∧Ext w w'):=by
 refine ret_of_wk func66 rfl ntmps66 leB_ ?_
 refine so ?_
 apply wl_make (k:=16) (z:= .int .u8 0) (hT:=sl36) (hd:=by decide)
 case hz=>kernel_rfl
 case hx=>rfl
 case hy=>rfl
 case hb=>decide
 case hlo=>exact Nat.le_refl _
 rintro g1 w1 hg1 ho E1
 have ho1:=ho.zeros
 have h1:BS (nT w.heap.size e w1) w1 (some ⟨g1,0,none⟩) 16 (List.replicate 16 (0:UInt8)):=OwnRow.gsF (l:=List.replicate 16 (0:UInt8)) ho1 (nT_row ho1 h5)
 refine wl_builtS (ps:= [(0, .const (.int .i64 31)),(1, .const (.int .i64 5)),(2, .const (.int .i64 1)),(3, .const (.int .i64 2)),(4, .const (.int .i64 2)),(5, .const (.int .i64 3)),(6, .tmp 1)]) (by decide) bld112 rfl rfl ?_
 refine wl_bslice (size:=10) (xs:= [.tmp 2]) (vs:= [.agg ([.int .i64 31, .int .i64 5, .int .i64 1, .int .i64 2, .int .i64 2, .int .i64 3, .slice (some ⟨g1,0,none⟩) 16 16, .int .i64 0, .int .i64 0, .slice none 0 0]:List Value).toArray]) (by decide) sl84 rfl rfl rfl (by intro v hv;rw [List.mem_singleton.1 hv];rfl) leB_ w.heap.size E1.size ?_
 rintro g2 w2 hg2 ho2 E2
 have h12:=(h1.mono (fun b hb hs=>nT_ext E2 hb hs)).ext E2
 have hw:wishR.rd (nT w.heap.size e w2) w2 [.int .i64 31, .int .i64 5, .int .i64 1, .int .i64 2, .int .i64 2, .int .i64 3, .slice (some ⟨g1,0,none⟩) 16 16, .int .i64 0, .int .i64 0, .slice none 0 0] wshi:=⟨by unfold WshI i64 wshi;decide,some ⟨g1,0,none⟩,16,none,0,rfl,h12,GS.nil _ _ _ _ _⟩
 refine so ?_
 refine Pt ?_
 exact ⟨_,rfl,_,_,rfl,OwnRow.gsRF (r:=wishR) (l:= [wshi]) ho2 (RF.one hw) (nT_row ho2 h112),E2.bE E1⟩
theorem may_full (D:Dig):RplMay (full1 D):=by
 refine ⟨by show crewMay 1 [1,2,3,9];decide, ?_⟩
 have hs:=stands5 D (many:=1) (Nat.le_refl _)
 have hs4:=stands5 D (many:=4) (by decide)
 have hw:=bok1
 refine ⟨by simp [full1,isNum],by simp [full1,isNum],by simp [full1,isNum],⟨by simp [full1],by simp [full1,inodeOk,isNum]⟩, ?_,trivial, ?_,by simp [full1]⟩
 ·exact ⟨by simp [full1, isNum], trivial, by simp [full1, isNum, markOk], ⟨by simp [full1], by simp [full1, isNum, markOk]⟩, ⟨by simp [full1, sta5], by simp [full1, sta5, isNum, istandOk]⟩, ⟨by simp [full1, sta5], by simp [full1, sta5, isNum, istandOk]⟩, by simp [full1, isNum], ⟨by simp [full1], by simp [full1, isNum, markOk]⟩, trivial, ⟨by simp [full1], fun y hy => by
   obtain rfl:y=⟨D, [wshi]⟩:=by simpa [full1] using hy
   exact ⟨trivial,hw⟩⟩⟩
 ·show ChangeMay ⟨2, 3, 4, [⟨4, dgi 2⟩], sta5 D, sta5 D⟩
  refine ⟨by simp,by simp,by simp,by simp,by simp,by simp,by simp,by simp,by simp, ?_,hs,hs4⟩
  intro i hi h0
  simp at hi
  omega
end Go.Proofs.YtmbpneaibmldfaaGreat
