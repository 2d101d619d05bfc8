/- What each of these functions computes, for every argument that its theorem names; a part of what the proof of ImageOnce stands on. -/
import Derived.Test.YtmbpneaibmldfaaGreatAac
import Derived.Test.YtmbpneaibmldfaaGreatAad
import Derived.Test.YtmbpneaibmldfaaGreatAaf
import Derived.Test.YtmbpneaibmldfaaGreatAag
import Derived.Test.YtmbpneaibmldfaaGreatAai
import Derived.Test.YtmbpneaibmldfaaGreatAaj
import Derived.Test.YtmbpneaibmldfaaGreatAak
import Derived.Test.YtmbpneaibmldfaaGreatAal
import Derived.Test.YtmbpneaibmldfaaGreatAap
import Derived.Test.YtmbpneaibmldfaaGreatAaq
import Derived.Test.YtmbpneaibmldfaaGreatAav
import Derived.Test.YtmbpneaibmldfaaGreatAaw
import Derived.Test.YtmbpneaibmldfaaGreatAay
namespace Go.Proofs.YtmbpneaibmldfaaGreat
open Go.RowKit Go.Eng Go.Eng _root_.Go.Proofs.Tryz
set_option maxRecDepth 100000
variable {w0 w:World} {M0 Fz:Nat→Prop} {H:List It} {A:Option Addr} {c:Nat}
theorem t0_nMay_ok {p:Prop} (h:p:=by unfold MayN;first|omega|(simp only [hg1,hg5,hg6,hg7,hg8,hg9,true_and,and_true,false_and,and_false];omega)|simp_all):p:=h
theorem t1_nMay_ok {p:Prop} (h:p:=by unfold MayN;first|omega|(simp only [hg1,hg2,hg3,hg4,true_and,and_true,false_and,and_false];omega)|simp_all):p:=h
set_option maxHeartbeats 40000000 in
theorem nMay_ok {csn:List Value} {n:Nte} {Sn:Nat→Prop} (hn:noteR.rd Sn w csn n) (hch:n.changes.length*96≤140737488355328):Ret prog 145 #[.agg csn.toArray] w (fun v w'=>v= .bool (decide (MayN n))∧Ext w w'):=by
 have qhn:=hn
 obtain ⟨hIn,An0,cn0,An1,cn1,An2,cn2,An3,cn3,An4,cn4,An5,cn5,An6,cn6,An7,cn7,An8,cn8,An9,cn9,An10,cn10,rfl,hn0,hn1,hn2,hn3,hn4,hn5,hn6,hn7,hn8,hn9,hn10⟩:=hn
 refine ret_of_wk func145 rfl ntmps145 leB_ ?_
 have hp:=HP.begin_ w
 refine so ?_
 refine Bx hp (h:=fun gs1 w1 hp hE1=>so ?_)
 refine Gs 8 ?_ ?_<;>intro hg1<;>refine so ?_
 refine Cs (n_within) ?_
 refine so ?_
 refine Gs 16 ?_ ?_<;>intro hg2<;>refine so ?_
 refine Cs (n_within) ?_
 refine so ?_
 refine Gs 21 ?_ ?_<;>intro hg3<;>refine so ?_
 refine Cs (n_within) ?_
 refine so ?_
 refine Gs 26 ?_ ?_<;>intro hg4<;>refine so ?_
 refine Cx hp (nFits_ok (rdTn qhn) (by omega)) fun w5 hp hE5=>so ?_
 refine Pt ?_
 exact ⟨_,rfl,congrArg Value.bool (decide_eq_decide.2 t1_nMay_ok),hp.chg⟩
 refine Pt ?_
 exact ⟨_,rfl,bool_f t1_nMay_ok,hp.chg⟩
 refine Pt ?_
 exact ⟨_,rfl,bool_f (by unfold MayN;first|omega|(simp only [hg1,hg2,hg3,true_and,and_true,false_and,and_false];omega)|simp_all),hp.chg⟩
 refine Pt ?_
 exact ⟨_,rfl,bool_f (by unfold MayN;first|omega|(simp only [hg1,hg2,true_and,and_true,false_and,and_false];omega)|simp_all),hp.chg⟩
 refine Cs (n_within) ?_
 refine so ?_
 refine Gs 16 ?_ ?_<;>intro hg5<;>refine so ?_
 refine Cs (n_within) ?_
 refine so ?_
 refine Gs 21 ?_ ?_<;>intro hg6<;>refine so ?_
 refine Cs (n_within) ?_
 refine so ?_
 refine Gs 26 ?_ ?_<;>intro hg7<;>refine so ?_
 refine Gs 28 ?_ ?_<;>intro hg8<;>refine so ?_
 refine Cx hp (nFits_ok (rdTn qhn) (by omega)) fun w9 hp hE9=>so ?_
 refine Pt ?_
 exact ⟨_,rfl,congrArg Value.bool (decide_eq_decide.2 (by unfold MayN;first|omega|(simp only [hg6,hg7,hg8,true_and];omega)|simp_all)),hp.chg⟩
 refine Cs (n_isNode) ?_
 refine so ?_
 refine Gs 35 ?_ ?_<;>intro hg9<;>refine so ?_
 refine Cx hp (nFits_ok (rdTn qhn) (by omega)) fun w11 hp hE11=>so ?_
 refine Pt ?_
 exact ⟨_,rfl,congrArg Value.bool (decide_eq_decide.2 t0_nMay_ok),hp.chg⟩
 refine Pt ?_
 exact ⟨_,rfl,bool_f t0_nMay_ok,hp.chg⟩
 refine Pt ?_
 exact ⟨_,rfl,bool_f (by unfold MayN;first|omega|(simp only [hg1,hg5,hg6,hg7,true_and,and_true,false_and,and_false];omega)|simp_all),hp.chg⟩
 refine Pt ?_
 exact ⟨_,rfl,bool_f (by unfold MayN;first|omega|(simp only [hg1,hg5,hg6,true_and,and_true,false_and,and_false];omega)|simp_all),hp.chg⟩
 refine Pt ?_
 exact ⟨_,rfl,bool_f (by unfold MayN;first|omega|(simp only [hg1,hg5,true_and,and_true,false_and,and_false];omega)|simp_all),hp.chg⟩
end Go.Proofs.YtmbpneaibmldfaaGreat
namespace Go.Proofs.YtmbpneaibmldfaaGreat
open Go.RowKit Go.Eng _root_.Go.Proofs.Tryz Go.Eng _root_.Go.Proofs.Tryz
set_option maxRecDepth 100000
variable {w0 w:World} {M0 Fz:Nat→Prop} {H:List It} {A:Option Addr} {c:Nat}
theorem bookOf_ok {w0 w:World} {M0 Fz:Nat→Prop} {H:List It} {g:Nat} {A:Option Addr} {c:Nat} {l:List UInt8} (hp:HP w0 M0 Fz w (itB g 175 [.slice none 0 0,iv 0]::H)) (h:BS Fz w A c l) (hz:l.length≤65536):Ret prog 123 #[pt g 0, .slice A l.length c] w (fun v w'=>v= .tuple #[.agg (digC (shaV l)).toArray,iv 0]∧∃cs,HP w0 M0 Fz w' (itB g 175 cs::H)∧Chg (fun b=> ¬Fz b) w w'):=by
 refine ret_of_wk func123 rfl ntmps123 leB_ ?_
 refine so ?_
 refine Alo hp (h:=fun g4 w1 hp E1=>so ?_)
 refine Cd ?_ ?_<;>intro hc
 ·omega
 refine so ?_
 refine H1 1 hp (h:=fun w2 hp C2=> ?_)
 have h2:BS Fz w2 A c l:=h.to
 refine so ?_
 refine Cx hp (of_ok h2 hz) (fun w3 hp E3=> ?_)
 generalize shaV l=D
 refine Alo hp (h:=fun g6 w4 hp E4=> ?_)
 refine Hs 0 hp (ds:=digC D) (h:=fun w5 hp C5=> ?_)
 have h5:BS Fz w5 A c l:=h2.to
 refine so ?_
 refine Lp [0,1,4,6,7] (fun L' w' mes=>L'= [(0,pt g 0),(1, .slice A l.length c),(4,pt g4 0),(6,pt g6 0),(7,iv 0)]∧Frz Fz Fz w w'∧HP w0 M0 Fz w' (itB g6 26 (digC D)::itB g4 26 ((List.replicate 32 (0:UInt8)).map bv)::itB g 175 [.slice none 0 0,iv 1]::H)∧BS Fz w' A c l) 0 ⟨rfl,mv,hp,h5⟩ ?_ (by rfl)
 clear hp h5 h2
 rintro _ wr _ ⟨rfl,hfr,hp,hb⟩ KL hKL
 refine so ?_
 refine Cd ?_ ?_<;>intro hc2
 ·exact absurd hc2 (by decide)
 refine so ?_
 refine wdT 11 [.eq (pt g 0), .eq (pt g 0), .eq (pt g 0), .eq (pt g 0), .eq (.slice none 0 0), .eq (.slice A l.length c),slN l.length,slR wr.heap.size 36 l.length,slN 1, .eq (pt g 0), .eq (pt g 0)] ?_ ?_
 ·refine ⟨?_, ?_, ?_, ?_, ?_, ?_, ?_, ?_, ?_, ?_, ?_, trivial⟩ <;> intro F wF hER hk
  ·exact dm (hk.qi 0)
  ·exact dm (hk.qi 0)
  ·exact Nc_ (hk.qe 1) qz
  ·exact Fd_ 0 fld175_0 (hk.qe 2) rfl qz
  ·exact Hl_ 2 sc173 (hk.qe 3) (hp.ext hER) rfl rfl qz
  ·exact dm (hk.qi 1)
  ·have e46 := hk.qe 5
   refine wl_call (xs:= [.tmp 46]) (by decide) (by kernel_rfl) (by simp only [evs,ev,e46]) (copyBytes_ok (hb.ext hER)) ?_
   rintro _ wc ⟨A7,c7,rfl,_,hEc⟩
   exact qz ⟨hEc,A7,c7,rfl⟩
  ·obtain ⟨u47, e47, A7, c7, rfl⟩ := hk.qp 6
   refine wl_bslice (size:=1) (xs:= [.tmp 47]) (vs:= [.slice A7 l.length c7]) (by decide) sl173 rfl (by simp only [evs,ev,e47]) rfl (by intro v hv;rw [List.mem_singleton.1 hv];rfl) leB_ wr.heap.size hER.size ?_
   rintro gt wt hgt hot hEt
   exact qz ⟨hEt,A7,c7,gt,rfl,hot⟩
  ·have e45 := hk.qe 4
   obtain ⟨u48,e48,A7,c7,gt,rfl,hot⟩:=hk.qp 7
   refine wl_append (lo:=wF.heap.size) (k:=0) (size:=1) (m:=1) (c:=0) (xs:= []) (news:= [.slice A7 l.length c7]) (by decide) sl173 e45 e48 (OwnRow.nil _ _ _ _ _) rfl (fun b hb=>by cases hb;exact hot.at0) (by simp) (List.all_eq_true.1 rfl) (by omega) (Nat.le_refl _) ?_
   rintro A4 c4 w4' ho4 hch4 _
   exact qz ⟨hch4.weak (fun b _ hb=>hb.1 rfl),A4,c4,rfl⟩
  ·exact Nc_ (hk.qe 0) qz
  ·exact Fd_ 0 fld175_0 (hk.qe 9) rfl qz
 intro F wD hED hini hdo
 obtain ⟨u49,e49,A9,c9,rfl⟩:=hdo 8 49 (Nat.lt_of_lt_of_eq (by decide) rfl) rfl
 refine wl_drop [(1,_),(4,_),(6,_),(49,_),(51,_)] ⟨di hini 1,di hini 4,di hini 6,e49,dr hdo 10,trivial⟩ ?_
 clear hini hdo e49
 replace hp:=hp.ext hED
 refine H1 2 hp (h:=fun w9 hp C9=> ?_)
 refine so ?_
 refine Hs 1 hp (ds:=digC D) (h:=fun w10 hp C10=>so ?_)
 refine wk_postR (rs:= [.cell 4 26, .tmp 5]) (.inl rfl) results123 ⟨_,_,_,rfl,rfl,loadVar_agg ag26 (hp.blkAt (i:=1) rfl).at0 rfl,⟨_,_,rfl,rfl,rfl⟩⟩ ?_
 exact ⟨_,rfl,rfl,_,hp.tail.tail,(mv:Frz Fz Fz w w10).chg⟩
end Go.Proofs.YtmbpneaibmldfaaGreat
namespace Go.Proofs.YtmbpneaibmldfaaGreat
open Go.RowKit Go.Eng Go.Eng _root_.Go.Proofs.Tryz
set_option maxRecDepth 100000
variable {w0 w:World} {M0 Fz:Nat→Prop} {H:List It} {A:Option Addr} {c:Nat}
set_option maxHeartbeats 40000000 in
theorem iSameNormal_ok {csa:List Value} {a:Img} {Sa:Nat→Prop} {csb:List Value} {b:Img} {Sb:Nat→Prop} (ha:imgR.rd Sa w csa a) (hb:imgR.rd Sb w csb b):Ret prog 62 #[.agg csa.toArray, .agg csb.toArray] w (fun v w'=>v= .bool (decide (a=b))∧Ext w w'):=by
 obtain ⟨hIa,Aa0,ca0,Aa1,ca1,Aa2,ca2,Aa3,ca3,Aa4,ca4,rfl,ha0,ha1,ha2,ha3,ha4⟩:=ha
 obtain ⟨hIb,Ab0,cb0,Ab1,cb1,Ab2,cb2,Ab3,cb3,Ab4,cb4,rfl,hb0,hb1,hb2,hb3,hb4⟩:=hb
 have mha0:=ha0.mx
 have mha1:=ha1.mx
 have mha2:=ha2.mx
 have mha3:=ha3.mx
 have mha4:=ha4.mx
 have mhb0:=hb0.mx
 have mhb1:=hb1.mx
 have mhb2:=hb2.mx
 have mhb3:=hb3.mx
 have mhb4:=hb4.mx
 refine ret_of_wk func62 rfl ntmps62 leB_ ?_
 have hp:=HP.begin_ w
 replace ha0:=ha0.now
 replace ha1:=ha1.now
 replace ha2:=ha2.now
 replace ha3:=ha3.now
 replace ha4:=ha4.now
 replace hb0:=hb0.now
 replace hb1:=hb1.now
 replace hb2:=hb2.now
 replace hb3:=hb3.now
 replace hb4:=hb4.now
 refine go ?_
 refine wl_hbox (by decide) rfl hp ?_
 rintro gs2 w1 hp1 hE1
 have q0:=hE1
 replace hp:=hp1
 replace hp:=hp.ay (itB gs2 33 ([iv a.view, .bool a.active,iv a.low.seq]++(digC a.low.dig++([.slice Aa0 a.own.length ca0, .slice Aa1 a.p.length ca1, .slice Aa2 a.q.length ca2,iv a.ran, .slice Aa3 a.done.length ca3, .bool a.ended, .slice Aa4 a.batches.length ca4])))::_)
 refine wl_hbox (by decide) rfl hp ?_
 rintro gs3 w2 hp2 hE2
 replace q0:=q0.trans hE2
 replace hp:=hp2
 replace hp:=hp.ay (itB gs3 33 ([iv b.view, .bool b.active,iv b.low.seq]++(digC b.low.dig++([.slice Ab0 b.own.length cb0, .slice Ab1 b.p.length cb1, .slice Ab2 b.q.length cb2,iv b.ran, .slice Ab3 b.done.length cb3, .bool b.ended, .slice Ab4 b.batches.length cb4])))::_)
 refine go ?_
 refine Fd_ 0 fld33_0 rfl rfl ?_
 refine Hl_ 1 sc3 rfl hp rfl rfl ?_
 refine Fd_ 0 fld33_0 rfl rfl ?_
 refine Hl_ 0 sc3 rfl hp rfl rfl ?_
 refine Eq_ rfl rfl (go ?_)
 refine Gs 12 (fun hg1=> ?_) fun hg1=> ?_
 refine go ?_
 refine Fd_ 1 fld33_1 rfl rfl (go ?_)
 refine Hl_ 1 sc4 rfl hp rfl rfl (go ?_)
 refine Fd_ 1 fld33_1 rfl rfl (go ?_)
 refine Hl_ 0 sc4 rfl hp rfl rfl (go ?_)
 refine wl_eqlb (by decide) bo4 rfl rfl ?_
 refine go ?_
 refine Gs 19 (fun hg2=> ?_) fun hg2=> ?_
 refine go ?_
 refine Fd_ 2 fld33_2 rfl rfl (go ?_)
 refine Hx_ ([iv a.low.seq]++(digC a.low.dig)) 1 ag28 rfl hp rfl rfl rfl (go ?_)
 refine Fd_ 2 fld33_2 rfl rfl (go ?_)
 refine Hx_ ([iv b.low.seq]++(digC b.low.dig)) 0 ag28 rfl hp rfl rfl rfl (go ?_)
 refine wl_eqlK (m:=6) (a.low=b.low) (by decide) key28 eg28 rfl rfl (hIa.low).fit (hIb.low).fit mark_inj ?_
 refine go ?_
 refine Gs 26 (fun hg3=> ?_) fun hg3=> ?_
 refine go ?_
 refine Fd_ 38 fld33_6 rfl rfl (go ?_)
 refine Hl_ 1 sc3 rfl hp rfl rfl (go ?_)
 refine Fd_ 38 fld33_6 rfl rfl (go ?_)
 refine Hl_ 0 sc3 rfl hp rfl rfl (go ?_)
 refine Eq_ rfl rfl (go ?_)
 refine Gs 33 (fun hg4=> ?_) fun hg4=> ?_
 refine go ?_
 refine Fd_ 40 fld33_8 rfl rfl (go ?_)
 refine Hl_ 1 sc4 rfl hp rfl rfl (go ?_)
 refine Fd_ 40 fld33_8 rfl rfl (go ?_)
 refine Hl_ 0 sc4 rfl hp rfl rfl (go ?_)
 refine wl_eqlb (by decide) bo4 rfl rfl ?_
 refine go ?_
 refine Gs 41 (fun hg5=> ?_) fun hg5=> ?_
 refine go ?_
 refine Fd_ 35 fld33_3 rfl rfl (go ?_)
 refine Hl_ 1 sc29 rfl hp rfl rfl (go ?_)
 refine Fd_ 35 fld33_3 rfl rfl (go ?_)
 refine Hl_ 0 sc29 rfl hp rfl rfl (go ?_)
 have hcl:=seqM_ok (ha0.ext q0) (hb0.ext q0)
 refine Cl_ cl69 rfl hcl ?_
 clear hcl
 rintro _ w3 ⟨rfl,hE3⟩
 replace q0:=q0.trans hE3
 replace hp:=hp.ext hE3
 refine go ?_
 refine Gs 48 (fun hg6=> ?_) fun hg6=> ?_
 refine go ?_
 refine Fd_ 39 fld33_7 rfl rfl (go ?_)
 refine Hl_ 1 sc29 rfl hp rfl rfl (go ?_)
 refine Fd_ 39 fld33_7 rfl rfl (go ?_)
 refine Hl_ 0 sc29 rfl hp rfl rfl (go ?_)
 have hcl:=seqM_ok (ha3.ext q0) (hb3.ext q0)
 refine Cl_ cl69 rfl hcl ?_
 clear hcl
 rintro _ w4 ⟨rfl,hE4⟩
 replace q0:=q0.trans hE4
 replace hp:=hp.ext hE4
 refine go ?_
 refine Gs 55 (fun hg7=> ?_) fun hg7=> ?_
 refine go ?_
 refine Fd_ 36 fld33_4 rfl rfl (go ?_)
 refine Hl_ 1 sc30 rfl hp rfl rfl (go ?_)
 refine Fd_ 36 fld33_4 rfl rfl (go ?_)
 refine Hl_ 0 sc30 rfl hp rfl rfl (go ?_)
 have hcl:=seqS_ok (ha1.ext q0) (hb1.ext q0)
 refine Cl_ cl70 rfl hcl ?_
 clear hcl
 rintro _ w5 ⟨rfl,hE5⟩
 replace q0:=q0.trans hE5
 replace hp:=hp.ext hE5
 refine go ?_
 refine Gs 62 (fun hg8=> ?_) fun hg8=> ?_
 refine go ?_
 refine Fd_ 37 fld33_5 rfl rfl (go ?_)
 refine Hl_ 1 sc30 rfl hp rfl rfl (go ?_)
 refine Fd_ 37 fld33_5 rfl rfl (go ?_)
 refine Hl_ 0 sc30 rfl hp rfl rfl (go ?_)
 have hcl:=seqS_ok (ha2.ext q0) (hb2.ext q0)
 refine Cl_ cl70 rfl hcl ?_
 clear hcl
 rintro _ w6 ⟨rfl,hE6⟩
 replace q0:=q0.trans hE6
 replace hp:=hp.ext hE6
 refine go ?_
 refine Gs 69 (fun hg9=> ?_) fun hg9=> ?_
 refine go ?_
 refine Fd_ 41 fld33_9 rfl rfl (go ?_)
 refine Hl_ 1 sc31 rfl hp rfl rfl (go ?_)
 refine Fd_ 41 fld33_9 rfl rfl (go ?_)
 refine Hl_ 0 sc31 rfl hp rfl rfl (go ?_)
 have hcl:=efB_ok (ha4.ext q0) (hb4.ext q0)
 refine Cl_ cl122 rfl hcl ?_
 clear hcl
 rintro _ w7 ⟨rfl,hE7⟩
 replace hp:=hp.ext hE7
 refine go ?_
 refine P1 results62 ?_
 exact ⟨_,rfl,congrArg Value.bool (decide_eq_decide.2 (by rw [Img_eq];simp_all)),hp.chg⟩
 refine go ?_
 refine P1 results62 ?_
 exact ⟨_,rfl,bool_f (by rw [Img_eq];simp_all),hp.chg⟩
 refine go ?_
 refine P1 results62 ?_
 exact ⟨_,rfl,bool_f (by rw [Img_eq];simp_all),hp.chg⟩
 refine go ?_
 refine P1 results62 ?_
 exact ⟨_,rfl,bool_f (by rw [Img_eq];simp_all),hp.chg⟩
 refine go ?_
 refine P1 results62 ?_
 exact ⟨_,rfl,bool_f (by rw [Img_eq];simp_all),hp.chg⟩
 refine go ?_
 refine P1 results62 ?_
 exact ⟨_,rfl,bool_f (by rw [Img_eq];simp_all),hp.chg⟩
 refine go ?_
 refine P1 results62 ?_
 exact ⟨_,rfl,bool_f (by rw [Img_eq];simp_all),hp.chg⟩
 refine go ?_
 refine P1 results62 ?_
 exact ⟨_,rfl,bool_f (by rw [Img_eq];simp_all),hp.chg⟩
 refine go ?_
 refine P1 results62 ?_
 exact ⟨_,rfl,bool_f (by rw [Img_eq];simp_all),hp.chg⟩
 refine go ?_
 refine P1 results62 ?_
 exact ⟨_,rfl,bool_f (by rw [Img_eq];simp_all),hp.chg⟩
end Go.Proofs.YtmbpneaibmldfaaGreat
namespace Go.Proofs.YtmbpneaibmldfaaGreat
open Go.RowKit Go.Eng _root_.Go.Proofs.Tryz Go.Eng _root_.Go.Proofs.Tryz
set_option maxRecDepth 100000
variable {w0 w:World} {M0 Fz:Nat→Prop} {H:List It} {A:Option Addr} {c:Nat}
set_option maxHeartbeats 4000000 in
theorem iNormal_ok {w0 w:World} {M0 Fz:Nat→Prop} {H:List It} {A:Option Addr} {c:Nat} {go:Nat} {o:List UInt8} {bd:Bool} {m:Img} {cs:List Value} (hp:HP w0 M0 Fz w (itB go 72 [.slice A o.length c, .bool bd]::itR 5 1 A o.length c (o.map bv)::H)) (hx:imgR.rd Fz w cs m) (hl:o.length+200+(m.own.length+m.done.length)*40+(m.p.length+m.q.length)*48+m.batches.length*698≤1099511627776):Ret prog 32 #[pt go 0, .agg cs.toArray] w (WoP go w0 M0 Fz w H (imgW (o,bd) m)):=by
 obtain ⟨hI,B0,d0,B1,d1,B2,d2,B3,d3,B4,d4,rfl,h0,h1,h2,h3,h4⟩:=hx
 have hI2:=hI
 obtain ⟨i1,i2,i3⟩:=hI2
 refine ret_of_wk func32 rfl ntmps32 leB_ ?_
 refine so ?_
 refine Bx hp (h:=fun g2 w1 hp E1=> ?_)
 obtain ⟨F2,hp,s2,hat⟩:=hp.frzBlk
 refine so ?_
 refine Bx hp (h:=fun g3 w2 hp E2=> ?_)
 replace hp:=hp.rot3
 refine so ?_
 refine Cw (iNum_ok (most:=1048576) hp i1 (by omega)) fun v A1 c1 w3 hp F3=> ?_
 have L1:=numW_len (o,bd) m.view 1048576
 generalize e1:numW (o,bd) m.view 1048576=t1 at hp L1
 refine so ?_
 refine Cw (iYes_ok hp (by simp only at L1;omega)) fun v A1 c1 w4 hp F4=> ?_
 have L2:=yesW_len (t1.1,t1.2) m.active
 generalize e2:yesW (t1.1,t1.2) m.active=t2 at hp L2
 refine so ?_
 refine Cw (iMark_ok (x:=m.low) (S:=fun _=>True) hp ⟨hI.low,rfl⟩ (by simp only at L1 L2;omega)) fun v A1 c1 w5 hp F5=> ?_
 have L3:=markW_len (t2.1,t2.2) m.low
 generalize e3:markW (t2.1,t2.2) m.low=t3 at hp L3
 refine so ?_
 have fM: ∀w',FnW (.func (.func 73) [pt go 0].toArray ([]:List Value).toArray) go w0 M0 F2 w' markR markW 40:=fun w' w9 H9 A9 c9 o9 b9 cs9 x9 _ hp9 hx9 hl9=>RetV.func (first:= [pt go 0]) (cap:= []) (vs:= [_]) (ClC.h (P:=prog) (f:=73)) (iMark_ok hp9 hx9 hl9)
 have fS: ∀w',FnW (.func (.func 76) [pt go 0].toArray ([]:List Value).toArray) go w0 M0 F2 w' standR standW 48:=fun w' w9 H9 A9 c9 o9 b9 cs9 x9 _ hp9 hx9 hl9=>RetV.func (first:= [pt go 0]) (cap:= []) (vs:= [_]) (ClC.h (P:=prog) (f:=76)) (iStand_ok hp9 hx9 hl9)
 refine Cw (eachM_ok (most:=4) hp (h0.to (F:=F2)) (fM _) markW_len (by simp only at L1 L2 L3;omega)) fun v A1 c1 w6 hp F6=> ?_
 have L4:=eachW_len markW_len (t3.1,t3.2) m.own 4
 generalize e4:eachW markW (t3.1,t3.2) m.own 4=t4 at hp L4
 refine so ?_
 refine Cw (eachS_ok (most:=8) hp (h1.to (F:=F2)) (fS _) standW_len (by simp only at L1 L2 L3 L4;omega)) fun v A1 c1 w7 hp F7=> ?_
 have L5:=eachW_len standW_len (t4.1,t4.2) m.p 8
 generalize e5:eachW standW (t4.1,t4.2) m.p 8=t5 at hp L5
 refine so ?_
 refine Cw (eachS_ok (most:=32) hp (h2.to (F:=F2)) (fS _) standW_len (by simp only at L1 L2 L3 L4 L5;omega)) fun v A1 c1 w8 hp F8=> ?_
 have L6:=eachW_len standW_len (t5.1,t5.2) m.q 32
 generalize e6:eachW standW (t5.1,t5.2) m.q 32=t6 at hp L6
 refine so ?_
 refine Cw (iNum_ok (most:=9007199254740991) hp i3 (by simp only at L1 L2 L3 L4 L5 L6;omega)) fun v A1 c1 w9 hp F9=> ?_
 have L7:=numW_len (t6.1,t6.2) m.ran 9007199254740991
 generalize e7:numW (t6.1,t6.2) m.ran 9007199254740991=t7 at hp L7
 refine so ?_
 refine Cw (eachM_ok (most:=8) hp (h3.to (F:=F2)) (fM _) markW_len (by simp only at L1 L2 L3 L4 L5 L6 L7;omega)) fun v A1 c1 w10 hp F10=> ?_
 have L8:=eachW_len markW_len (t7.1,t7.2) m.done 8
 generalize e8:eachW markW (t7.1,t7.2) m.done 8=t8 at hp L8
 refine so ?_
 refine Cw (iYes_ok hp (by simp only at L1 L2 L3 L4 L5 L6 L7 L8;omega)) fun v A1 c1 w11 hp F11=> ?_
 have L9:=yesW_len (t8.1,t8.2) m.ended
 generalize e9:yesW (t8.1,t8.2) m.ended=t9 at hp L9
 refine so ?_
 have hat9:AtF F2 w11 ⟨g2,0,none⟩ [pt go 0]:=hat.to
 refine Cw (eachB_ok (most:=40) (k:=698) (FV:= .func (.func 78) ([]:List Value).toArray [pt g2 0].toArray) hp (h4.to (F:=F2)) (fun w' H9 A9 c9 o9 b9 cs9 x9 F9 hp9 hx9 hl9=>RetV.func (first:= []) (cap:= [pt g2 0]) (vs:= [_]) (ClC.h (P:=prog) (f:=78)) (iNorm1_ok hp9 hx9 (hat9.to (F:=F2) F9) hl9)) batW_len (by simp only at L1 L2 L3 L4 L5 L6 L7 L8 L9;omega)) fun v A1 c1 w12 hp F12=>so ?_
 refine wk_post0 (.inr rfl) results32 ?_
 refine ⟨_,rfl, ?_⟩
 have e:imgW (o,bd) m=eachW batW (t9.1,t9.2) m.batches 40:=by subst e1 e2 e3 e4 e5 e6 e7 e8 e9;rfl
 rw [e]
 exact WoP.less hp.rot3.rot3.tail
theorem fs_ne: ¬full0=small0:=fun h=>by
 have:=congrArg Rpl.group h
 exact absurd this (by show ¬(2:Int)=1;decide)
theorem lf0:full0.img.batches.length*56≤140737488355328:=by show 1*56≤_;decide
theorem sz_full:sizeR full0≤1000000000000:=by show (4*8+(1+1)*40+(2+2)*48+1*698+5:Nat)≤_;decide
theorem no_full: ∀y∈full0.nodes,i64 y:=by show ∀y∈([1,2,3,9]:List Int),i64 y;unfold i64;decide
theorem b_full:bytesS full0=(rplE full0,0):=if_pos (may_full _)
theorem p_full:Go.Eng.parseS (rplE full0)=(full0,0):=parse_bytes (may_full _)
end Go.Proofs.YtmbpneaibmldfaaGreat
