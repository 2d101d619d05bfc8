/- What each of these functions computes, for every argument that its theorem names; a part of what the proof of ImageOnce stands on. -/
import Derived.Test.YtmbpneaibmldfaaGreatAac
import Derived.Test.YtmbpneaibmldfaaGreatAad
import Derived.Test.YtmbpneaibmldfaaGreatAaf
import Derived.Test.YtmbpneaibmldfaaGreatAag
import Derived.Test.YtmbpneaibmldfaaGreatAai
import Derived.Test.YtmbpneaibmldfaaGreatAaj
import Derived.Test.YtmbpneaibmldfaaGreatAak
import Derived.Test.YtmbpneaibmldfaaGreatAal
import Derived.Test.YtmbpneaibmldfaaGreatAap
import Derived.Test.YtmbpneaibmldfaaGreatAaq
import Derived.Test.YtmbpneaibmldfaaGreatAas
import Derived.Test.YtmbpneaibmldfaaGreatAav
import Derived.Test.YtmbpneaibmldfaaGreatAax
import Derived.Test.YtmbpneaibmldfaaGreatAay
import Derived.Test.YtmbpneaibmldfaaGreatAaz
import Derived.Test.YtmbpneaibmldfaaGreatAba
namespace Go.Proofs.YtmbpneaibmldfaaGreat
open Go.RowKit Go.Eng _root_.Go.Proofs.Tryz Go.Eng _root_.Go.Proofs.Tryz
set_option maxRecDepth 100000
variable {w0 w:World} {M0 Fz:Nat→Prop} {H:List It} {A:Option Addr} {c:Nat}
theorem bdig_ok {w0 w:World} {M0 Fz:Nat→Prop} {H:List It} {g:Nat} {Al:Option Addr} {cl:Nat} {l:List Wsh} (hp:HP w0 M0 Fz w (itB g 175 [.slice none 0 0,iv 0]::H)) (hl:GS wishR Fz w Al cl l) (hok:batchOk l):Ret prog 64 #[pt g 0, .slice Al l.length cl] w (fun v w'=>v= .tuple #[.agg (digC (shaV (blistE l))).toArray,iv 0]∧∃F2 cs,HP w0 M0 F2 w' (itB g 175 cs::H)∧Frz Fz F2 w w'):=by
 have hlen:=blist_len hok
 refine ret_of_wk func64 rfl ntmps64 leB_ ?_
 refine so ?_
 refine Alo hp (h:=fun g4 w1 hp E1=>so ?_)
 refine Ce (r11Batch_ok (hl.ext E1) hok) ?_
 rintro _ w2 ⟨A1,c1,rfl,ho,E2⟩
 obtain ⟨F1,hp,s1,n1,_⟩:=hp.frz E2
 have hb:=ho.bs.frz n1
 refine so ?_
 refine Cd ?_ ?_<;>intro hc
 ·exact absurd rfl hc
 refine so ?_
 refine Ce (bookOf_ok hp.swp hb (by omega)) ?_
 rintro _ w3 ⟨rfl,cs,hp3,hC3⟩
 replace hp:=hp3.swp
 clear hp3
 generalize shaV (blistE l)=D at *
 refine so ?_
 refine Hs 0 hp (ds:=digC D) (h:=fun w4 hp C4=>so ?_)
 refine wk_postR (rs:= [.cell 4 26, .tmp 5]) (.inl rfl) results64 ⟨_,_,_,rfl,rfl,loadVar_agg ag26 (hp.blkAt (i:=0) rfl).at0 rfl,⟨_,_,rfl,rfl,rfl⟩⟩ ?_
 exact ⟨_,rfl,rfl,F1,_,hp.tail,mv⟩
end Go.Proofs.YtmbpneaibmldfaaGreat
namespace Go.Proofs.YtmbpneaibmldfaaGreat
open Go.RowKit Go.Eng Go.Eng _root_.Go.Proofs.Tryz
set_option maxRecDepth 100000
variable {w0 w:World} {M0 Fz:Nat→Prop} {H:List It} {A:Option Addr} {c:Nat}
set_option maxHeartbeats 40000000 in
theorem iSame_ok {csa:List Value} {a:Rpl} {Sa:Nat→Prop} {csb:List Value} {b:Rpl} {Sb:Nat→Prop} (ha:rplR.rd Sa w csa a) (hb:rplR.rd Sb w csb b):Ret prog 21 #[.agg csa.toArray, .agg csb.toArray] w (fun v w'=>v= .bool (decide (a=b))∧Ext w w'):=by
 obtain ⟨hIa,Aa0,ca0,Aa1,ca1,Aa2,ca2,Aa3,ca3,Aa4,ca4,Aa5,ca5,Aa6,ca6,Aa7,ca7,Aa8,ca8,Aa9,ca9,rfl,ha0,ha1,ha2,ha3,ha4,ha5,ha6,ha7,ha8,ha9⟩:=ha
 obtain ⟨hIb,Ab0,cb0,Ab1,cb1,Ab2,cb2,Ab3,cb3,Ab4,cb4,Ab5,cb5,Ab6,cb6,Ab7,cb7,Ab8,cb8,Ab9,cb9,rfl,hb0,hb1,hb2,hb3,hb4,hb5,hb6,hb7,hb8,hb9⟩:=hb
 have mha0:=ha0.mx
 have mha1:=ha1.mx
 have mha2:=ha2.mx
 have mha3:=ha3.mx
 have mha4:=ha4.mx
 have mha5:=ha5.mx
 have mha6:=ha6.mx
 have mha7:=ha7.mx
 have mha8:=ha8.mx
 have mha9:=ha9.mx
 have mhb0:=hb0.mx
 have mhb1:=hb1.mx
 have mhb2:=hb2.mx
 have mhb3:=hb3.mx
 have mhb4:=hb4.mx
 have mhb5:=hb5.mx
 have mhb6:=hb6.mx
 have mhb7:=hb7.mx
 have mhb8:=hb8.mx
 have mhb9:=hb9.mx
 refine ret_of_wk func21 rfl ntmps21 leB_ ?_
 have hp:=HP.begin_ w
 replace ha0:=ha0.now
 replace ha1:=ha1.now
 replace ha2:=ha2.now
 replace ha3:=ha3.now
 replace ha4:=ha4.now
 replace ha5:=ha5.now
 replace ha6:=ha6.now
 replace ha7:=ha7.now
 replace ha8:=ha8.now
 replace ha9:=ha9.now
 replace hb0:=hb0.now
 replace hb1:=hb1.now
 replace hb2:=hb2.now
 replace hb3:=hb3.now
 replace hb4:=hb4.now
 replace hb5:=hb5.now
 replace hb6:=hb6.now
 replace hb7:=hb7.now
 replace hb8:=hb8.now
 replace hb9:=hb9.now
 refine go ?_
 refine wl_hbox (by decide) rfl hp ?_
 rintro gs2 w1 hp1 hE1
 have q0:=hE1
 replace hp:=hp1
 replace hp:=hp.ay (itB gs2 38 ([iv a.group,iv a.epoch,iv a.faults, .slice Aa0 a.nodes.length ca0,iv a.img.view, .bool a.img.active,iv a.img.low.seq]++(digC a.img.low.dig++([.slice Aa1 a.img.own.length ca1, .slice Aa2 a.img.p.length ca2, .slice Aa3 a.img.q.length ca3,iv a.img.ran, .slice Aa4 a.img.done.length ca4, .bool a.img.ended, .slice Aa5 a.img.batches.length ca5, .bool a.left,iv a.change.node,iv a.change.view,iv a.change.low, .slice Aa6 a.change.marks.length ca6, .slice Aa7 a.change.p.length ca7, .slice Aa8 a.change.q.length ca8, .slice Aa9 a.state.length ca9])))::_)
 refine wl_hbox (by decide) rfl hp ?_
 rintro gs3 w2 hp2 hE2
 replace q0:=q0.trans hE2
 replace hp:=hp2
 replace hp:=hp.ay (itB gs3 38 ([iv b.group,iv b.epoch,iv b.faults, .slice Ab0 b.nodes.length cb0,iv b.img.view, .bool b.img.active,iv b.img.low.seq]++(digC b.img.low.dig++([.slice Ab1 b.img.own.length cb1, .slice Ab2 b.img.p.length cb2, .slice Ab3 b.img.q.length cb3,iv b.img.ran, .slice Ab4 b.img.done.length cb4, .bool b.img.ended, .slice Ab5 b.img.batches.length cb5, .bool b.left,iv b.change.node,iv b.change.view,iv b.change.low, .slice Ab6 b.change.marks.length cb6, .slice Ab7 b.change.p.length cb7, .slice Ab8 b.change.q.length cb8, .slice Ab9 b.state.length cb9])))::_)
 refine go ?_
 refine Fd_ 0 fld38_0 rfl rfl ?_
 refine Hl_ 1 sc3 rfl hp rfl rfl ?_
 refine Fd_ 0 fld38_0 rfl rfl ?_
 refine Hl_ 0 sc3 rfl hp rfl rfl ?_
 refine Eq_ rfl rfl (go ?_)
 refine Gs 11 (fun hg1=> ?_) fun hg1=> ?_
 refine go ?_
 refine Fd_ 1 fld38_1 rfl rfl (go ?_)
 refine Hl_ 1 sc3 rfl hp rfl rfl (go ?_)
 refine Fd_ 1 fld38_1 rfl rfl (go ?_)
 refine Hl_ 0 sc3 rfl hp rfl rfl (go ?_)
 refine Eq_ rfl rfl (go ?_)
 refine Gs 18 (fun hg2=> ?_) fun hg2=> ?_
 refine go ?_
 refine Fd_ 2 fld38_2 rfl rfl (go ?_)
 refine Fd_ 2 fld24_0 rfl rfl (go ?_)
 refine Hl_ 1 sc3 rfl hp rfl rfl (go ?_)
 refine Fd_ 2 fld38_2 rfl rfl (go ?_)
 refine Fd_ 2 fld24_0 rfl rfl (go ?_)
 refine Hl_ 0 sc3 rfl hp rfl rfl (go ?_)
 refine Eq_ rfl rfl (go ?_)
 refine Gs 27 (fun hg3=> ?_) fun hg3=> ?_
 refine go ?_
 refine Fd_ 2 fld38_2 rfl rfl (go ?_)
 refine Fd_ 3 fld24_1 rfl rfl (go ?_)
 refine Hl_ 1 sc22 rfl hp rfl rfl (go ?_)
 refine Fd_ 2 fld38_2 rfl rfl (go ?_)
 refine Fd_ 3 fld24_1 rfl rfl (go ?_)
 refine Hl_ 0 sc22 rfl hp rfl rfl (go ?_)
 have hcl:=seqI_ok (ha0.ext q0) (hb0.ext q0)
 refine Cl_ cl61 rfl hcl ?_
 clear hcl
 rintro _ w3 ⟨rfl,hE3⟩
 replace q0:=q0.trans hE3
 replace hp:=hp.ext hE3
 refine go ?_
 refine Gs 37 (fun hg4=> ?_) fun hg4=> ?_
 refine go ?_
 refine Fd_ 4 fld38_3 rfl rfl (go ?_)
 refine Hx_ ([iv a.img.view, .bool a.img.active,iv a.img.low.seq]++(digC a.img.low.dig++([.slice Aa1 a.img.own.length ca1, .slice Aa2 a.img.p.length ca2, .slice Aa3 a.img.q.length ca3,iv a.img.ran, .slice Aa4 a.img.done.length ca4, .bool a.img.ended, .slice Aa5 a.img.batches.length ca5]))) 1 ag33 rfl hp rfl rfl rfl (go ?_)
 refine Fd_ 4 fld38_3 rfl rfl (go ?_)
 refine Hx_ ([iv b.img.view, .bool b.img.active,iv b.img.low.seq]++(digC b.img.low.dig++([.slice Ab1 b.img.own.length cb1, .slice Ab2 b.img.p.length cb2, .slice Ab3 b.img.q.length cb3,iv b.img.ran, .slice Ab4 b.img.done.length cb4, .bool b.img.ended, .slice Ab5 b.img.batches.length cb5]))) 0 ag33 rfl hp rfl rfl rfl (go ?_)
 have hcl:=iSameNormal_ok ⟨(hIa.img),_,_,_,_,_,_,_,_,_,_,rfl,(ha1.ext q0),(ha2.ext q0),(ha3.ext q0),(ha4.ext q0),(ha5.ext q0)⟩ ⟨(hIb.img),_,_,_,_,_,_,_,_,_,_,rfl,(hb1.ext q0),(hb2.ext q0),(hb3.ext q0),(hb4.ext q0),(hb5.ext q0)⟩
 refine Cl_ cl62 rfl hcl ?_
 clear hcl
 rintro _ w4 ⟨rfl,hE4⟩
 replace q0:=q0.trans hE4
 replace hp:=hp.ext hE4
 refine go ?_
 refine Gs 44 (fun hg5=> ?_) fun hg5=> ?_
 refine go ?_
 refine Fd_ 46 fld38_4 rfl rfl (go ?_)
 refine Hl_ 1 sc4 rfl hp rfl rfl (go ?_)
 refine Fd_ 46 fld38_4 rfl rfl (go ?_)
 refine Hl_ 0 sc4 rfl hp rfl rfl (go ?_)
 refine wl_eqlb (by decide) bo4 rfl rfl ?_
 refine go ?_
 refine Gs 51 (fun hg6=> ?_) fun hg6=> ?_
 refine go ?_
 refine Fd_ 47 fld38_5 rfl rfl (go ?_)
 refine Hx_ ([iv a.change.node,iv a.change.view,iv a.change.low, .slice Aa6 a.change.marks.length ca6, .slice Aa7 a.change.p.length ca7, .slice Aa8 a.change.q.length ca8]) 1 ag35 rfl hp rfl rfl rfl (go ?_)
 refine Fd_ 47 fld38_5 rfl rfl (go ?_)
 refine Hx_ ([iv b.change.node,iv b.change.view,iv b.change.low, .slice Ab6 b.change.marks.length cb6, .slice Ab7 b.change.p.length cb7, .slice Ab8 b.change.q.length cb8]) 0 ag35 rfl hp rfl rfl rfl (go ?_)
 have hcl:=iSameChange_ok ⟨(hIa.change),_,_,_,_,_,_,rfl,(ha6.ext q0),(ha7.ext q0),(ha8.ext q0)⟩ ⟨(hIb.change),_,_,_,_,_,_,rfl,(hb6.ext q0),(hb7.ext q0),(hb8.ext q0)⟩
 refine Cl_ cl28 rfl hcl ?_
 clear hcl
 rintro _ w5 ⟨rfl,hE5⟩
 replace q0:=q0.trans hE5
 replace hp:=hp.ext hE5
 refine go ?_
 refine Gs 58 (fun hg7=> ?_) fun hg7=> ?_
 refine go ?_
 refine Fd_ 53 fld38_6 rfl rfl (go ?_)
 refine Hl_ 1 sc36 rfl hp rfl rfl (go ?_)
 refine Fd_ 53 fld38_6 rfl rfl (go ?_)
 refine Hl_ 0 sc36 rfl hp rfl rfl (go ?_)
 have hcl:=bequal_ok (ha9.ext q0) (hb9.ext q0)
 refine Cl_ cl63 rfl hcl ?_
 clear hcl
 rintro _ w6 ⟨rfl,hE6⟩
 replace hp:=hp.ext hE6
 refine go ?_
 refine P1 results21 ?_
 exact ⟨_,rfl,congrArg Value.bool (decide_eq_decide.2 (by rw [Rpl_eq];simp_all)),hp.chg⟩
 refine go ?_
 refine P1 results21 ?_
 exact ⟨_,rfl,bool_f (by rw [Rpl_eq];simp_all),hp.chg⟩
 refine go ?_
 refine P1 results21 ?_
 exact ⟨_,rfl,bool_f (by rw [Rpl_eq];simp_all),hp.chg⟩
 refine go ?_
 refine P1 results21 ?_
 exact ⟨_,rfl,bool_f (by rw [Rpl_eq];simp_all),hp.chg⟩
 refine go ?_
 refine P1 results21 ?_
 exact ⟨_,rfl,bool_f (by rw [Rpl_eq];simp_all),hp.chg⟩
 refine go ?_
 refine P1 results21 ?_
 exact ⟨_,rfl,bool_f (by rw [Rpl_eq];simp_all),hp.chg⟩
 refine go ?_
 refine P1 results21 ?_
 exact ⟨_,rfl,bool_f (by rw [Rpl_eq];simp_all),hp.chg⟩
 refine go ?_
 refine P1 results21 ?_
 exact ⟨_,rfl,bool_f (by rw [Rpl_eq];simp_all),hp.chg⟩
theorem t0_nRead_ok {p:Prop} (h:p:=by exact Hx_ ([iv x3.kind,iv x3.from_,iv x3.group,iv x3.epoch,iv x3.view,iv x3.seq]++(digC x3.dig++([.slice A3_0 x3.batch.length c3_0,iv x3.ans.err, .slice A3_1 x3.ans.data.length c3_1,iv x3.ans.epoch, .slice A3_2 x3.ans.nodes.length c3_2,iv x3.stamp,iv x3.node,iv x3.change.node,iv x3.change.view,iv x3.change.low, .slice A3_3 x3.change.marks.length c3_3, .slice A3_4 x3.change.p.length c3_4, .slice A3_5 x3.change.q.length c3_5, .slice A3_6 x3.changes.length c3_6, .slice A3_7 x3.picks.length c3_7,iv x3.level,iv x3.place, .slice A3_8 x3.digs.length c3_8, .slice A3_9 x3.data.length c3_9, .slice A3_10 x3.nodes.length c3_10]))) 1 ag157 (hk.pi 2) (hp.ext hER) rfl rfl rfl qz):p:=h
set_option maxHeartbeats 40000000 in
theorem nRead_ok {l:List UInt8} (hp:HP w0 M0 Fz w H) (hl:GS byteR Fz w A c l):Ret prog 144 #[.slice A l.length c] w (fun v w2=> ∃F2 cs x ok,v= .tuple #[.agg cs.toArray, .bool ok]∧HP w0 M0 F2 w2 H∧Frz Fz F2 w w2∧noteR.rd F2 w2 cs x∧ReadR l x ok):=by
 refine ret_of_wk func144 rfl ntmps144 leB_ ?_
 refine so ?_
 refine Alo hp (h:=fun gs2 w1 hp hE1=>so ?_)
 refine wl_builtS (ps:= [(0, .tmp 5)]) (by decide) bld223 rfl rfl ?_
 refine Bx hp (h:=fun gs7 w2 hp hE2=>so ?_)
 refine wl_iface (by decide) (by kernel_rfl) rfl ?_
 refine Ce (rShow_ok hp hl.to) ?_
 rintro _ w3 ⟨F3,A3,c3,l3,b3,cs3,x3,hp,hF3,hl3,hrd3,hst3⟩
 have qhrd3:=hrd3
 obtain ⟨hI3,A3_0,c3_0,A3_1,c3_1,A3_2,c3_2,A3_3,c3_3,A3_4,c3_4,A3_5,c3_5,A3_6,c3_6,A3_7,c3_7,A3_8,c3_8,A3_9,c3_9,A3_10,c3_10,rfl,hr3_0,hr3_1,hr3_2,hr3_3,hr3_4,hr3_5,hr3_6,hr3_7,hr3_8,hr3_9,hr3_10⟩:=hrd3
 replace hp:=hp.nz
 refine so ?_
 by_cases hs1:b3=true
 apply wdL [.eq _,.eq _,.eq _,.eq _,.eq (.bool true),.eq (.bool false),.eq (.bool false),.eq undef,.eq undef,.eq undef,.eq undef,.eq undef,.eq undef,.eq (.bool false),.eq undef,.eq (.bool false)]
 refine ⟨?_,?_,?_,?_,?_,?_,?_,?_,?_,?_,?_,?_,?_,?_,?_,?_,trivial⟩<;>intro F wF hER hk
 exact t0_nRead_ok
 exact dm (hk.pi 4)
 exact Nc_ (hk.pe 1) qz
 exact Fd_ 1 fld223_1 (hk.pe 2) rfl qz
 have e14:=hk.pe 3
 refine Hl_ 0 sc4 e14 (hp.ext hER) rfl rfl ?_
 exact wl_re (k:=15) (v:= .bool true) rfl (congrArg Value.bool hs1) qy
 have e15:=hk.pe 4
 first|exact Nd_ e15 qz|exact Nn_ e15 qz
 exact dm (hk.pe 5)
 exact dn (hk.pe 6)
 exact dn (hk.pe 6)
 exact dn (hk.pe 6)
 exact dn (hk.pe 6)
 exact dn (hk.pe 6)
 exact dn (hk.pe 6)
 have e17:=hk.pe 6
 have e23:=hk.pe 12
 exact Pk_ e17 rfl qz
 have e2:=hk.pi 2
 have e11:=hk.pe 0
 refine wl_hsame (i:=1) (k:=58) e2 e11 (hp.ext hER) rfl sz157 rfl (List.all_eq_true.1 rfl) ?_
 exact wl_nil (qr_none ⟨Chg.refl _ _,rfl⟩)
 exact wl_assign (by decide) (hk.pe 13) qz
 intro F wD hED hini hdo
 refine wk_drop [(2,_),(3,_)] ⟨di hini 2,dq hdo 15,trivial⟩ ?_
 clear hini hdo
 replace hp:=hp.ext hED
 refine so ?_
 refine wk_postR (rs:= [.cell 2 157, .tmp 3]) (.inl rfl) results144 ⟨_,_,_,rfl,rfl,loadVar_agg ag157 (hp.blkAt (i:=1) rfl).at0 rfl,⟨_,_,rfl,rfl,rfl⟩⟩ ?_
 exact ⟨_,rfl,_,_,x3,_,rfl,hp.tail.tail,mv,(rdTo qhrd3),by first|exact read_ok hst3 (by assumption) rfl|exact read_bad hst3 (by assumption) rfl⟩
 replace hs1:=eq_false_of_ne_true hs1
 apply wdL [.eq _,.eq _,.eq _,.eq _,.eq (.bool false),.eq (.bool true),.eq (.bool true),.eq _,.eq _,.eq _,.eq _,.eq _,.eq _,.eq _,.eq undef,.eq _]
 refine ⟨?_,?_,?_,?_,?_,?_,?_,?_,?_,?_,?_,?_,?_,?_,?_,?_,trivial⟩<;>intro F wF hER hk
 exact t0_nRead_ok
 exact dm (hk.pi 4)
 exact Nc_ (hk.pe 1) qz
 exact Fd_ 1 fld223_1 (hk.pe 2) rfl qz
 have e14:=hk.pe 3
 refine Hl_ 0 sc4 e14 (hp.ext hER) rfl rfl ?_
 exact wl_re (k:=15) (v:= .bool false) rfl (congrArg Value.bool hs1) qy
 have e15:=hk.pe 4
 first|exact Nd_ e15 qz|exact Nn_ e15 qz
 exact dm (hk.pe 5)
 have e4:=hk.pi 4
 have e17:=hk.pe 6
 refine wl_gyes rfl e17 ?_
 exact Mv_ e4 qz
 have e18:=hk.pe 7
 have e17:=hk.pe 6
 refine wl_gyes rfl e17 ?_
 exact Nc_ e18 qz
 have e19:=hk.pe 8
 have e17:=hk.pe 6
 refine wl_gyes rfl e17 ?_
 exact Fd_ 0 fld223_0 e19 rfl qz
 have e20:=hk.pe 9
 have e17:=hk.pe 6
 refine wl_gyes rfl e17 ?_
 exact Hl_ 0 sc36 e20 (hp.ext hER) rfl rfl qz
 have e21:=hk.pe 10
 have e17:=hk.pe 6
 refine wl_gyes rfl e17 ?_
 exact Ln_ underlying36 e21 qz
 have e22:=hk.pe 11
 have e17:=hk.pe 6
 refine wl_gyes rfl e17 ?_
 exact Eq_ e22 rfl qz
 have e17:=hk.pe 6
 have e23:=hk.pe 12
 exact Pk_ e17 e23 qz
 have e2:=hk.pi 2
 have e11:=hk.pe 0
 refine wl_hsame (i:=1) (k:=58) e2 e11 (hp.ext hER) rfl sz157 rfl (List.all_eq_true.1 rfl) ?_
 exact wl_nil (qr_none ⟨Chg.refl _ _,rfl⟩)
 exact wl_assign (by decide) (hk.pe 13) qz
 intro F wD hED hini hdo
 refine wk_drop [(2,_),(3,_)] ⟨di hini 2,dq hdo 15,trivial⟩ ?_
 clear hini hdo
 replace hp:=hp.ext hED
 refine so ?_
 refine wk_postR (rs:= [.cell 2 157, .tmp 3]) (.inl rfl) results144 ⟨_,_,_,rfl,rfl,loadVar_agg ag157 (hp.blkAt (i:=1) rfl).at0 rfl,⟨_,_,rfl,rfl,rfl⟩⟩ ?_
 exact ⟨_,rfl,_,_,x3,_,rfl,hp.tail.tail,mv,(rdTo qhrd3),by first|exact read_ok hst3 (by assumption) rfl|exact read_bad hst3 (by assumption) rfl⟩
set_option maxHeartbeats 40000000 in
theorem nUnpack_ok {l:List UInt8} (hp:HP w0 M0 Fz w H) (hl:GS byteR Fz w A c l):Ret prog 106 #[.slice A l.length c] w (fun v w2=> ∃F2 cs x e,v= .tuple #[.agg cs.toArray, .int .i64 e]∧HP w0 M0 F2 w2 H∧Frz Fz F2 w w2∧noteR.rd F2 w2 cs x∧(x,e)=unpackS l):=by
 refine ret_of_wk func106 rfl ntmps106 leB_ ?_
 refine so ?_
 refine Alo hp (h:=fun gs2 w1 hp hE1=>so ?_)
 refine Ce (nRead_ok hp hl.to) ?_
 rintro _ w2 ⟨F2,cs2,x2,e2,rfl,hp,hF2,hrd2,hpr2⟩
 have qhrd2:=hrd2
 obtain ⟨hI2,A2_0,c2_0,A2_1,c2_1,A2_2,c2_2,A2_3,c2_3,A2_4,c2_4,A2_5,c2_5,A2_6,c2_6,A2_7,c2_7,A2_8,c2_8,A2_9,c2_9,A2_10,c2_10,rfl,hr2_0,hr2_1,hr2_2,hr2_3,hr2_4,hr2_5,hr2_6,hr2_7,hr2_8,hr2_9,hr2_10⟩:=hrd2
 refine so ?_
 refine Alo hp (h:=fun gs4 w3 hp hE3=> ?_)
 refine Hs 0 hp (h:=fun w4 hp hC4=>so ?_)
 refine Gs 13 ?_ ?_<;>intro hg1<;>refine so ?_
 refine aT (so ?_)
 refine wl_builtS (ps:= []) (by decide) bld157 rfl rfl ?_
 refine Hs 1 hp (h:=fun w5 hp hC5=>so ?_)
 refine wk_postR (rs:= [.cell 2 157, .tmp 3]) (.inl rfl) results106 ⟨_,_,_,rfl,rfl,loadVar_agg ag157 (hp.blkAt (i:=1) rfl).at0 rfl,⟨_,_,rfl,rfl,rfl⟩⟩ ?_
 exact ⟨_,rfl,_,_,note0,_,rfl,hp.tail.tail,mv,⟨⟨i0,i0,i0,i0,i0,i0,i0,i0,i0,i0,i0,i0,i0,i0,i0⟩,_,_,_,_,_,_,_,_,_,_,_,_,_,_,_,_,_,_,_,_,_,_,rfl,gsn,gsn,gsn,gsn,gsn,gsn,gsn,gsn,gsn,gsn,gsn⟩,by
   cases e2 with
   |false=>first|exact (unpack_bad hpr2).symm|(exfalso;simp at hg1)
   | true =>
     have h1:=hpr2.1 rfl
     first
     |(exfalso;simp at hg1;done)
     |(unfold unpackS;rw [h1];exact (if_neg (fun hh=>absurd hh.2 (by simpa using hc2))).symm)
     |(unfold unpackS;rw [h1];exact (if_pos ⟨rfl,by simpa using hc2⟩).symm)⟩
 refine Cx hp (nMay_ok (rdTo qhrd2) (by exact Nat.le_trans (Nat.mul_le_mul_right _ (changes_few (hpr2.1 (by simpa using hg1)))) (by decide))) fun w6 hp hE6=>so ?_
 refine Cd ?_ ?_<;>intro hc2<;>refine so ?_
 refine wl_builtS (ps:= []) (by decide) bld157 rfl rfl ?_
 refine Hs 1 hp (h:=fun w7 hp hC7=>so ?_)
 refine wk_postR (rs:= [.cell 2 157, .tmp 3]) (.inl rfl) results106 ⟨_,_,_,rfl,rfl,loadVar_agg ag157 (hp.blkAt (i:=1) rfl).at0 rfl,⟨_,_,rfl,rfl,rfl⟩⟩ ?_
 exact ⟨_,rfl,_,_,note0,_,rfl,hp.tail.tail,mv,⟨⟨i0,i0,i0,i0,i0,i0,i0,i0,i0,i0,i0,i0,i0,i0,i0⟩,_,_,_,_,_,_,_,_,_,_,_,_,_,_,_,_,_,_,_,_,_,_,rfl,gsn,gsn,gsn,gsn,gsn,gsn,gsn,gsn,gsn,gsn,gsn⟩,by
   cases e2 with
   |false=>first|exact (unpack_bad hpr2).symm|(exfalso;simp at hg1)
   | true =>
     have h1:=hpr2.1 rfl
     first
     |(exfalso;simp at hg1;done)
     |(unfold unpackS;rw [h1];exact (if_neg (fun hh=>absurd hh.2 (by simpa using hc2))).symm)
     |(unfold unpackS;rw [h1];exact (if_pos ⟨rfl,by simpa using hc2⟩).symm)⟩
 refine Hs 1 hp (h:=fun w8 hp hC8=>so ?_)
 refine wk_postR (rs:= [.cell 2 157, .tmp 3]) (.inl rfl) results106 ⟨_,_,_,rfl,rfl,loadVar_agg ag157 (hp.blkAt (i:=1) rfl).at0 rfl,⟨_,_,rfl,rfl,rfl⟩⟩ ?_
 exact ⟨_,rfl,_,_,x2,_,rfl,hp.tail.tail,mv,(rdTo qhrd2),by
   cases e2 with
   |false=>first|exact (unpack_bad hpr2).symm|(exfalso;simp at hg1)
   | true =>
     have h1:=hpr2.1 rfl
     first
     |(exfalso;simp at hg1;done)
     |(unfold unpackS;rw [h1];exact (if_neg (fun hh=>absurd hh.2 (by simpa using hc2))).symm)
     |(unfold unpackS;rw [h1];exact (if_pos ⟨rfl,by simpa using hc2⟩).symm)⟩
end Go.Proofs.YtmbpneaibmldfaaGreat
namespace Go.Proofs.YtmbpneaibmldfaaGreat
open Go.RowKit Go.Eng _root_.Go.Proofs.Tryz Go.Eng _root_.Go.Proofs.Tryz
set_option maxRecDepth 100000
variable {w0 w:World} {M0 Fz:Nat→Prop} {H:List It} {A:Option Addr} {c:Nat}
set_option maxHeartbeats 8000000 in
theorem iBytes_ok {w:World} {cs:List Value} {r:Rpl} {S:Nat→Prop} (hr:rplR.rd S w cs r) (hn: ∀y∈r.nodes,i64 y) (hz:sizeR r≤1000000000000):Ret prog 10 #[.agg cs.toArray] w (fun v w'=> ∃A' c',v= .tuple #[.slice A' (bytesS r).1.length c', .int .i64 (bytesS r).2]∧OwnB 5 w.heap.size w' A' c' (bytesS r).1∧Ext w w'):=by
 rw [bytes_is]
 unfold sizeR at hz
 obtain ⟨grp,ep,fl,nd,im,lf,ch,sta⟩:=r
 obtain ⟨hI,B0,d0,B1,d1,B2,d2,B3,d3,B4,d4,B5,d5,B6,d6,B7,d7,B8,d8,B9,d9,rfl,h0,h1,h2,h3,h4,h5,h6,h7,h8,h9⟩:=hr
 have hJ:=hI
 unfold RplI i64 at hJ
 simp only at hJ hn hz h0 h1 h2 h3 h4 h5 h6 h7 h8 h9⊢
 refine ret_of_wk func10 rfl ntmps10 leB_ ?_
 have hp:=HP.begin_ w
 refine so ?_
 refine Bx hp (h:=fun g1 w1 hp E1=> ?_)
 refine wl_assign (by decide) rfl ?_
 refine wl_assign (by decide) rfl ?_
 refine wl_nil ?_
 refine wk_norm ?_
 refine wc_seq_cut (fun L' w'=> ∃(g4 go:Nat) (F2:Nat→Prop) (b:Bool),L'= [(1,pt g1 0),(4,pt g4 0)]∧b=(decide (¬crewMay fl nd)||decide (lf=false∧ch≠change0))∧HP w (fun _=>False) F2 w' [itB go 72 [.slice none 0 0, .bool b],itB g1 38 ([.int .i64 grp, .int .i64 ep, .int .i64 fl, .slice B0 nd.length d0, .int .i64 im.view, .bool im.active, .int .i64 im.low.seq]++(digC im.low.dig++ [.slice B1 im.own.length d1, .slice B2 im.p.length d2, .slice B3 im.q.length d3, .int .i64 im.ran, .slice B4 im.done.length d4, .bool im.ended, .slice B5 im.batches.length d5, .bool lf, .int .i64 ch.node, .int .i64 ch.view, .int .i64 ch.low, .slice B6 ch.marks.length d6, .slice B7 ch.p.length d7, .slice B8 ch.q.length d8, .slice B9 sta.length d9]))]∧AtF F2 w' ⟨g4,0,none⟩ [pt go 0]∧Frz (fun b=>b<w.heap.size) F2 w w') ?_ ?_
 ·intro K hK
  refine so ?_
  refine Cx hp (crewCheck_ok (x:=⟨fl,nd⟩) ⟨hI.crew,_,_,rfl,h0.tn⟩) fun w2 hp E2=> ?_
  by_cases hc:crewMay fl nd
  ·refine wl_re (k := 9) (v := .int .i64 0) rfl (congrArg (Value.int .i64) (if_pos hc)) ?_
   refine wl_neq (by decide) rfl rfl ?_
   cases lf
   ·refine so ?_
    refine wl_builtS (ps:= []) (by decide) bld35 rfl rfl ?_
    refine wl_gyes rfl rfl ?_
    refine Cx hp (iSameChange_ok (a:=ch) (b:=change0) (Sb:=fun _=>True) ⟨hI.change,_,_,_,_,_,_,rfl,h6.tn,h7.tn,h8.tn⟩ ⟨ChnI0,none,0,none,0,none,0,rfl,GS.nil _ _ _ _ _,GS.nil _ _ _ _ _,GS.nil _ _ _ _ _⟩) fun w3 hp E3=> ?_
    refine so ?_
    refine wl_builtS (ps:= [(1, .tmp 22)]) (by decide) bld72 rfl rfl ?_
    refine Bx hp (h:=fun go w4 hp E4=>so ?_)
    refine Alo hp (h:=fun g4 w5 hp E5=> ?_)
    refine Hs 0 hp (h:=fun w6 hp C6=> ?_)
    obtain ⟨F2,hp,s2,hat⟩:=hp.frzBlk
    refine so ?_
    exact Kd [1,4] hK ⟨g4,go,F2,_,rfl,by simp [hc],hp,hat,mv⟩
   ·refine so ?_
    refine wl_builtS (ps:= [(1, .tmp 22)]) (by decide) bld72 rfl rfl ?_
    refine Bx hp (h:=fun go w4 hp E4=>so ?_)
    refine Alo hp (h:=fun g4 w5 hp E5=> ?_)
    refine Hs 0 hp (h:=fun w6 hp C6=> ?_)
    obtain ⟨F2,hp,s2,hat⟩:=hp.frzBlk
    refine so ?_
    exact Kd [1,4] hK ⟨g4,go,F2,_,rfl,by simp [hc],hp,hat,mv⟩
  ·refine wl_re (k := 9) (v := .int .i64 110) rfl (congrArg (Value.int .i64) (if_neg hc)) ?_
   refine wl_neq (by decide) rfl rfl ?_
   refine so ?_
   refine wl_builtS (ps:= [(1, .tmp 22)]) (by decide) bld72 rfl rfl ?_
   refine Bx hp (h:=fun go w4 hp E4=>so ?_)
   refine Alo hp (h:=fun g4 w5 hp E5=> ?_)
   refine Hs 0 hp (h:=fun w6 hp C6=> ?_)
   obtain ⟨F2,hp,s2,hat⟩:=hp.frzBlk
   refine so ?_
   exact Kd [1,4] hK ⟨g4,go,F2,_,rfl,by simp [hc],hp,hat,mv⟩
 ·rintro _ w2 ⟨g4, go, F2, b, rfl, hb, hp, hat, hF⟩
  rw [←hb]
  replace hp:=((hp.noRow 5 1).swp).as_ (H':=itB go 72 [.slice none ([]:List UInt8).length 0, .bool b]::itR 5 1 none ([]:List UInt8).length 0 (([]:List UInt8).map bv)::_) rfl
  refine so ?_
  refine Cw (iNum_ok (most:=2) hp hJ.1 (by simp)) fun v A1 c1 w3 hp F3=> ?_
  have L1:=numW_len ([],b) grp 2
  generalize e1:numW ([],b) grp 2=t1 at hp L1
  refine so ?_
  refine Cw (iNum_ok (most:=1048576) hp hJ.2.1 (by simp only [List.length_nil] at L1;omega)) fun v A1 c1 w4 hp F4=> ?_
  have L2:=numW_len (t1.1,t1.2) ep 1048576
  generalize e2:numW (t1.1,t1.2) ep 1048576=t2 at hp L2
  refine so ?_
  refine Cw (iNum_ok (most:=2) hp hJ.2.2.1 (by simp only [List.length_nil] at L1 L2;omega)) fun v A1 c1 w5 hp F5=> ?_
  have L3:=numW_len (t2.1,t2.2) fl 2
  generalize e3:numW (t2.1,t2.2) fl 2=t3 at hp L3
  refine so ?_
  have hat5:AtF F2 w5 ⟨g4,0,none⟩ [pt go 0]:=hat.to
  refine Cw (eachI_ok (most:=7) (f:=nodeW) (k:=8) (FV:= .func (.func 31) ([]:List Value).toArray [pt g4 0].toArray) hp h0.tn hn (fun w' H9 A9 c9 o9 b9 x9 F9 hp9 hx9 hl9=>RetV.func (first:= []) (cap:= [pt g4 0]) (vs:= [_]) (ClC.h (P:=prog) (f:=31)) (iBytes1_ok hp9 hx9 (hat5.to (F:=F2) F9) hl9)) (fun s x=>numW_len s x 28) (by simp only [List.length_nil] at L1 L2 L3;omega)) fun v A1 c1 w6 hp F6=> ?_
  have L4:=eachW_len (f:=nodeW) (k:=8) (fun s x=>numW_len s x 28) (t3.1,t3.2) nd 7
  generalize e4:eachW nodeW (t3.1,t3.2) nd 7=t4 at hp L4
  refine so ?_
  refine Cw (iNormal_ok (m:=im) hp ⟨hI.img,_,_,_,_,_,_,_,_,_,_,rfl,h1.tn,h2.tn,h3.tn,h4.tn,h5.tn⟩ (by simp only [List.length_nil] at L1 L2 L3 L4;omega)) fun v A1 c1 w7 hp F7=> ?_
  have L5:(imgW (t4.1,t4.2) im).1.length≤t4.1.length+200+(im.own.length+im.done.length)*40+(im.p.length+im.q.length)*48+im.batches.length*698:=imgW_len _ _
  generalize e5:imgW (t4.1,t4.2) im=t5 at hp L5
  refine so ?_
  refine Cw (iYes_ok hp (by simp only [List.length_nil] at L1 L2 L3 L4 L5;omega)) fun v A1 c1 w8 hp F8=> ?_
  have L6:=yesW_len (t5.1,t5.2) lf
  generalize e6:yesW (t5.1,t5.2) lf=t6 at hp L6
  refine sl ?_
  refine wc_seq_cut (fun L' w'=> ∃(F5:Nat→Prop) (A9:Option Addr) (c9:Nat),L'= [(1,pt g1 0),(4,pt g4 0)]∧HP w (fun _=>False) F5 w' (itB go 72 [.slice A9 (optW t6 lf ch).1.length c9, .bool (optW t6 lf ch).2]::itR 5 1 A9 (optW t6 lf ch).1.length c9 ((optW t6 lf ch).1.map bv):: [itB g1 38 ([.int .i64 grp, .int .i64 ep, .int .i64 fl, .slice B0 nd.length d0, .int .i64 im.view, .bool im.active, .int .i64 im.low.seq]++(digC im.low.dig++ [.slice B1 im.own.length d1, .slice B2 im.p.length d2, .slice B3 im.q.length d3, .int .i64 im.ran, .slice B4 im.done.length d4, .bool im.ended, .slice B5 im.batches.length d5, .bool lf, .int .i64 ch.node, .int .i64 ch.view, .int .i64 ch.low, .slice B6 ch.marks.length d6, .slice B7 ch.p.length d7, .slice B8 ch.q.length d8, .slice B9 sta.length d9]))])∧Frz F2 F5 w8 w') ?_ ?_
  ·intro K hK
   refine so ?_
   cases lf
   ·refine aF (so ?_)
    exact Kd [1,4] hK ⟨F2,A1,c1,rfl,hp,mv⟩
   ·refine aT (so ?_)
    refine Ce (nChgB_ok (x:=ch) ⟨hI.change,_,_,_,_,_,_,rfl,h6.tn,h7.tn,h8.tn⟩) ?_
    rintro _ w9 ⟨A9,c9,rfl,ho,E9⟩
    obtain ⟨F3,hp,s3,n3,l3⟩:=hp.frz E9
    have hc9:(chS ch).1.length≤2170:=by
     unfold chS
     split
     ·rename_i h;exact changeE_len (change_fine h)
     ·exact Nat.zero_le _
    have ho9:GS byteR F3 w9 A9 c9 (chS ch).1:=ho.bs.frz n3
    refine so ?_
    refine Cw (iStr_ok (b:=(chS ch).1) (e:=(chS ch).2) (most:=65536) hp ho9 (by simp only [List.length_nil] at L1 L2 L3 L4 L5 L6;omega)) fun v A9 c9 w10 hp F10=>so ?_
    exact Kd [1,4] hK ⟨F3,A9,c9,rfl,hp,mv⟩
  ·rintro _ w9 ⟨F5, A9, c9, rfl, hp, F9⟩
   have L7:=optW_len t6 lf ch
   generalize e7:optW t6 lf ch=t7 at hp L7
   have s59:=F9.sub
   have hat8:AtF F2 w8 ⟨g4,0,none⟩ [pt go 0]:=hat.to
   have hat9:=hat8.to F9
   have F89:Frz (fun b=>b<w.heap.size) F5 w w9:=mv
   refine so ?_
   refine Cw (iStr_ok (b:=sta) (e:=0) (most:=4096) hp (h9.tn F89) (by simp only [List.length_nil] at L1 L2 L3 L4 L5 L6;omega)) fun v A9 c9 w10 hp F10=> ?_
   generalize e8:strW (t7.1,t7.2) sta 0 4096=t8 at hp
   have hat10:AtF F5 w10 ⟨g4,0,none⟩ [pt go 0]:=hat9.to F10
   have er:rplW ([],b) ⟨grp,ep,fl,nd,im,lf,ch,sta⟩=t8:=by subst e1 e2 e3 e4 e5 e6 e7 e8;rfl
   rw [er]
   obtain ⟨o8,b8⟩:=t8
   refine so ?_
   cases b8
   ·refine so ?_
    refine aF (so ?_)
    refine P2 results10 ?_
    exact ⟨_,rfl,A9,c9,rfl,hp.rowLo (i:=1) rfl,hp.chg⟩
   ·refine so ?_
    refine aT (so ?_)
    refine P2 results10 ?_
    exact ⟨_,rfl,_,_,rfl,OwnRow.nil _ _ _ _ _,hp.chg⟩
theorem iCheck_ok {w:World} {cs:List Value} {r:Rpl} {S:Nat→Prop} (hr:rplR.rd S w cs r) (hn: ∀y∈r.nodes,i64 y) (hz:sizeR r≤1000000000000):Ret prog 14 #[.agg cs.toArray] w (fun v w'=>v= .int .i64 (bytesS r).2∧Ext w w'):=by
 have hl:=rplR.len hr
 have h0:rplR.rd (fun b=>b<w.heap.size) w cs r:=rplR.mono (fun b hb _=>hb) hr
 obtain ⟨hI,B0,d0,B1,d1,B2,d2,B3,d3,B4,d4,B5,d5,B6,d6,B7,d7,B8,d8,B9,d9,rfl,_⟩:=hr
 refine ret_of_wk func14 rfl ntmps14 leB_ ?_
 have hp:=HP.begin_ w
 refine so ?_
 refine Bx hp (h:=fun g1 w1 hp E1=>so ?_)
 refine Ce (iBytes_ok (rdTo h0) hn hz) ?_
 rintro _ w2 ⟨A,c,rfl,ho,E2⟩
 refine so ?_
 refine Pt ?_
 exact ⟨_,rfl,rfl,me⟩
set_option maxHeartbeats 2000000 in
theorem tChange_ok {w0 w:World} {M0 Fz:Nat→Prop} {H:List It} {A:Option Addr} {c:Nat} {gt:Nat} {l:List UInt8} {bad:Bool} (hp:HP w0 M0 Fz w (itB gt 94 [.slice A l.length c, .bool bad]::H)) (hl:GS byteR Fz w A c l):Ret prog 53 #[pt gt 0] w (TkP gt w0 M0 Fz w H aggV changeR chgTP bad l):=by
 refine ret_of_wk func53 rfl ntmps53 leB_ ?_
 refine so ?_
 refine Alo hp (h:=fun g2 w1 hp E1=> ?_)
 replace hp:=hp.swp.as_ (H':=itB gt 94 [.slice A l.length c, .bool bad]::itB g2 35 [.int .i64 0, .int .i64 0, .int .i64 0, .slice none 0 0, .slice none 0 0, .slice none 0 0]::H) rfl
 refine so ?_
 refine Ce (tStr_ok (most:=65536) (by decide) hp (hl.ext E1)) ?_
 rintro _ w2 ⟨F2,A2,c2,l2,b2,B2,d2,s,rfl,hp,F3,hg,hs,_,hsl,hst⟩
 refine so ?_
 refine Ce (takeNum_ok hs) ?_
 rintro _ w3 ⟨B3,d3,rfl,_,E3⟩
 replace hp:=hp.ext E3
 refine so ?_
 refine Cd ?_ ?_<;>intro he<;>refine so ?_
 ·refine H1 0 hp (h := fun w4 hp C4 => so ?_)
  refine wl_builtS (ps:= []) (by decide) bld35 rfl rfl ?_
  refine Hs 1 hp (h:=fun w5 hp C5=>so ?_)
  refine wk_postR (rs:= [.cell 2 35]) (.inl rfl) results53 ⟨_,_,_,rfl,rfl,loadVar_agg ag35 (hp.blkAt (i:=1) rfl).at0 rfl,rfl⟩ ?_
  exact ⟨_,rfl,F2,A2,c2,l2,true,_,change0,rfl,hp.swp.tail,mv,hg.to,⟨ChnI0,none,0,none,0,none,0,rfl,GS.nil _ _ _ _ _,GS.nil _ _ _ _ _,GS.nil _ _ _ _ _⟩,step_chg hst (fun h=>by cases h) (fun _=> .inr (chgT_num he))⟩
 have he0:(takeS s).2.2=0:=by omega
 have hnum:=takeS_num he0
 refine wl_builtS (ps:= [(0, .const (.int .i64 7)),(1, .tmp 27),(2, .const (.int .i64 0)),(3, .const (.int .i64 0))]) (by decide) bld150 rfl rfl ?_
 replace hp:=(hp.noRow 5 1).as_ (H':=itR 5 1 none ([]:List UInt8).length 0 (([]:List UInt8).map bv)::_) rfl
 refine so ?_
 refine Lp [0,2,3,7,28,29] (fun L' w' mes=> ∃(k:Nat) (A7:Option Addr) (c7:Nat),L'= [(0,pt gt 0),(2,pt g2 0),(3, .slice B2 s.length d2),(7, .slice A7 (catE numE [] ([7,(takeS s).1,0,0]:List Int) k).length c7),(28, .agg [iv 7,iv (takeS s).1,iv 0,iv 0].toArray),(29,iv (k:Int))]∧k≤4∧Frz F2 F2 w3 w'∧HP w0 M0 F2 w' (itR 5 1 A7 (catE numE [] ([7,(takeS s).1,0,0]:List Int) k).length c7 ((catE numE [] ([7,(takeS s).1,0,0]:List Int) k).map bv)::itB gt 94 [.slice A2 l2.length c2, .bool b2]::itB g2 35 [.int .i64 0, .int .i64 0, .int .i64 0, .slice none 0 0, .slice none 0 0, .slice none 0 0]::H)∧4-k=mes) (4-0) ⟨0,none,0,rfl,by omega,Frz.start _ _,hp,rfl⟩ ?_
 rintro _ wr _ ⟨k,A7,c7,rfl,hk,F23,hp,rfl⟩ KL hKL
 refine so ?_
 refine Cd ?_ ?_<;>intro hc
 ·have hk9 : k < 4 := by omega
  have hnk:=four_num (node:=(takeS s).1) hnum k hk9
  have hi:=hnk
  unfold isNum at hi
  refine so ?_
  refine wl_indexV (by decide) (show arB prog 150 4 3 1=true by kernel_rfl) (ScC.h (P:=prog) (t:=3)) rfl rfl k rfl hk9 (four _ k hk9) ?_
  refine so ?_
  refine Ce (num_ok (n:=([7,(takeS s).1,0,0]:List Int).getD k 0) (by omega) (by omega)) ?_
  rintro _ w5 ⟨A8,c8,rfl,ho,E5⟩
  replace hp:=hp.ext E5
  rw [numS_is hnk] at ho⊢
  refine so ?_
  have hlen:=catE_le numE [] ([7,(takeS s).1,0,0]:List Int) k
  have hlf:=flatE_len numE ([7,(takeS s).1,0,0]:List Int) 8 (fun y hy=>by
   simp only [List.mem_cons,List.not_mem_nil,or_false] at hy
   rcases hy with rfl|rfl|rfl|rfl<;>first|exact numE_len hnum|exact numE_len (by unfold isNum;decide))
  have hle:=numE_len hnk
  simp only [List.length_cons,List.length_nil] at hlen hlf
  refine Ar (l2:=numE (([7,(takeS s).1,0,0]:List Int).getD k 0)) hp ho.bs (by omega) fun A9 c9 w6 hp C6=>so ?_
  have e:=catE_s (E:=numE) (o:= []) (l:=([7,(takeS s).1,0,0]:List Int)) 0 (show k<([7,(takeS s).1,0,0]:List Int).length from hk9)
  refine Kl [0,2,3,7,28,29] hKL (4-(k+1)) ⟨k+1,A9,c9,by rw [e];rfl,hk9,mv,by rw [e];exact hp,rfl⟩ (by omega)
 obtain rfl:k=4:=by omega
 have hlf:=flatE_len numE ([7,(takeS s).1,0,0]:List Int) 8 (fun y hy=>by
  simp only [List.mem_cons,List.not_mem_nil,or_false] at hy
  rcases hy with rfl|rfl|rfl|rfl<;>first|exact numE_len hnum|exact numE_len (by unfold isNum;decide))
 have eh:catE numE [] ([7,(takeS s).1,0,0]:List Int) 4=flatE numE [7,(takeS s).1,0,0]:=(catE_all numE [] _).trans (List.nil_append _)
 have hsm:=hs.mx
 have hs4:GS byteR F2 wr B2 d2 s:=(hs.ext E3).to F23
 have hg4:GS byteR F2 wr A2 c2 l2:=(hg.ext E3).to F23
 simp only [List.length_cons,List.length_nil] at hlf
 refine so ?_
 refine Ar (l2:=s) hp hs4 (by rw [eh];omega) fun A9 c9 w6 hp C6=>so ?_
 have hrow:=hp.rowAt (i:=0) rfl
 replace hp:=hp.frzRowN
 have s29: ∀b,F2 b→F2 b∨(c9≠0∧blk A9 b):=fun b h=> .inl h
 refine Ce (nUnpack_ok hp (OwnRow.gsF (he:=fun _=>rfl) hrow (fun b h1 h2=> .inr ⟨h1,h2⟩))) ?_
 rintro _ w7 ⟨F7,cs,x,e,rfl,hp,F67,hx,hux⟩
 rw [eh,headQe] at hux
 obtain ⟨hI,X0,y0,X1,y1,X2,y2,X3,y3,X4,y4,X5,y5,X6,y6,X7,y7,X8,y8,X9,y9,X10,y10,rfl,hx0,hx1,hx2,hx3,hx4,hx5,hx6,hx7,hx8,hx9,hx10⟩:=hx
 have hct:=chgT_is he0 hux
 refine so ?_
 refine Alo hp (h:=fun g3 w8 hp E8=> ?_)
 refine Hs 0 hp (h:=fun w9 hp C9=>so ?_)
 cases b2
 ·refine so ?_
  refine H1 1 hp (h:=fun w10 hp C10=>so ?_)
  refine Hs 2 hp (h:=fun w11 hp C11=>so ?_)
  refine wk_postR (rs:= [.cell 2 35]) (.inl rfl) results53 ⟨_,_,_,rfl,rfl,loadVar_agg ag35 (hp.blkAt (i:=2) rfl).at0 rfl,rfl⟩ ?_
  exact ⟨_,rfl,F7,A2,c2,l2,_,_,x.change,rfl,hp.tail.swp.tail,mv,hg4.to,⟨hI.change,_,_,_,_,_,_,rfl,hx3.to,hx4.to,hx5.to⟩,step_chg hst (fun h=>⟨rfl,by rw [hct,if_pos (by simpa using h)]⟩) (fun h=> .inr (by rw [hct,if_neg (by simpa using h)]))⟩
 ·refine so ?_
  refine H1 1 hp (h:=fun w10 hp C10=>so ?_)
  refine Hs 2 hp (h:=fun w11 hp C11=>so ?_)
  refine wk_postR (rs:= [.cell 2 35]) (.inl rfl) results53 ⟨_,_,_,rfl,rfl,loadVar_agg ag35 (hp.blkAt (i:=2) rfl).at0 rfl,rfl⟩ ?_
  exact ⟨_,rfl,F7,A2,c2,l2,_,_,x.change,rfl,hp.tail.swp.tail,mv,hg4.to,⟨hI.change,_,_,_,_,_,_,rfl,hx3.to,hx4.to,hx5.to⟩,step_chg hst (fun h=>by cases h) (fun _=> .inl rfl)⟩
set_option maxHeartbeats 8000000 in
theorem iParse_ok {w0 w:World} {M0 Fz:Nat→Prop} {H:List It} {A:Option Addr} {c:Nat} {l:List UInt8} (hp:HP w0 M0 Fz w H) (hl:GS byteR Fz w A c l):Ret prog 18 #[.slice A l.length c] w (fun v w2=> ∃F2 cs x e,v= .tuple #[.agg (cs:List Value).toArray, .int .i64 e]∧HP w0 M0 F2 w2 H∧Frz Fz F2 w w2∧rplR.rd F2 w2 cs x∧(x,e)=Go.Eng.parseS l):=by
 refine ret_of_wk func18 rfl ntmps18 leB_ ?_
 refine so ?_
 refine Alo hp (h:=fun g2 w1 hp E1=> ?_)
 refine so ?_
 refine wl_builtS (ps:= [(0, .tmp 6)]) (by decide) bld94 rfl rfl ?_
 refine Bx hp (h:=fun g3 w2 hp E2=> ?_)
 refine so ?_
 refine Alo hp (h:=fun g4 w3 hp E3=> ?_)
 refine Hs 0 hp (h:=fun w4 hp C4=> ?_)
 obtain ⟨F4,hp,s4,hat⟩:=hp.frzBlk
 have hl4:GS byteR F4 w4 A c l:=hl.to
 have f4:Frz Fz F4 w w4:=mv
 refine so ?_
 refine Alo hp (h:=fun g5 w5 hp E5=> ?_)
 replace hp:=hp.swp.as_ (H':=itB g3 94 [.slice A l.length c, .bool false]::itB g5 38 rp0C::itB g2 38 rp0C::H) rfl
 refine so ?_
 refine Ce (tNum_ok (most:=2) hp (hl4.ext E5)) ?_
 rintro _ w6 ⟨F6,A6,c6,l6,b6,n6,rfl,hp,f6,hg,hn6,hs6⟩
 refine so ?_
 refine H1 1 hp (h:=fun w7 hp C7=> ?_)
 replace hp:=hp.as_ (H':=itB g3 94 [.slice A6 l6.length c6, .bool b6]::itB g5 38 (rpC n6 0 0 s0 im0C (.bool false) ch0C s0)::itB g2 38 rp0C::H) rfl
 have hat7:=(hat.ext E5).to f6
 have hat7:AtF F6 w7 ⟨g4,0,none⟩ [pt g3 0]:=hat7.to
 refine so ?_
 refine Ce (tNum_ok (most:=1048576) hp hg.to) ?_
 rintro _ w8 ⟨F8,A8,c8,l8,b8,n8,rfl,hp,f8,hg,hn8,hs8⟩
 refine so ?_
 refine H1 1 hp (h:=fun w9 hp C9=> ?_)
 replace hp:=hp.as_ (H':=itB g3 94 [.slice A8 l8.length c8, .bool b8]::itB g5 38 (rpC n6 n8 0 s0 im0C (.bool false) ch0C s0)::itB g2 38 rp0C::H) rfl
 have hat9:AtF F8 w9 ⟨g4,0,none⟩ [pt g3 0]:=(hat7.to f8).to
 refine so ?_
 refine Ce (tNum_ok (most:=2) hp hg.to) ?_
 rintro _ w10 ⟨F10,A10,c10,l10,b10,n10,rfl,hp,f10,hg,hn10,hs10⟩
 refine so ?_
 refine H1 1 hp (h:=fun w11 hp C11=> ?_)
 replace hp:=hp.as_ (H':=itB g3 94 [.slice A10 l10.length c10, .bool b10]::itB g5 38 (rpC n6 n8 n10 s0 im0C (.bool false) ch0C s0)::itB g2 38 rp0C::H) rfl
 have hat11:AtF F10 w11 ⟨g4,0,none⟩ [pt g3 0]:=(hat9.to f10).to
 refine so ?_
 refine Ce (tAllI_ok (most:=7) (FV:= .func (.func 50) ([]:List Value).toArray [pt g4 0].toArray) (by decide) hp hg.to (fun w1 F1 H1 A1 c1 l1 b1 hF1 hp1 hl1=>RetV.func (first:= []) (cap:= [pt g4 0]) (vs:= []) (ClC.h (P:=prog) (f:=50)) (iParse1_ok hp1 hl1 (hat11.to hF1)))) ?_
 rintro _ w12 ⟨F12,A12,c12,l12,b12,B12,d12,x12,rfl,hp,f12,hg,hx12,hs12⟩
 refine so ?_
 refine H1 1 hp (h:=fun w13 hp C13=> ?_)
 replace hp:=hp.as_ (H':=itB g3 94 [.slice A12 l12.length c12, .bool b12]::itB g5 38 (rpC n6 n8 n10 (.slice B12 x12.length d12) im0C (.bool false) ch0C s0)::itB g2 38 rp0C::H) rfl
 have hat13:AtF F12 w13 ⟨g4,0,none⟩ [pt g3 0]:=(hat11.to f12).to
 refine so ?_
 refine Ce (tNormal_ok hp hg.to) ?_
 rintro _ w14 ⟨F14,A14,c14,l14,b14,cs,x14,rfl,hp,f14,hg,hrd14,hs14⟩
 obtain ⟨hI14,B0,d0,B1,d1,B2,d2,B3,d3,B4,d4,rfl,h0,h1,h2,h3,h4⟩:=hrd14
 refine so ?_
 refine Hs 1 hp (h:=fun w15 hp C15=> ?_)
 replace hp:=hp.as_ (H':=itB g3 94 [.slice A14 l14.length c14, .bool b14]::itB g5 38 (rpC n6 n8 n10 (.slice B12 x12.length d12) (imC x14.view x14.active x14.low.seq x14.low.dig (.slice B0 x14.own.length d0) (.slice B1 x14.p.length d1) (.slice B2 x14.q.length d2) (iv x14.ran) (.slice B3 x14.done.length d3) (.bool x14.ended) (.slice B4 x14.batches.length d4)) (.bool false) ch0C s0)::itB g2 38 rp0C::H) rfl
 have hat15:AtF F14 w15 ⟨g4,0,none⟩ [pt g3 0]:=(hat13.to f14).to
 refine sl ?_
 refine wc_seq_cut (fun L' w'=> ∃(F5:Nat→Prop) (A9:Option Addr) (c9:Nat) (l9:List UInt8) (b9 lf:Bool) (x:Chn) (B5:Option Addr) (d5:Nat) (B6:Option Addr) (d6:Nat) (B7:Option Addr) (d7:Nat),L'= [(2,pt g2 0),(3, .int .i64 0),(4,pt g4 0),(5,pt g5 0)]∧HP w0 M0 F5 w' (itB g3 94 [.slice A9 l9.length c9, .bool b9]::itB g5 38 (rpC n6 n8 n10 (.slice B12 x12.length d12) (imC x14.view x14.active x14.low.seq x14.low.dig (.slice B0 x14.own.length d0) (.slice B1 x14.p.length d1) (.slice B2 x14.q.length d2) (iv x14.ran) (.slice B3 x14.done.length d3) (.bool x14.ended) (.slice B4 x14.batches.length d4)) (.bool lf) [iv x.node,iv x.view,iv x.low, .slice B5 x.marks.length d5, .slice B6 x.p.length d6, .slice B7 x.q.length d7] s0)::itB g2 38 rp0C::H)∧Frz F14 F5 w15 w'∧GS byteR F5 w' A9 c9 l9∧ChnI x∧GS markR F5 w' B5 d5 x.marks∧GS standR F5 w' B6 d6 x.p∧GS standR F5 w' B7 d7 x.q∧∃s1,StepP yesP (rst b14 l14) s1 lf∧StepP (optP lf) s1 (rst b9 l9) x) ?_ ?_
 ·intro K hK
  refine so ?_
  refine Ce (tYes_ok hp hg.to) ?_
  rintro _ w16 ⟨F16,A16,c16,l16,b16,lf,rfl,hp,f16,hg,hs16⟩
  refine so ?_
  refine H1 1 hp (h:=fun w17 hp C17=> ?_)
  replace hp:=hp.as_ (H':=itB g3 94 [.slice A16 l16.length c16, .bool b16]::itB g5 38 (rpC n6 n8 n10 (.slice B12 x12.length d12) (imC x14.view x14.active x14.low.seq x14.low.dig (.slice B0 x14.own.length d0) (.slice B1 x14.p.length d1) (.slice B2 x14.q.length d2) (iv x14.ran) (.slice B3 x14.done.length d3) (.bool x14.ended) (.slice B4 x14.batches.length d4)) (.bool lf) ch0C s0)::itB g2 38 rp0C::H) rfl
  have hat17:AtF F16 w17 ⟨g4,0,none⟩ [pt g3 0]:=(hat15.to f16).to
  refine so ?_
  cases lf
  ·refine aF (so ?_)
   exact Kd [2,3,4,5] hK ⟨F16,A16,c16,l16,b16,false,change0,none,0,none,0,none,0,rfl,hp,mv,hg.to,ChnI0,GS.nil _ _ _ _ _,GS.nil _ _ _ _ _,GS.nil _ _ _ _ _,_,hs16,StepP.pure _ _⟩
  ·refine aT (so ?_)
   refine Ce (tChange_ok hp hg.to) ?_
   rintro _ w18 ⟨F18,A18,c18,l18,b18,cs,x18,rfl,hp,f18,hg,hrd18,hs18⟩
   obtain ⟨hI18,B5,d5,B6,d6,B7,d7,rfl,h5,h6,h7⟩:=hrd18
   refine so ?_
   refine Hs 1 hp (h:=fun w19 hp C19=> ?_)
   replace hp:=hp.as_ (H':=itB g3 94 [.slice A18 l18.length c18, .bool b18]::itB g5 38 (rpC n6 n8 n10 (.slice B12 x12.length d12) (imC x14.view x14.active x14.low.seq x14.low.dig (.slice B0 x14.own.length d0) (.slice B1 x14.p.length d1) (.slice B2 x14.q.length d2) (iv x14.ran) (.slice B3 x14.done.length d3) (.bool x14.ended) (.slice B4 x14.batches.length d4)) (.bool true) [iv x18.node,iv x18.view,iv x18.low, .slice B5 x18.marks.length d5, .slice B6 x18.p.length d6, .slice B7 x18.q.length d7] s0)::itB g2 38 rp0C::H) rfl
   refine so ?_
   exact Kd [2,3,4,5] hK ⟨F18,A18,c18,l18,b18,true,x18,B5,d5,B6,d6,B7,d7,rfl,hp,mv,hg.to,hI18,h5.to,h6.to,h7.to,_,hs16,hs18⟩
 ·rintro _ w16 ⟨F16, A16, c16, l16, b16, lf, x, B5, d5, B6, d6, B7, d7, rfl, hp, f16, hg, hI, h5, h6, h7, s1, hsl, hsx⟩
  have hat16:=hat15.to f16
  refine so ?_
  refine Ce (tStr_ok (most:=4096) (by decide) hp hg) ?_
  rintro _ w18 ⟨F18,A18,c18,l18,b18,B18,d18,x18,rfl,hp,f18,hg,hx18,_,_,hs18⟩
  refine so ?_
  refine H1 1 hp (h:=fun w19 hp C19=> ?_)
  replace hp:=hp.as_ (H':=itB g3 94 [.slice A18 l18.length c18, .bool b18]::itB g5 38 (rpC n6 n8 n10 (.slice B12 x12.length d12) (imC x14.view x14.active x14.low.seq x14.low.dig (.slice B0 x14.own.length d0) (.slice B1 x14.p.length d1) (.slice B2 x14.q.length d2) (iv x14.ran) (.slice B3 x14.done.length d3) (.bool x14.ended) (.slice B4 x14.batches.length d4)) (.bool lf) [iv x.node,iv x.view,iv x.low, .slice B5 x.marks.length d5, .slice B6 x.p.length d6, .slice B7 x.q.length d7] (.slice B18 x18.length d18))::itB g2 38 rp0C::H) rfl
  have hat19:AtF F18 w19 ⟨g4,0,none⟩ [pt g3 0]:=(hat16.to f18).to
  have fE:Frz Fz F18 w w19:=mv
  have hstep:StepP rplP (some l) (rst b18 l18) ⟨n6,n8,n10,x12,x14,lf,x,x18⟩:=hs6.bind (hs8.bind (hs10.bind (hs12.bind (hs14.bind (hsl.bind (hsx.bind (hs18.bind (StepP.pure _ _))))))))
  have hrd:rplR.rd F18 w19 (rpC n6 n8 n10 (.slice B12 x12.length d12) (imC x14.view x14.active x14.low.seq x14.low.dig (.slice B0 x14.own.length d0) (.slice B1 x14.p.length d1) (.slice B2 x14.q.length d2) (iv x14.ran) (.slice B3 x14.done.length d3) (.bool x14.ended) (.slice B4 x14.batches.length d4)) (.bool lf) [iv x.node,iv x.view,iv x.low, .slice B5 x.marks.length d5, .slice B6 x.p.length d6, .slice B7 x.q.length d7] (.slice B18 x18.length d18)) ⟨n6,n8,n10,x12,x14,lf,x,x18⟩:=by
   refine ⟨?_,_,_,_,_,_,_,_,_,_,_,_,_,_,_,_,_,_,_,_,_,rfl,hx12.to,h0.to,h1.to,h2.to,h3.to,h4.to,h5.to,h6.to,h7.to,hx18.to⟩
   unfold ChnI i64 at hI
   unfold ImgI i64 at hI14
   unfold RplI i64
   dsimp only
   omega
  cases b18
  ·refine so ?_
   by_cases hz:l18= []
   ·subst hz
    have hpl:rplP l=some (⟨n6,n8,n10,x12,x14,lf,x,x18⟩, []):=hstep
    have hok:=rpl_small (rpl_cod.back _ _ _ hpl).2
    refine wl_re (k:=50) (v:= .bool false) rfl rfl ?_
    refine so ?_
    refine Ce (iCheck_ok hrd hok.1 hok.2) ?_
    rintro _ w20 ⟨rfl,E20⟩
    replace hp:=hp.ext E20
    have hpi:=parse_is hpl
    by_cases hb:(bytesS (⟨n6,n8,n10,x12,x14,lf,x,x18⟩:Rpl)).2=0
    ·rw [if_pos hb] at hpi
     refine wl_re (k:=52) (v:= .int .i64 0) rfl (congrArg (Value.int .i64) hb) ?_
     refine so ?_
     refine aF (so ?_)
     refine Hs 2 hp (h:=fun w22 hp C22=>so ?_)
     refine wk_postR (rs:= [.cell 2 38, .tmp 3]) (.inl rfl) results18 ⟨_,_,_,rfl,rfl,loadVar_agg ag38 (hp.blkAt (i:=2) rfl).at0 rfl,⟨_,_,rfl,rfl,rfl⟩⟩ ?_
     exact ⟨_,rfl,F18,(rpC n6 n8 n10 (.slice B12 x12.length d12) (imC x14.view x14.active x14.low.seq x14.low.dig (.slice B0 x14.own.length d0) (.slice B1 x14.p.length d1) (.slice B2 x14.q.length d2) (iv x14.ran) (.slice B3 x14.done.length d3) (.bool x14.ended) (.slice B4 x14.batches.length d4)) (.bool lf) [iv x.node,iv x.view,iv x.low, .slice B5 x.marks.length d5, .slice B6 x.p.length d6, .slice B7 x.q.length d7] (.slice B18 x18.length d18)),⟨n6,n8,n10,x12,x14,lf,x,x18⟩,0,rfl,hp.tail.tail.tail,mv,rdTo hrd mv,hpi.symm⟩
    ·rw [if_neg hb] at hpi
     have hb2:(bytesS (⟨n6,n8,n10,x12,x14,lf,x,x18⟩:Rpl)).2=2:=by
      unfold bytesS at hb⊢
      split
      ·rename_i h
       rw [if_pos h] at hb
       exact absurd rfl hb
      ·rfl
     refine wl_re (k:=52) (v:= .int .i64 2) rfl (congrArg (Value.int .i64) hb2) ?_
     refine so ?_
     refine aT (so ?_)
     refine wl_builtS (ps:= []) (by decide) bld38 rfl rfl ?_
     refine Hs 2 hp (h:=fun w22 hp C22=>so ?_)
     refine wk_postR (rs:= [.cell 2 38, .tmp 3]) (.inl rfl) results18 ⟨_,_,_,rfl,rfl,loadVar_agg ag38 (hp.blkAt (i:=2) rfl).at0 rfl,⟨_,_,rfl,rfl,rfl⟩⟩ ?_
     exact ⟨_,rfl,F18,rp0C,rpl0,4,rfl,hp.tail.tail.tail,mv,rp0_rd _ _,hpi.symm⟩
   ·refine wl_re (k := 50) (v := .bool true) rfl (congrArg Value.bool (decide_eq_true (by have := List.length_pos_iff.2 hz; omega))) ?_
    refine so ?_
    refine aT (so ?_)
    refine wl_builtS (ps:= []) (by decide) bld38 rfl rfl ?_
    refine Hs 2 hp (h:=fun w22 hp C22=>so ?_)
    refine wk_postR (rs:= [.cell 2 38, .tmp 3]) (.inl rfl) results18 ⟨_,_,_,rfl,rfl,loadVar_agg ag38 (hp.blkAt (i:=2) rfl).at0 rfl,⟨_,_,rfl,rfl,rfl⟩⟩ ?_
    exact ⟨_,rfl,F18,rp0C,rpl0,4,rfl,hp.tail.tail.tail,mv,rp0_rd _ _,(parse_isM (l:=l) (t:=l18) hstep hz).symm⟩
  ·refine so ?_
   refine aT (so ?_)
   refine wl_builtS (ps:= []) (by decide) bld38 rfl rfl ?_
   refine Hs 2 hp (h:=fun w22 hp C22=>so ?_)
   refine wk_postR (rs:= [.cell 2 38, .tmp 3]) (.inl rfl) results18 ⟨_,_,_,rfl,rfl,loadVar_agg ag38 (hp.blkAt (i:=2) rfl).at0 rfl,⟨_,_,rfl,rfl,rfl⟩⟩ ?_
   exact ⟨_,rfl,F18,rp0C,rpl0,4,rfl,hp.tail.tail.tail,mv,rp0_rd _ _,(parse_isN (l:=l) hstep).symm⟩
set_option maxHeartbeats 4000000 in
theorem lFull_ok {w0 w:World} {M0 Fz:Nat→Prop} {H:List It} (hp:HP w0 M0 Fz w H):Ret prog 25 #[] w (fun v w2=> ∃F2 cs,v= .agg (cs:List Value).toArray∧HP w0 M0 F2 w2 H∧Frz Fz F2 w w2∧rplR.rd F2 w2 cs full0):=by
 refine ret_of_wk func25 rfl ntmps25 leB_ ?_
 refine so ?_
 refine Alo hp (h:=fun g0 w1 hp E1=> ?_)
 refine so ?_
 refine Ce (newBook_ok hp) ?_
 rintro _ w2 ⟨gb,rfl,hp,E2⟩
 refine Ce (lWishi_ok hp) ?_
 rintro _ w3 ⟨F3,A3,c3,rfl,hp,E3,h3⟩
 refine Ce (bdig_ok hp h3 bok1) ?_
 rintro _ w4 ⟨rfl,F4,cb,hp4,E4⟩
 have hp:=hp4.tail
 clear hp4
 have hD:full0=full1 (shaV (blistE [wshi])):=rfl
 generalize full0=fl at hD⊢
 generalize shaV (blistE [wshi])=D at hD⊢
 subst hD
 refine so ?_
 refine Alo hp (h:=fun g1 w5 hp E5=> ?_)
 refine Hs 0 hp (ds:=digC D) (h:=fun w6 hp C6=> ?_)
 obtain ⟨z0,hz0,hp⟩: ∃z0:List Value,z0.length=54∧HP w0 M0 F4 w6 (itB g1 26 (digC D)::itB g0 47 z0::H):=⟨_,rfl,hp⟩
 have f6:Frz Fz F4 w w6:=mv
 refine so ?_
 refine wdP 4 hp (fun wD hp hED=>by
   apply PL.op;rfl;exact wl_hloadX (digC D) (i:=0) (by decide) ag26 rfl hp rfl rfl rfl (wl_nil qp)
   apply PL.op;rfl;exact wl_builtS (ps:= [(0, .const (.int .i64 5)),(1, .tmp 12),(2, .const (.int .i64 2))]) (by decide) bld110 rfl rfl (wl_nil qp)
   apply PL.op;rfl;exact Cy (lDigi_ok (b:=1)) (fun wc hEc=>wl_nil (qpe hEc))
   apply PL.op;rfl;exact wl_builtS (ps:= [(0, .const (.int .i64 6)),(1, .tmp 14),(2, .const (.int .i64 1))]) (by decide) bld110 rfl rfl (wl_nil qp)
   exact .nil) fun w7 hp E7=> ?_
 have hs5:standR.rd F4 w7 ([.int .i64 5]++(digC D++([.int .i64 2]:List Value))) ⟨5,D,2⟩:=⟨by unfold StnI i64;dsimp only;omega,rfl⟩
 have hs6:standR.rd F4 w7 ([.int .i64 6]++(digC (dgi 1)++([.int .i64 1]:List Value))) ⟨6,dgi 1,1⟩:=⟨by unfold StnI i64;dsimp only;omega,rfl⟩
 refine wl_bsliceR (r:=standR) (css:= [_,_]) (l:=sta5 D) (xs:= [.tmp 13, .tmp 15]) (by decide) sl30 rfl rfl (RF.two hs5 hs6) rfl (by simp [sta5]) leB_ ?_
 rintro g8 w8 hg8 hs E8
 obtain ⟨F8,hp,s8,n8,_⟩:=hp.frz E8
 replace hs:=hs.mono (fun b hb h=>h.elim (fun x=>s8 b x.1) (fun e=>n8 b (by rw [e,hg8];exact Nat.le_refl _) hb))
 refine so ?_
 have f8:Frz F4 F8 w6 w8:=mv
 refine wdT 16 [SP.eq (.agg (digC (dgi 2)).toArray),SP.eq (.agg ((([.int .i64 4]:List Value)++digC (dgi 2))).toArray),SP.eq (.agg (digC (dgi 3)).toArray),SP.eq (.agg ((([.int .i64 8]:List Value)++digC (dgi 3))).toArray),SP.gsT markR w8.heap.size 45 [⟨8,dgi 3⟩],SP.eq (.slice (some ⟨g8,0,none⟩) 2 2),SP.eq (.slice (some ⟨g8,0,none⟩) 2 2),SP.eq (.agg (digC D).toArray),SP.eq (.agg ((([.int .i64 5]:List Value)++digC D)).toArray),SP.gsT markR w8.heap.size 45 [⟨5,D⟩],SP.eq (.agg (digC D).toArray),SP.gsT wishR w8.heap.size 45 [wshi],SP.rdT batR w8.heap.size 45 ⟨D, [wshi]⟩,SP.gsT batR w8.heap.size 45 [⟨D, [wshi]⟩],imgS w8.heap.size D (some ⟨g8,0,none⟩) 2,SP.nb w8.heap.size 45 (imC 0 false 0 dig0 s0 s0 s0 (iv 0) s0 (.bool false) s0)] ?_ ?_
 ·refine ⟨?_, ?_, ?_, ?_, ?_, ?_, ?_, ?_, ?_, ?_, ?_, ?_, ?_, ?_, ?_, ?_, trivial⟩ <;> intro F wF hER hk
  ·exact Cy (lDigi_ok (b:=2)) (fun wc hEc=>qz ⟨hEc,rfl⟩)
  ·have e17 := hk.qe 0
   refine wl_builtS (ps:= [(0, .const (.int .i64 4)),(1, .tmp 17)]) (by decide) bld28 (by simp only [evp,ev,e17];first|done|rfl) rfl ?_
   exact qz
  ·exact Cy (lDigi_ok (b:=3)) (fun wc hEc=>qz ⟨hEc,rfl⟩)
  ·have e19 := hk.qe 2
   refine wl_builtS (ps:= [(0, .const (.int .i64 8)),(1, .tmp 19)]) (by decide) bld28 (by simp only [evp,ev,e19];first|done|rfl) rfl ?_
   exact qz
  ·have e20 := hk.qe 3
   refine wl_bslice (size:=33) (xs:= [.tmp 20]) (vs:= [.agg (([.int .i64 8]:List Value)++digC (dgi 3)).toArray]) (by decide) sl29 rfl (by simp only [evs,ev,e20]) rfl (by intro v hv;rw [List.mem_singleton.1 hv];rfl) leB_ w8.heap.size hER.size ?_
   rintro gt wt hgt hot hEt
   exact qz ⟨hEt,_,_,rfl,OwnRow.gsRF (r:=markR) (l:= [⟨8,dgi 3⟩]) (rows:= [_]) hot (RF.one ⟨by unfold MrkI i64;dsimp only;omega,rfl⟩) (nT_row hot (by decide))⟩
  ·exact dm (hk.qi 3)
  ·exact dm (hk.qi 3)
  ·exact wl_hloadX (digC D) (i:=0) (by decide) ag26 (hk.qi 1) (hp.ext hER) rfl rfl rfl qz
  ·have e24 := hk.qe 7
   refine wl_builtS (ps:= [(0, .const (.int .i64 5)),(1, .tmp 24)]) (by decide) bld28 (by simp only [evp,ev,e24];first|done|rfl) rfl ?_
   exact qz
  ·have e25 := hk.qe 8
   refine wl_bslice (size:=33) (xs:= [.tmp 25]) (vs:= [.agg (([.int .i64 5]:List Value)++digC D).toArray]) (by decide) sl29 rfl (by simp only [evs,ev,e25]) rfl (by intro v hv;rw [List.mem_singleton.1 hv];rfl) leB_ w8.heap.size hER.size ?_
   rintro gt wt hgt hot hEt
   exact qz ⟨hEt,_,_,rfl,OwnRow.gsRF (r:=markR) (l:= [⟨5,D⟩]) (rows:= [_]) hot (RF.one ⟨by unfold MrkI i64;dsimp only;omega,rfl⟩) (nT_row hot (by decide))⟩
  ·exact wl_hloadX (digC D) (i:=0) (by decide) ag26 (hk.qi 1) (hp.ext hER) rfl rfl rfl qz
  ·refine Ce (lWishiT_ok (e := 45) (by decide) (by decide)) ?_
   rintro _ wc ⟨A5,c5,rfl,h5,hEc⟩
   exact qz ⟨hEc,A5,c5,rfl,h5.mono (fun b hb hs=>⟨Nat.le_trans hER.size hs.1,hs.2⟩)⟩
  ·have e27 := hk.qe 10
   obtain ⟨u28,e28,A5,c5,rfl,h5⟩:=hk.qp 11
   refine wl_builtS (ps:= [(0, .tmp 27),(1, .tmp 28)]) (by decide) bld86 (by simp only [evp,ev,e27,e28];first|done|rfl) rfl ?_
   exact qz ⟨Chg.refl _ _,_,rfl,A5,c5,rfl,h5⟩
  ·obtain ⟨u29, e29, cs9, rfl, A5, c5, rfl, h5⟩ := hk.qp 12
   refine wl_bslice (size:=33) (xs:= [.tmp 29]) (vs:= [.agg (digC D++([.slice A5 1 c5]:List Value)).toArray]) (by decide) sl43 rfl (by simp only [evs,ev,e29];first|done|rfl) rfl (by intro v hv;rw [List.mem_singleton.1 hv];rfl) leB_ w8.heap.size hER.size ?_
   rintro gt wt hgt hot hEt
   exact qz ⟨hEt,_,_,rfl,OwnRow.gsRF (r:=batR) (l:= [⟨D, [wshi]⟩]) (rows:= [_]) hot (RF.one ⟨A5,c5,rfl,(h5.mono (fun b hb hs=>nT_ext hEt hb hs)).ext hEt⟩) (nT_row hot (by decide))⟩
  ·have e18 := hk.qe 1
   obtain ⟨u21,e21,A1,c1,rfl,k1⟩:=hk.qp 4
   have e22:=hk.qe 5
   have e23:=hk.qe 6
   obtain ⟨u26,e26,A2,c2,rfl,k2⟩:=hk.qp 9
   obtain ⟨u30,e30,A3,c3,rfl,k3⟩:=hk.qp 13
   refine wl_builtS (ps:= [(0, .const (.int .i64 3)),(1, .const (.bool true)),(2, .tmp 18),(3, .tmp 21),(4, .tmp 22),(5, .tmp 23),(6, .const (.int .i64 5)),(7, .tmp 26),(8, .const (.bool true)),(9, .tmp 30)]) (by decide) bld45 (by simp only [evp,ev,e18,e21,e22,e23,e26,e30];first|done|rfl) rfl ?_
   exact qz ⟨Chg.refl _ _,A1,c1,A2,c2,A3,c3,rfl,k1,k2,k3⟩
  ·refine wl_alloc (by decide) ZrC.h ?_
   rintro g7 w7' hg7 hb7 hE7
   exact qz ⟨hE7,g7,rfl,by rw [hg7];exact hER.size,hb7⟩
 intro F w9 E9 hini hdo
 obtain ⟨u31,e31,A1,c1,A2,c2,A3,c3,rfl,k1,k2,k3⟩:=hdo 14 31 (Nat.lt_of_lt_of_eq (by decide) rfl) rfl
 obtain ⟨u4,e4,g4,rfl,hg4,hb4⟩:=hdo 15 4 (Nat.lt_of_lt_of_eq (by decide) rfl) rfl
 refine wl_drop [(0,_),(3,_),(4,_),(31,_)] ⟨di hini 0,di hini 3,e4,e31,trivial⟩ ?_
 clear hini hdo e31 e4
 replace hp:=hp.boxF E9 hb4 hg4
 obtain ⟨F9,hF9⟩: ∃F:Nat→Prop,F=(fun b=>F8 b∨(nT w8.heap.size 45 w9 b∧b<w9.heap.size)):=⟨_,rfl⟩
 rw [←hF9] at hp
 have s9: ∀b,F8 b→F9 b:=fun b h=>by rw [hF9];exact .inl h
 have n9: ∀b,b<w9.heap.size→nT w8.heap.size 45 w9 b→F9 b:=fun b h h2=>by rw [hF9];exact .inr ⟨h2,h⟩
 clear hF9
 replace k1:=k1.mono n9
 replace k2:=k2.mono n9
 replace k3:=k3.mono n9
 have f9:Frz F8 F9 w8 w9:=mv
 refine Hs 0 hp (xs:=imC 3 true 4 (dgi 2) (.slice A1 1 c1) (.slice (some ⟨g8,0,none⟩) 2 2) (.slice (some ⟨g8,0,none⟩) 2 2) (iv 5) (.slice A2 1 c2) (.bool true) (.slice A3 1 c3)) (ds:=imC 3 true 4 (dgi 2) (.slice A1 1 c1) (.slice (some ⟨g8,0,none⟩) 2 2) (.slice (some ⟨g8,0,none⟩) 2 2) (iv 5) (.slice A2 1 c2) (.bool true) (.slice A3 1 c3)) (hc:=⟨rfl⟩) (h:=fun w10 hp C10=> ?_)
 refine so ?_
 refine Cx hp (lDigi_ok (b:=2)) (fun w11 hp E11=> ?_)
 refine wl_builtS (ps:= [(0, .const (.int .i64 4)),(1, .tmp 32)]) (by decide) bld28 rfl rfl ?_
 refine wl_bsliceR (r:=markR) (css:= [_]) (l:= [⟨4,dgi 2⟩]) (xs:= [.tmp 33]) (by decide) sl29 rfl rfl (RF.one (Fz:=F9) (cs:=(([.int .i64 4]:List Value)++digC (dgi 2))) ⟨by unfold MrkI i64;dsimp only;omega,rfl⟩) rfl (by simp) leB_ ?_
 rintro g12 w12 hg12 k4 E12
 obtain ⟨F12,hp,s12,n12,_⟩:=hp.frz E12
 replace k4:=k4.mono (fun b hb h=>h.elim (fun x=>s12 b x.1) (fun e=>n12 b (by rw [e,hg12];exact Nat.le_refl _) hb))
 refine so ?_
 refine wl_builtS (ps:= [(0, .const (.int .i64 2)),(1, .const (.int .i64 3)),(2, .const (.int .i64 4)),(3, .tmp 34),(4, .tmp 35),(5, .tmp 36)]) (by decide) bld35 rfl rfl ?_
 refine Alo hp (h:=fun g13 w13 hp E13=> ?_)
 refine Hs 0 hp (xs:= [iv 2,iv 3,iv 4, .slice (some ⟨g12,0,none⟩) 1 1, .slice (some ⟨g8,0,none⟩) 2 2, .slice (some ⟨g8,0,none⟩) 2 2]) (hc:=⟨rfl⟩) (h:=fun w14 hp C14=> ?_)
 have f14:Frz F9 F12 w9 w14:=mv
 have k4':GS markR F12 w14 (some ⟨g12,0,none⟩) 1 [⟨4,dgi 2⟩]:=k4.to
 refine so ?_
 refine wl_bsliceE (enc:=iv) (fun _=>rfl) (xs:= [.const (.int .i64 1), .const (.int .i64 2), .const (.int .i64 3), .const (.int .i64 9)]) (bs:= [1,2,3,9]) (by decide) sl22 rfl rfl rfl leB_ w14.heap.size (Nat.le_refl _) ?_
 rintro g15 w15 hg15 ho15 E15
 obtain ⟨F15,hp,s15,n15,_⟩:=hp.frz E15
 have k0:GS intR F15 w15 (some ⟨g15,0,none⟩) 4 [1,2,3,9]:=(OwnRow.gs1 ho15).frz n15
 refine wl_builtS (ps:= [(0, .const (.int .i64 1)),(1, .tmp 38)]) (by decide) bld24 rfl rfl ?_
 refine wl_hloadX (imC 3 true 4 (dgi 2) (.slice A1 1 c1) (.slice (some ⟨g8,0,none⟩) 2 2) (.slice (some ⟨g8,0,none⟩) 2 2) (iv 5) (.slice A2 1 c2) (.bool true) (.slice A3 1 c3)) (i:=1) (by decide) ag45 rfl hp rfl rfl rfl ?_
 refine wl_hloadX [iv 2,iv 3,iv 4, .slice (some ⟨g12,0,none⟩) 1 1, .slice (some ⟨g8,0,none⟩) 2 2, .slice (some ⟨g8,0,none⟩) 2 2] (i:=0) (by decide) ag35 rfl hp rfl rfl rfl ?_
 refine wl_bytesLit (xs:= [.const (.int .u8 115), .const (.int .u8 116), .const (.int .u8 97), .const (.int .u8 116), .const (.int .u8 101)]) (bs:= [115,116,97,116,101]) (by decide) (by decide) sl36 (by kernel_rfl) rfl rfl rfl leB_ ?_
 rintro g16 w16 hg16 k9 E16
 obtain ⟨F16,hp,s16,n16,_⟩:=hp.frz E16
 replace k9:=k9.frz n16
 refine wl_builtS (ps:= [(0, .const (.int .i64 2)),(1, .const (.int .i64 7)),(2, .tmp 39),(3, .tmp 40),(4, .const (.bool true)),(5, .tmp 41),(6, .tmp 43)]) (by decide) bld47 rfl rfl ?_
 obtain ⟨z1,hp⟩: ∃z1,HP w0 M0 F16 w16 (itB g13 35 z1::itB g4 45 (imC 3 true 4 (dgi 2) (.slice A1 1 c1) (.slice (some ⟨g8,0,none⟩) 2 2) (.slice (some ⟨g8,0,none⟩) 2 2) (iv 5) (.slice A2 1 c2) (.bool true) (.slice A3 1 c3))::itB g1 26 (digC D)::itB g0 47 z0::H):=⟨_,hp⟩
 refine Hs 3 hp (xs:=(rpC 2 7 1 (.slice (some ⟨g15,0,none⟩) 4 4) (imC 3 true 4 (dgi 2) (.slice A1 1 c1) (.slice (some ⟨g8,0,none⟩) 2 2) (.slice (some ⟨g8,0,none⟩) 2 2) (iv 5) (.slice A2 1 c2) (.bool true) (.slice A3 1 c3)) (.bool true) [iv 2,iv 3,iv 4, .slice (some ⟨g12,0,none⟩) 1 1, .slice (some ⟨g8,0,none⟩) 2 2, .slice (some ⟨g8,0,none⟩) 2 2] (.slice (some ⟨g16,0,none⟩) 5 5))) (ds:=(rpC 2 7 1 (.slice (some ⟨g15,0,none⟩) 4 4) (imC 3 true 4 (dgi 2) (.slice A1 1 c1) (.slice (some ⟨g8,0,none⟩) 2 2) (.slice (some ⟨g8,0,none⟩) 2 2) (iv 5) (.slice A2 1 c2) (.bool true) (.slice A3 1 c3)) (.bool true) [iv 2,iv 3,iv 4, .slice (some ⟨g12,0,none⟩) 1 1, .slice (some ⟨g8,0,none⟩) 2 2, .slice (some ⟨g8,0,none⟩) 2 2] (.slice (some ⟨g16,0,none⟩) 5 5))) (hc:=⟨rfl⟩) (hl:=by rw [hz0];exact leB_) (hq:=putL_all (by rw [hz0];rfl)) (h:=fun w17 hp C17=>so ?_)
 refine wk_postR (rs:= [.cell 0 47]) (.inl rfl) results25 ⟨_,_,_,rfl,rfl,loadVar_agg ag47 (hp.blkAt (i:=3) rfl).at0 rfl,rfl⟩ ?_
 have q9:Frz F9 F16 w9 w17:=mv
 have q14:Frz F12 F16 w14 w17:=mv
 have q15:Frz F15 F16 w15 w17:=mv
 have q16:Frz F16 F16 w16 w17:=mv
 have q8:Frz F8 F16 w8 w17:=mv
 have hqs:=hs.to q8
 refine ⟨_,rfl,F16,_,rfl,hp.tail.tail.tail.tail,mv, ?_⟩
 exact ⟨by unfold RplI i64;simp [full1],_,_,A1,c1,_,_,_,_,A2,c2,A3,c3,_,_,_,_,_,_,_,_,rfl,k0.to q15,k1.to q9,hqs,hqs,k2.to q9,k3.to q9,k4'.to q14,hqs,hqs,k9.to q16⟩
theorem fullE {w : World} : Ret prog 25 #[] w (fun v w' => ∃ cs, v = .agg (cs : List Value).toArray ∧ ReadsU w' cs full0 ∧ Ext w w') := (lFull_ok (HP.begin_ w)).mono (by
 rintro v w' ⟨F,cs,rfl,hp,_,h⟩
 exact ⟨cs,rfl,rplR.mono (fun _ _ _=>trivial) h,hp.chg⟩)
theorem parseE {w : World} {A : Option Addr} {c : Nat} {l : List UInt8} {S : Nat → Prop} (h : GS byteR S w A c l) : Ret prog 18 #[.slice A l.length c] w (fun v w' => ∃ cs x e, v = .tuple #[.agg (cs : List Value).toArray, .int .i64 e] ∧ ReadsU w' cs x ∧ (x, e) = Go.Eng.parseS l ∧ Ext w w') := (iParse_ok (HP.begin_ w) (h.mono (fun b hb _ => hb))).mono (by
 rintro v w' ⟨F,cs,x,e,rfl,hp,_,h,he⟩
 exact ⟨cs,x,e,rfl,rplR.mono (fun _ _ _=>trivial) h,he,hp.chg⟩)
end Go.Proofs.YtmbpneaibmldfaaGreat
