/- What each of these functions computes, for every argument that its theorem names; a part of what the proof of ImageOnce stands on. -/
import Derived.Test.YtmbpneaibmldfaaGreatAac
import Derived.Test.YtmbpneaibmldfaaGreatAad
import Derived.Test.YtmbpneaibmldfaaGreatAaf
import Derived.Test.YtmbpneaibmldfaaGreatAag
import Derived.Test.YtmbpneaibmldfaaGreatAai
import Derived.Test.YtmbpneaibmldfaaGreatAaj
import Derived.Test.YtmbpneaibmldfaaGreatAak
import Derived.Test.YtmbpneaibmldfaaGreatAal
namespace Go.Proofs.YtmbpneaibmldfaaGreat
open Go.RowKit Go.Eng _root_.Go.Proofs.Tryz Go.Eng _root_.Go.Proofs.Tryz
set_option maxRecDepth 100000
variable {w0 w:World} {M0 Fz:Nat→Prop} {H:List It} {A:Option Addr} {c:Nat}
def roundV (S:List Int) (B:List UInt8):List Int:=rndB S (rndA S (sched B) 64) 8
end Go.Proofs.YtmbpneaibmldfaaGreat
namespace Go.Proofs.YtmbpneaibmldfaaGreat
open Go.RowKit Go.Eng Go.Eng _root_.Go.Proofs.Tryz
set_option maxRecDepth 100000
variable {w0 w:World} {M0 Fz:Nat→Prop} {H:List It} {A:Option Addr} {c:Nat}
set_option maxHeartbeats 40000000 in
theorem r12SameChange_ok {csa:List Value} {a:Chn} {Sa:Nat→Prop} {csb:List Value} {b:Chn} {Sb:Nat→Prop} (ha:changeR.rd Sa w csa a) (hb:changeR.rd Sb w csb b):Ret prog 47 #[.agg csa.toArray, .agg csb.toArray] w (fun v w'=>v= .bool (decide (a=b))∧Ext w w'):=by
 obtain ⟨hIa,Aa0,ca0,Aa1,ca1,Aa2,ca2,rfl,ha0,ha1,ha2⟩:=ha
 obtain ⟨hIb,Ab0,cb0,Ab1,cb1,Ab2,cb2,rfl,hb0,hb1,hb2⟩:=hb
 refine ret_of_wk func47 rfl ntmps47 leB_ ?_
 have hp:=HP.begin_ w
 refine so ?_
 refine Bx hp (h:=fun gs2 w1 hp hE1=> ?_)
 refine Bx hp (h:=fun gs3 w2 hp hE2=>so ?_)
 refine Gs 10 ?_ ?_<;>intro hg1<;>refine so ?_
 refine Gs 17 ?_ ?_<;>intro hg2<;>refine so ?_
 refine Gs 24 ?_ ?_<;>intro hg3<;>refine so ?_
 refine Cx hp (sameMarks_ok ha0.tn hb0.tn) fun w3 hp hE3=>so ?_
 refine Gs 31 ?_ ?_<;>intro hg4<;>refine so ?_
 refine Cx hp (sameStands_ok ha1.tn hb1.tn) fun w4 hp hE4=>so ?_
 refine Gs 38 ?_ ?_<;>intro hg5<;>refine so ?_
 refine Cx hp (sameStands_ok ha2.tn hb2.tn) fun w5 hp hE5=>so ?_
 refine Pt ?_
 exact ⟨_,rfl,congrArg Value.bool (decide_eq_decide.2 (by rw [Chn_eq];simp_all)),hp.chg⟩
 refine Pt ?_
 exact ⟨_,rfl,bool_f (by rw [Chn_eq];simp_all),hp.chg⟩
 refine Pt ?_
 exact ⟨_,rfl,bool_f (by rw [Chn_eq];simp_all),hp.chg⟩
 refine Pt ?_
 exact ⟨_,rfl,bool_f (by rw [Chn_eq];simp_all),hp.chg⟩
 refine Pt ?_
 exact ⟨_,rfl,bool_f (by rw [Chn_eq];simp_all),hp.chg⟩
 refine Pt ?_
 exact ⟨_,rfl,bool_f (by rw [Chn_eq];simp_all),hp.chg⟩
theorem t0_wSame_ok {p:Prop} (h:p:=by rw [Wsh_eq];(try rw [plain8_iff]);simp_all;try omega):p:=h
set_option maxHeartbeats 40000000 in
theorem wSame_ok {csa:List Value} {a:Wsh} {Sa:Nat→Prop} {csb:List Value} {b:Wsh} {Sb:Nat→Prop} (ha:wishR.rd Sa w csa a) (hb:wishR.rd Sb w csb b):Ret prog 121 #[.agg csa.toArray, .agg csb.toArray] w (fun v w'=>v= .bool (decide (a=b))∧Ext w w'):=by
 have qha:=ha
 obtain ⟨hIa,Aa0,ca0,Aa1,ca1,rfl,ha0,ha1⟩:=ha
 have qhb:=hb
 obtain ⟨hIb,Ab0,cb0,Ab1,cb1,rfl,hb0,hb1⟩:=hb
 refine ret_of_wk func121 rfl ntmps121 leB_ ?_
 have hp:=HP.begin_ w
 refine so ?_
 refine Bx hp (h:=fun gs2 w1 hp hE1=> ?_)
 refine Bx hp (h:=fun gs3 w2 hp hE2=>so ?_)
 refine Cx hp (bequal_ok ha0.tn hb0.tn) fun w3 hp hE3=>so ?_
 refine Gs 12 ?_ ?_<;>intro hg1<;>refine so ?_
 refine aT (so ?_)
 refine Pt ?_
 exact ⟨_,rfl,bool_f t0_wSame_ok,hp.chg⟩
 refine Cx hp (seqI_ok ha1.tn hb1.tn) fun w4 hp hE4=>so ?_
 refine Cd ?_ ?_<;>intro hc2<;>refine so ?_
 refine Pt ?_
 exact ⟨_,rfl,bool_f t0_wSame_ok,hp.chg⟩
 apply wdL [.eq _,.eq _,.eq _,.eq _,.eq _,.eq _,.eq _,.eq _]
 refine ⟨?_,?_,?_,?_,?_,?_,?_,?_,trivial⟩<;>intro F wF hER hk
 exact dm (hk.qi 5)
 exact Hx_ ([iv a.client,iv a.stamp,iv a.group,iv a.epoch,iv a.kind,iv a.block, .slice Aa0 a.data.length ca0,iv a.old,iv a.new, .slice Aa1 a.next.length ca1]) 1 ag112 (hk.qi 2) (hp.ext hER) rfl rfl rfl qz
 have e20:=hk.qe 0
 have e21:=hk.qe 1
 have hcl:=wsame1_ok (rdTn qha (w':=wF))
 refine wl_callv (f:=155) (first:= []) (cap:= []) (vs:= [_]) (by decide) cl155 e20 (by simp only [evs,ev,e21];first|done|rfl) hcl ?_
 clear hcl
 rintro _ w7 ⟨rfl,hE7⟩
 exact qz ⟨hE7,rfl⟩
 exact dm (hk.qi 5)
 exact Hx_ ([iv b.client,iv b.stamp,iv b.group,iv b.epoch,iv b.kind,iv b.block, .slice Ab0 b.data.length cb0,iv b.old,iv b.new, .slice Ab1 b.next.length cb1]) 0 ag112 (hk.qi 3) (hp.ext hER) rfl rfl rfl qz
 have e23:=hk.qe 3
 have e24:=hk.qe 4
 have hcl:=wsame1_ok (rdTn qhb (w':=wF))
 refine wl_callv (f:=155) (first:= []) (cap:= []) (vs:= [_]) (by decide) cl155 e23 (by simp only [evs,ev,e24];first|done|rfl) hcl ?_
 clear hcl
 rintro _ w7 ⟨rfl,hE7⟩
 exact qz ⟨hE7,rfl⟩
 have e22:=hk.qe 2
 have e25:=hk.qe 5
 exact wl_eqlK (m:=6) ((plain8 a)=(plain8 b)) (by decide) key210 eg210 e22 e25 hIa.fit hIb.fit plain8_inj qz
 exact wl_assign (by decide) (hk.qe 6) qz
 intro F wD hED hini hdo
 refine wk_drop [(4,_)] ⟨dq hdo 7,trivial⟩ ?_
 clear hini hdo
 replace hp:=hp.ext hED
 refine so ?_
 refine Pt ?_
 exact ⟨_,rfl,congrArg Value.bool (decide_eq_decide.2 t0_wSame_ok),hp.chg⟩
set_option maxHeartbeats 4000000 in
theorem fWCon_ok {Al:Option Addr} {cl:Nat} {l:List Wsh} {Sl:Nat→Prop} {fid:Nat} {first cap:List Value} {p0:Wsh→Prop} [DecidablePred p0] {w:World} (hl:GS wishR Sl w Al cl l) (hcl0:callable Tryz.prog fid=true) (hf: ∀w1 cs x,Ext w w1→wishR.rd Sl w1 cs x→Ret Tryz.prog fid (first++ [Value.agg cs.toArray]++cap).toArray w1 fun v w2=>v=Value.bool (decide (p0 x))∧Ext w1 w2):Ret Tryz.prog 220 #[.slice Al l.length cl, .func (.func fid) first.toArray cap.toArray] w (fun v w'=>v= .bool (decide (∃x∈l,p0 x))∧Ext w w'):=by
 have mhl:=hl.mx
 refine ret_of_wk Tryz.func220 rfl Tryz.ntmps220 (Nat.le_of_ble_eq_true rfl) ?_
 have hEc:Ext w w:=Chg.refl _ _
 refine wc_seq ?_
 refine wc_region ?_
 refine wl_assign (by decide) rfl ?_
 refine wl_nil ?_
 refine wk_norm ?_
 refine wc_seq ?_
 refine wc_region ?_
 refine wl_move (by decide) rfl ?_
 refine wl_move (by decide) rfl ?_
 have hcl:=fWIdx_ok hl hcl0 hf
 refine wl_call (by decide) Tryz.cl224 rfl hcl ?_
 clear hcl
 rintro _ w7 ⟨r,rfl,hr,hE7⟩
 replace hl:=hl.ext hE7
 replace hEc:=hEc.trans hE7
 refine wl_geq (by decide) rfl rfl ?_
 refine wl_assign (by decide) rfl ?_
 refine wl_nil ?_
 refine wk_norm ?_
 refine wc_ret ?_
 refine wk_post1 (.inl rfl) Tryz.results220 rfl ?_
 exact ⟨_,rfl,congrArg Value.bool (decide_eq_decide.2 hr),hEc⟩
set_option maxHeartbeats 40000000 in
theorem gListM_ok {gw:Nat} {out:List UInt8} {pa:Addr} {B:Option Addr} {d:Nat} {l:List Mrk} {E:Mrk→List UInt8} {ok:Mrk→Prop} {FV:Value} {most:Int} (hp:HP w0 M0 Fz w (itB gw 132 [.slice A out.length c]::itR 5 1 A out.length c (out.map bv)::H)) (hat:AtF Fz w pa [.slice B l.length d]) (hl:GS markR Fz w B d l) (hok: ∀x∈l,ok x) (hE:EachW prog 5 132 gw w0 M0 Fz w markR E ok FV) (hnl:isNum (l.length:Int)) (hlen:out.length+(listE E l).length≤1000000):Ret prog 130 #[.iface 130 (.pointer (some ⟨gw,0,none⟩)), .pointer (some pa), .int .i64 most,FV] w (WrP 5 132 gw w0 M0 Fz w H (out++listE E l)):=by
 have hnl2:=hnl
 unfold isNum at hnl2
 refine ret_of_wk func130 rfl ntmps130 leB_ ?_
 refine so ?_
 refine wP 9 hp (h:=fun wD hp hED=> ?_)
 refine Ci rfl (gMany_ok (v9:=iv most) hp hnl (by simp only [listE,List.length_append] at hlen⊢;omega)) ?_
 rintro _ w1 ⟨rfl,A1,c1,hp,hF1⟩
 refine so ?_
 refine Lp [1, 3, 21, 22] (fun L' w' mes => ∃ (k : Nat), ∃ (A2 : Option Addr), ∃ (c2 : Nat), L' = [(1, .pointer (some pa)), (3, FV), (21, iv (l.length : Int)), (22, iv (k : Int))] ∧ (k ≤ l.length) ∧ (Frz Fz Fz w w') ∧ (AtF Fz w' pa [.slice B l.length d]) ∧ (GS markR Fz w' B d l) ∧ (HP w0 M0 Fz w' (itB gw 132 [.slice A2 (out ++ numE (l.length : Int) ++ flatE E (l.take k)).length c2] :: itR 5 1 A2 (out ++ numE (l.length : Int) ++ flatE E (l.take k)).length c2 ((out ++ numE (l.length : Int) ++ flatE E (l.take k)).map bv) :: H)) ∧ l.length - k = mes) (l.length - 0) (by
     refine ⟨0,A1,c1,rfl,Nat.zero_le _,mv,hat.to,hl.to, ?_,rfl⟩
     simp only [List.take_zero,flatE_nil,List.append_nil];exact hp) ?_
 rintro _ wr _ ⟨k,A2,c2,rfl,hk,hFr,hat,hl,hp,rfl⟩ KL1 hKL1
 refine so ?_
 refine Cd ?_ ?_<;>intro hc1
 have hk9:k<l.length:=by omega
 refine so ?_
 refine aF (so ?_)
 obtain ⟨ax,csx,hax,hatx,hrdx⟩:=hl.el k hk9
 refine wl_idx0 (size:=33) (by decide) sl29 rfl rfl hax k rfl hk9 ?_
 have hcl:=hE _ _ _ _ _ _ _ _ hFr hp hatx hrdx (hok _ (List.getElem_mem hk9)) (flat_room (_out:=l) hk9 hlen)
 refine wl_callF (vs:= [.pointer (some (ax.add (k*33)))]) (by decide) rfl rfl (fun _ h=>by cases h) hcl ?_
 clear hcl
 rintro _ w9 ⟨A9,c9,hp,hF9⟩
 refine so ?_
 refine Kl [1,3,21,22] hKL1 (l.length-(k+1)) ⟨(k+1),A9,c9,rfl,by omega,mv,hat.to,hl.to, ?_,rfl⟩ (by omega)
 rw [flat_take E l k hk9,←List.append_assoc];exact hp
 refine so ?_
 refine wk_post0 (.inr rfl) results130 ?_
 have hkl:k=l.length:=by omega
 rw [hkl,List.take_length,List.append_assoc] at hp
 exact ⟨_,rfl,_,_,hp,hFr⟩
theorem rstr_is {A:Option Addr} {c:Nat} {b:List UInt8} {Sa:Nat→Prop} {w:World} (h:BS Sa w A c b) (hb:b.length≤65536):Ret Tryz.prog 87 #[.slice A b.length c] w (fun v w'=> ∃A c,v= .tuple #[.slice A (strE b).length c, .int .i64 0]∧OwnB 5 w.heap.size w' A c (strE b)∧Ext w w'):=by
 have h:=rstr_ok h
 rw [str_good hb] at h
 exact h
set_option maxHeartbeats 40000000 in
theorem iSameChange_ok {csa:List Value} {a:Chn} {Sa:Nat→Prop} {csb:List Value} {b:Chn} {Sb:Nat→Prop} (ha:changeR.rd Sa w csa a) (hb:changeR.rd Sb w csb b):Ret prog 28 #[.agg csa.toArray, .agg csb.toArray] w (fun v w'=>v= .bool (decide (a=b))∧Ext w w'):=by
 obtain ⟨hIa,Aa0,ca0,Aa1,ca1,Aa2,ca2,rfl,ha0,ha1,ha2⟩:=ha
 obtain ⟨hIb,Ab0,cb0,Ab1,cb1,Ab2,cb2,rfl,hb0,hb1,hb2⟩:=hb
 have mha0:=ha0.mx
 have mha1:=ha1.mx
 have mha2:=ha2.mx
 have mhb0:=hb0.mx
 have mhb1:=hb1.mx
 have mhb2:=hb2.mx
 refine ret_of_wk func28 rfl ntmps28 leB_ ?_
 have hp:=HP.begin_ w
 replace ha0:=ha0.now
 replace ha1:=ha1.now
 replace ha2:=ha2.now
 replace hb0:=hb0.now
 replace hb1:=hb1.now
 replace hb2:=hb2.now
 refine go ?_
 refine wl_hbox (by decide) rfl hp ?_
 rintro gs2 w1 hp1 hE1
 have q0:=hE1
 replace hp:=hp1
 replace hp:=hp.ay (itB gs2 35 ([iv a.node,iv a.view,iv a.low, .slice Aa0 a.marks.length ca0, .slice Aa1 a.p.length ca1, .slice Aa2 a.q.length ca2])::_)
 refine wl_hbox (by decide) rfl hp ?_
 rintro gs3 w2 hp2 hE2
 replace q0:=q0.trans hE2
 replace hp:=hp2
 replace hp:=hp.ay (itB gs3 35 ([iv b.node,iv b.view,iv b.low, .slice Ab0 b.marks.length cb0, .slice Ab1 b.p.length cb1, .slice Ab2 b.q.length cb2])::_)
 refine go ?_
 refine Fd_ 0 fld35_0 rfl rfl ?_
 refine Hl_ 1 sc3 rfl hp rfl rfl ?_
 refine Fd_ 0 fld35_0 rfl rfl ?_
 refine Hl_ 0 sc3 rfl hp rfl rfl ?_
 refine Eq_ rfl rfl (go ?_)
 refine Gs 10 (fun hg1=> ?_) fun hg1=> ?_
 refine go ?_
 refine Fd_ 1 fld35_1 rfl rfl (go ?_)
 refine Hl_ 1 sc3 rfl hp rfl rfl (go ?_)
 refine Fd_ 1 fld35_1 rfl rfl (go ?_)
 refine Hl_ 0 sc3 rfl hp rfl rfl (go ?_)
 refine Eq_ rfl rfl (go ?_)
 refine Gs 17 (fun hg2=> ?_) fun hg2=> ?_
 refine go ?_
 refine Fd_ 2 fld35_2 rfl rfl (go ?_)
 refine Hl_ 1 sc3 rfl hp rfl rfl (go ?_)
 refine Fd_ 2 fld35_2 rfl rfl (go ?_)
 refine Hl_ 0 sc3 rfl hp rfl rfl (go ?_)
 refine Eq_ rfl rfl (go ?_)
 refine Gs 24 (fun hg3=> ?_) fun hg3=> ?_
 refine go ?_
 refine Fd_ 3 fld35_3 rfl rfl (go ?_)
 refine Hl_ 1 sc29 rfl hp rfl rfl (go ?_)
 refine Fd_ 3 fld35_3 rfl rfl (go ?_)
 refine Hl_ 0 sc29 rfl hp rfl rfl (go ?_)
 have hcl:=seqM_ok (ha0.ext q0) (hb0.ext q0)
 refine Cl_ cl69 rfl hcl ?_
 clear hcl
 rintro _ w3 ⟨rfl,hE3⟩
 replace q0:=q0.trans hE3
 replace hp:=hp.ext hE3
 refine go ?_
 refine Gs 31 (fun hg4=> ?_) fun hg4=> ?_
 refine go ?_
 refine Fd_ 4 fld35_4 rfl rfl (go ?_)
 refine Hl_ 1 sc30 rfl hp rfl rfl (go ?_)
 refine Fd_ 4 fld35_4 rfl rfl (go ?_)
 refine Hl_ 0 sc30 rfl hp rfl rfl (go ?_)
 have hcl:=seqS_ok (ha1.ext q0) (hb1.ext q0)
 refine Cl_ cl70 rfl hcl ?_
 clear hcl
 rintro _ w4 ⟨rfl,hE4⟩
 replace q0:=q0.trans hE4
 replace hp:=hp.ext hE4
 refine go ?_
 refine Gs 38 (fun hg5=> ?_) fun hg5=> ?_
 refine go ?_
 refine Fd_ 5 fld35_5 rfl rfl (go ?_)
 refine Hl_ 1 sc30 rfl hp rfl rfl (go ?_)
 refine Fd_ 5 fld35_5 rfl rfl (go ?_)
 refine Hl_ 0 sc30 rfl hp rfl rfl (go ?_)
 have hcl:=seqS_ok (ha2.ext q0) (hb2.ext q0)
 refine Cl_ cl70 rfl hcl ?_
 clear hcl
 rintro _ w5 ⟨rfl,hE5⟩
 replace hp:=hp.ext hE5
 refine go ?_
 refine P1 results28 ?_
 exact ⟨_,rfl,congrArg Value.bool (decide_eq_decide.2 (by rw [Chn_eq];simp_all)),hp.chg⟩
 refine go ?_
 refine P1 results28 ?_
 exact ⟨_,rfl,bool_f (by rw [Chn_eq];simp_all),hp.chg⟩
 refine go ?_
 refine P1 results28 ?_
 exact ⟨_,rfl,bool_f (by rw [Chn_eq];simp_all),hp.chg⟩
 refine go ?_
 refine P1 results28 ?_
 exact ⟨_,rfl,bool_f (by rw [Chn_eq];simp_all),hp.chg⟩
 refine go ?_
 refine P1 results28 ?_
 exact ⟨_,rfl,bool_f (by rw [Chn_eq];simp_all),hp.chg⟩
 refine go ?_
 refine P1 results28 ?_
 exact ⟨_,rfl,bool_f (by rw [Chn_eq];simp_all),hp.chg⟩
end Go.Proofs.YtmbpneaibmldfaaGreat
namespace Go.Proofs.YtmbpneaibmldfaaGreat
open Go.RowKit Go.Eng _root_.Go.Proofs.Tryz Go.Eng _root_.Go.Proofs.Tryz
set_option maxRecDepth 100000
variable {w0 w:World} {M0 Fz:Nat→Prop} {H:List It} {A:Option Addr} {c:Nat}
theorem iStand_ok {w0 w:World} {M0 Fz:Nat→Prop} {H:List It} {A:Option Addr} {c:Nat} {go:Nat} {o:List UInt8} {bd:Bool} {x:Stn} {cs:List Value} {S:Nat→Prop} (hp:HP w0 M0 Fz w (itB go 72 [.slice A o.length c, .bool bd]::itR 5 1 A o.length c (o.map bv)::H)) (hx:standR.rd S w cs x) (hl:o.length+48≤1099511627776):Ret prog 76 #[pt go 0, .agg cs.toArray] w (WoP go w0 M0 Fz w H (standW (o,bd) x)):=by
 obtain ⟨hI,rfl⟩:=hx
 have hz:=markW_len (o,bd) ⟨x.seq,x.dig⟩
 refine ret_of_wk func76 rfl ntmps76 leB_ ?_
 refine so ?_
 refine Bx hp (h:=fun g w1 hp E1=> ?_)
 replace hp:=hp.rot3
 refine so ?_
 refine wl_builtS (ps:= [(0, .tmp 6),(1, .tmp 8)]) (by decide) bld28 rfl rfl ?_
 refine so ?_
 refine Cw (iMark_ok (x:=⟨x.seq,x.dig⟩) (S:=fun _=>True) hp ⟨hI.1,rfl⟩ (by omega)) fun v A3 c3 w4 hp F4=>so ?_
 refine Cw (iNum_ok hp hI.2 (by simp only at hz;omega)) fun v A5 c5 w5 hp F5=>so ?_
 refine wk_post0 (.inr rfl) results76 ?_
 exact ⟨_,rfl,A5,c5,hp.rot3.rot3.tail,mv⟩
end Go.Proofs.YtmbpneaibmldfaaGreat
namespace Go.Proofs.YtmbpneaibmldfaaGreat
open Go.RowKit Go.Eng Go.Eng _root_.Go.Proofs.Tryz
set_option maxRecDepth 100000
variable {w0 w:World} {M0 Fz:Nat→Prop} {H:List It} {A:Option Addr} {c:Nat}
set_option maxHeartbeats 40000000 in
theorem r15Same_ok {Aa:Option Addr} {ca:Nat} {a:List Mrk} {Sa:Nat→Prop} {Ab:Option Addr} {cb:Nat} {b:List Mrk} {Sb:Nat→Prop} (ha:GS markR Sa w Aa ca a) (hb:GS markR Sb w Ab cb b):Ret prog 117 #[.slice Aa a.length ca, .slice Ab b.length cb] w (fun v w'=>v= .bool (decide (a=b))∧Ext w w'):=by
 have mha:=ha.mx
 have mhb:=hb.mx
 refine ret_of_wk func117 rfl ntmps117 leB_ ?_
 have hEc:Ext w w:=Chg.refl _ _
 refine go ?_
 refine Ln_ underlying29 rfl (go ?_)
 refine Ln_ underlying29 rfl ?_
 refine Ne_ rfl rfl (go ?_)
 refine Cd (fun hne=> ?_) fun hne=> ?_
 refine go ?_
 refine P1 results117 ?_
 exact ⟨_,rfl,bool_f (fun e=>hne (by rw [e])),hEc⟩
 have hll:a.length=b.length:=by omega
 refine go ?_
 refine wc_loop (fun L' w' mes => ∃ (k : Nat), L' = [(0, .slice Aa a.length ca), (1, .slice Ab b.length cb), (5, iv (k : Int))] ∧ (k ≤ a.length) ∧ (a.take k = b.take k) ∧ (GS markR Sa w' Aa ca a) ∧ (GS markR Sb w' Ab cb b) ∧ (Ext w w') ∧ a.length - k = mes) [(0, .slice Aa a.length ca), (1, .slice Ab b.length cb), (5, iv (0 : Int))] (a.length - 0) (by
     refine ⟨0,rfl, ?_, ?_, ?_, ?_, ?_,rfl⟩
     · omega
     · simp
     · exact ha
     · exact hb
     · exact hEc) ⟨rfl,rfl,rfl,trivial⟩ ?_
 rintro _ wr _ ⟨k,rfl,hk,htk,ha,hb,hEc,rfl⟩ KL1 hKL1
 refine go ?_
 refine Ln_ underlying29 rfl ?_
 refine Ls_ rfl rfl (go ?_)
 refine Cd (fun hlt=> ?_) fun hlt=> ?_
 refine go ?_
 obtain ⟨aw2,hAw2,hatw2,hIw2⟩:=markR_el ha k (by omega)
 obtain ⟨aw6,hAw6,hatw6,hIw6⟩:=markR_el hb k (by omega)
 apply wdL [.eq _,.eq _,.eq _,.eq _,.eq _,.eq _,.eq _,.eq _,.eq _]
 refine ⟨?_,?_,?_,?_,?_,?_,?_,?_,?_,trivial⟩<;>intro F wF hER hk
 exact dm (hk.qi 0)
 exact dm (hk.qi 5)
 have e17:=hk.qe 0
 have e18:=hk.qe 1
 exact wl_idx0 (by decide) sl29 e17 e18 hAw2 k rfl (by omega) qz
 exact wl_loadA (by decide) ag28 (hk.qe 2) (hatw2.ext hER).at_ rfl qz
 exact dm (hk.qi 1)
 exact dm (hk.qi 5)
 have e21:=hk.qe 4
 have e22:=hk.qe 5
 exact wl_idx0 (by decide) sl29 e21 e22 hAw6 k rfl (by omega) qz
 exact wl_loadA (by decide) ag28 (hk.qe 6) (hatw6.ext hER).at_ rfl qz
 have e20:=hk.qe 3
 have e24:=hk.qe 7
 exact wl_neqK (m:=6) ((a.getD k mark0)=(b.getD k mark0)) (by decide) key28 eg28 e20 e24 hIw2.fit hIw6.fit mark_inj qz
 intro F wD hED hini hdo
 refine wk_drop [(0,_),(1,_),(5,_),(25,_)] ⟨di hini 0,di hini 1,di hini 5,dq hdo 8,trivial⟩ ?_
 clear hini hdo
 have q0:=hED
 replace hEc:=hEc.trans hED
 refine go ?_
 refine Cd (fun hne2=> ?_) fun hne2=> ?_
 refine go ?_
 refine P1 results117 ?_
 exact ⟨_,rfl,bool_f (fun e=>hne2 (by rw [e])),hEc⟩
 refine go ?_
 refine wl_add (by decide) rfl rfl (w64 (by omega) (by omega)) (gl ?_)
 refine wk_drop [(0, .slice Aa a.length ca),(1, .slice Ab b.length cb),(5,iv ((k+1):Int))] ⟨rfl,rfl,rfl,trivial⟩ (hKL1 _ _ (m2:=a.length-(k+1)) ?_ ?_)
 refine ⟨(k+1),rfl, ?_, ?_, ?_, ?_, ?_,rfl⟩
 omega
 rw [take_snoc mark0 (by omega:k<a.length),take_snoc mark0 (by omega:k<b.length),htk,Decidable.not_not.1 hne2]
 exact (ha.ext q0)
 exact (hb.ext q0)
 exact hEc
 omega
 have hkl:k=a.length:=by omega
 refine go ?_
 refine P1 results117 ?_
 exact ⟨_,rfl,bool_t (by rw [hkl,List.take_length,hll,List.take_length] at htk;exact htk),hEc⟩
set_option maxHeartbeats 40000000 in
theorem r14Same_ok {Aa:Option Addr} {ca:Nat} {a:List Stn} {Sa:Nat→Prop} {Ab:Option Addr} {cb:Nat} {b:List Stn} {Sb:Nat→Prop} (ha:GS standR Sa w Aa ca a) (hb:GS standR Sb w Ab cb b):Ret prog 118 #[.slice Aa a.length ca, .slice Ab b.length cb] w (fun v w'=>v= .bool (decide (a=b))∧Ext w w'):=by
 have mha:=ha.mx
 have mhb:=hb.mx
 refine ret_of_wk func118 rfl ntmps118 leB_ ?_
 have hEc:Ext w w:=Chg.refl _ _
 refine go ?_
 refine Ln_ underlying30 rfl (go ?_)
 refine Ln_ underlying30 rfl ?_
 refine Ne_ rfl rfl (go ?_)
 refine Cd (fun hne=> ?_) fun hne=> ?_
 refine go ?_
 refine P1 results118 ?_
 exact ⟨_,rfl,bool_f (fun e=>hne (by rw [e])),hEc⟩
 have hll:a.length=b.length:=by omega
 refine go ?_
 refine wc_loop (fun L' w' mes => ∃ (k : Nat), L' = [(0, .slice Aa a.length ca), (1, .slice Ab b.length cb), (5, iv (k : Int))] ∧ (k ≤ a.length) ∧ (a.take k = b.take k) ∧ (GS standR Sa w' Aa ca a) ∧ (GS standR Sb w' Ab cb b) ∧ (Ext w w') ∧ a.length - k = mes) [(0, .slice Aa a.length ca), (1, .slice Ab b.length cb), (5, iv (0 : Int))] (a.length - 0) (by
     refine ⟨0,rfl, ?_, ?_, ?_, ?_, ?_,rfl⟩
     · omega
     · simp
     · exact ha
     · exact hb
     · exact hEc) ⟨rfl,rfl,rfl,trivial⟩ ?_
 rintro _ wr _ ⟨k,rfl,hk,htk,ha,hb,hEc,rfl⟩ KL1 hKL1
 refine go ?_
 refine Ln_ underlying30 rfl ?_
 refine Ls_ rfl rfl (go ?_)
 refine Cd (fun hlt=> ?_) fun hlt=> ?_
 refine go ?_
 obtain ⟨aw2,hAw2,hatw2,hIw2⟩:=standR_el ha k (by omega)
 obtain ⟨aw6,hAw6,hatw6,hIw6⟩:=standR_el hb k (by omega)
 apply wdL [.eq _,.eq _,.eq _,.eq _,.eq _,.eq _,.eq _,.eq _,.eq _]
 refine ⟨?_,?_,?_,?_,?_,?_,?_,?_,?_,trivial⟩<;>intro F wF hER hk
 exact dm (hk.qi 0)
 exact dm (hk.qi 5)
 have e17:=hk.qe 0
 have e18:=hk.qe 1
 exact wl_idx0 (by decide) sl30 e17 e18 hAw2 k rfl (by omega) qz
 exact wl_loadA (by decide) ag110 (hk.qe 2) (hatw2.ext hER).at_ rfl qz
 exact dm (hk.qi 1)
 exact dm (hk.qi 5)
 have e21:=hk.qe 4
 have e22:=hk.qe 5
 exact wl_idx0 (by decide) sl30 e21 e22 hAw6 k rfl (by omega) qz
 exact wl_loadA (by decide) ag110 (hk.qe 6) (hatw6.ext hER).at_ rfl qz
 have e20:=hk.qe 3
 have e24:=hk.qe 7
 exact wl_neqK (m:=6) ((a.getD k stand0)=(b.getD k stand0)) (by decide) key110 eg110 e20 e24 hIw2.fit hIw6.fit stand_inj qz
 intro F wD hED hini hdo
 refine wk_drop [(0,_),(1,_),(5,_),(25,_)] ⟨di hini 0,di hini 1,di hini 5,dq hdo 8,trivial⟩ ?_
 clear hini hdo
 have q0:=hED
 replace hEc:=hEc.trans hED
 refine go ?_
 refine Cd (fun hne2=> ?_) fun hne2=> ?_
 refine go ?_
 refine P1 results118 ?_
 exact ⟨_,rfl,bool_f (fun e=>hne2 (by rw [e])),hEc⟩
 refine go ?_
 refine wl_add (by decide) rfl rfl (w64 (by omega) (by omega)) (gl ?_)
 refine wk_drop [(0, .slice Aa a.length ca),(1, .slice Ab b.length cb),(5,iv ((k+1):Int))] ⟨rfl,rfl,rfl,trivial⟩ (hKL1 _ _ (m2:=a.length-(k+1)) ?_ ?_)
 refine ⟨(k+1),rfl, ?_, ?_, ?_, ?_, ?_,rfl⟩
 omega
 rw [take_snoc stand0 (by omega:k<a.length),take_snoc stand0 (by omega:k<b.length),htk,Decidable.not_not.1 hne2]
 exact (ha.ext q0)
 exact (hb.ext q0)
 exact hEc
 omega
 have hkl:k=a.length:=by omega
 refine go ?_
 refine P1 results118 ?_
 exact ⟨_,rfl,bool_t (by rw [hkl,List.take_length,hll,List.take_length] at htk;exact htk),hEc⟩
set_option maxHeartbeats 40000000 in
theorem rListS_ok {gr:Nat} {l:List UInt8} {bad:Bool} {X:List Value→It} {pX:Addr} {most:Int} {p:PR Stn} {FV:Value} (hp:HP w0 M0 Fz w (itB gr 223 [.slice A l.length c, .bool bad]::X ([.slice none 0 0])::H)) (hS:Slot X pX 1) (hl:GS byteR Fz w A c l) (hE:EachR prog 223 gr w0 M0 Fz w standR ([Value.int .i64 0]++(digC dig0++([Value.int .i64 0]))) p FV) (hm:most≤100):Ret prog 132 #[.iface 221 (.pointer (some ⟨gr,0,none⟩)), .pointer (some pX), .int .i64 most,FV] w (RdP 223 gr w0 M0 Fz w H X (sliceR standR) (listP p most) bad l):=by
 refine ret_of_wk func132 rfl ntmps132 leB_ ?_
 refine so ?_
 refine wdP 9 hp (fun wD hp hED=>by refine pm ?_;exact .op rfl (Ld_ sc30 rfl (hp.slotAt (i:=1) hS rfl rfl).head (wl_nil qp)) pl) fun wD hp hED=> ?_
 refine Ci rfl (nMany_ok (m0:=0) (most:=most) hp hl.to) ?_
 rintro _ w1 ⟨F1,A1,c1,l1,b1,x1,rfl,hp,hF1,hl1,hst1,hz1⟩
 have hML: ∀q:Int,0≤q→q<x1→x1≤most:=by
   intro q h0 h1
   cases hq:b1 with
   |false=>exact (many_lim hst1 hq).2
   |true=>have:=hz1 hq;omega
 refine so ?_
 refine Lp [1, 3, 21, 22] (fun L' w' mes => ∃ (k : Nat), ∃ (F1 : Nat → Prop), ∃ (A2 : Option Addr), ∃ (c2 : Nat), ∃ (l2 : List UInt8), ∃ (b2 : Bool), ∃ (AL : Option Addr), ∃ (cL : Nat), ∃ (xs : List Stn), ∃ (rows : List (List Value)), L' = [(1, .pointer (some pX)), (3, FV), (21, iv x1), (22, iv (k : Int))] ∧ (k ≤ x1.toNat) ∧ (xs.length = k) ∧ (RF standR F1 w' rows xs) ∧ (Frz Fz F1 w w') ∧ (GS byteR F1 w' A2 c2 l2) ∧ (StepP (repP p k) (rst b1 l1) (rst b2 l2) xs) ∧ (HP w0 M0 F1 w' (itB gr 223 [.slice A2 l2.length c2, .bool b2] :: X ([.slice AL xs.length cL]) :: itR 110 34 AL xs.length cL rows.flatten :: H)) ∧ x1.toNat - k = mes) (x1.toNat - 0) (by
     refine ⟨0,F1,A1,c1,l1,b1,none,0, [], [],rfl,Nat.zero_le _, ?_,RF.nil _ _ _,mv,hl1,StepP.pure _ _,((hp.noRow 110 34).as_ (H':=_::_::_::_) rfl).rot3,rfl⟩
     rfl) ?_
 rintro _ wr _ ⟨k,F1,A2,c2,l2,b2,AL,cL,xs,rows,rfl,hk,hxk,hRF,hFr,hl2,hstL,hp,rfl⟩ KL1 hKL1
 refine so ?_
 refine Cd ?_ ?_<;>intro hc1
 have hx9:=hML k (by omega) (by omega)
 refine so ?_
 refine Ld_ sc30 rfl (hp.slotAt (i:=1) hS rfl rfl).head (so ?_)
 refine aT (so ?_)
 refine Alo hp (h:=fun gs10 w2 hp hE2=> ?_)
 replace hp:=hp.ay (itB gs10 110 ([iv stand0.seq]++(digC stand0.dig++([iv stand0.view])))::_)
 refine so ?_
 obtain ⟨KM,⟨hRo,hRk⟩,hKF,hKlt,hpo,hup⟩:=hp.apart (i:=3) rfl
 apply wc_drawTM 7 6 KM [.eq _,.eq _,.eq _,.eq _,.eq _,SP.tmpR _ 110 34 1 ([Value.int .i64 0]++(digC dig0++([Value.int .i64 0]))),SP.turn KM _ 110 34 (xs.length+1) (rows.flatten++([Value.int .i64 0]++(digC dig0++([Value.int .i64 0]))))] (by kernel_rfl) (by kernel_rfl) ⟨.inr (fun _ _ _ _ h=>h),.inr (fun _ _ _ _ h=>h),.inr (fun _ _ _ _ h=>h),.inr (fun _ _ _ _ h=>h),.inr (fun _ _ _ _ h=>h),.inr (SP.tmpR_st hKlt),.inl rfl,trivial⟩
 refine ⟨?_,?_,?_,?_,?_,?_,?_,trivial⟩<;>intro F wF hER hEE hk
 exact dm (hk.qi 1)
 exact dm (hk.qi 1)
 exact Nc_ (hk.qe 1) qz
 exact Ld_ sc30 (hk.qe 2) ((hpo _ hER).slotAt (i:=2) hS rfl rfl).head qz
 exact Hx_ ([iv stand0.seq]++(digC stand0.dig++([iv stand0.view]))) 0 ag110 (hk.qi 10) (hpo _ hER) rfl rfl rfl qz
 have e35:=hk.qe 4
 refine wl_bslice (size:=34) (xs:= [.tmp 35]) (vs:= [.agg ([Value.int .i64 0]++(digC dig0++([Value.int .i64 0]))).toArray]) (by decide) sl30 rfl (by simp only [evs,ev,e35];first|done|rfl) rfl (by intro v hv;rw [List.mem_singleton.1 hv];rfl) leB_ 0 (Nat.zero_le _) ?_
 rintro gt wt hgt hot hEt
 exact qz ⟨hEt,gt,rfl,by rw [hgt];exact hER.size,hot⟩
 have hEx:=hEE rfl
 have e34:=hk.qe 3
 obtain ⟨u36,e36,h36⟩:=hk.qp 5
 obtain ⟨gt,rfl,hgt0,hot⟩:=h36
 refine wl_append (size:=34) (m:=1) (news:= [Value.int .i64 0]++(digC dig0++([Value.int .i64 0]))) (by decide) sl30 e34 e36 (hRo.ext hEx) rfl (fun b hb=>by cases hb;exact hot.at0) (by simp) (List.all_eq_true.1 rfl) (by omega) (Nat.zero_le _) ?_
 rintro A3 c3 w3 ho3 hch3 h43
 exact qz ⟨hch3.weak (fun b _ x => (hRk b).2 ⟨x.1, x.2.2⟩), A3, c3, rfl, ho3, fun b hb => (by
     rcases h43 with ⟨rfl,rfl⟩|rfl
     · exact .inl ((hRk b).2 hb)
     · obtain ⟨_, a, ha, rfl⟩ := hb
       cases ha
       exact .inr hEx.size)⟩
 intro F wD hED hini hdo
 have e1:=di hini 1
 have e3:=di hini 3
 have e9:=di hini 9
 have e21:=di hini 21
 have e22:=di hini 22
 have e31:=dr hdo 0
 obtain ⟨u37,e37,h37⟩:=hdo 6 37 (Nat.lt_of_lt_of_eq (by decide) rfl) rfl
 obtain ⟨A3,c3,rfl,ho3,hK3⟩:=h37
 refine wl_drop [(1,_),(3,_),(9,_),(21,_),(22,_),(31,_),(37,_)] ⟨e1,e3,e9,e21,e22,e31,e37,trivial⟩ ?_
 clear e1 e3 e9 e21 e22 e31 e37 hini hdo
 have hcz:=hED.zz hKF
 replace hp:=hup _ (itR 110 34 A3 (xs.length+1) c3 (rows.flatten++([Value.int .i64 0]++(digC dig0++([Value.int .i64 0]))))) (fun b=>c3≠0∧blk A3 b) hED ⟨ho3,fun _=>Iff.rfl⟩ hK3
 refine so ?_
 refine wl_sstore1 0 (i:=2) hS (by rw [add_zero'];rfl) rfl hp rfl rfl sz30 (by decide) rfl ?_
 rintro w3 hp hC3
 refine so ?_
 refine Ld_ sc30 rfl (hp.slotAt (i:=2) hS rfl rfl).head (so ?_)
 have hOR:=hp.rowAt (i:=3) rfl
 obtain ⟨g7,rfl⟩: ∃g,A3=some ⟨g,0,none⟩:=by
   obtain ⟨g,hg,_⟩:=hOR.el 0 (by omega)
   exact ⟨g,hg⟩
 have hfl:=(hRF.to (w':=w3)).flen
 refine wl_idx0 (size:=34) (by decide) sl30 rfl rfl rfl k rfl (by omega) ?_
 rw [show (⟨g7,0,none⟩:Addr).add (k*34)=⟨g7,rows.flatten.length,none⟩ by rw [add_lit',hfl,hxk,Nat.zero_add];rfl]
 have hpc:=((((hp.tail.up 1 rfl).up 2 rfl).up 2 rfl).as_ (H':=itB gr 223 [.slice A2 l2.length c2, .bool b2]::itR 110 34 (some ⟨g7,0,none⟩) (xs.length+1) c3 (rows.flatten++(([Value.int .i64 0]++(digC dig0++([Value.int .i64 0])))++ []))::X ([.slice (some ⟨g7,0,none⟩) (xs.length+1) c3])::H) rfl)
 have hcl:=hE _ _ _ (fun cs=>itR 110 34 (some ⟨g7,0,none⟩) (xs.length+1) c3 (rows.flatten++(cs++ []))) ⟨g7,rows.flatten.length,none⟩ _ _ _ _ mv hpc (Slot.row rows.flatten [] (by decide)) (hl2.to (w':=w3))
 refine wl_callF (vs:= [.pointer (some ⟨g7,rows.flatten.length,none⟩)]) (by decide) rfl rfl (fun _ h=>by cases h) hcl ?_
 clear hcl
 rintro _ w9 ⟨F9,A9,c9,l9,b9,cs9,x9,hp,hF9,hl9,hrd9,hst9⟩
 have hp:=hp.ay (_::_::_::_)
 have hp:=(hp.up 2 rfl).as_ (H':=_::_::_::_) rfl
 have hp:=(hp.up 1 rfl).as_ (H':=_::_::_::_) rfl
 refine so ?_
 refine Kl [1,3,21,22] hKL1 (x1.toNat-(k+1)) ⟨(k+1),F9,A9,c9,l9,b9,(some ⟨g7,0,none⟩),c3,(xs++ [x9]),(rows++ [cs9]),rfl,by omega, ?_,(hRF.to.append (RF.one hrd9)),mv,hl9,StepP.snoc hstL hst9, ?_,rfl⟩ (by omega)
 rw [List.length_append,hxk];rfl
 rw [flat_snoc,List.length_append];exact hp
 refine so ?_
 refine wk_post0 (.inr rfl) results132 ?_
 obtain ⟨F8,hp8,hs8,hb8⟩:=((hp.up 2 rfl).as_ (H':=_::_::_::_) rfl).frzRow
 have hgs:=OwnRow.gsRF (r:=standR) (hp.rowAt (i:=2) rfl) (hRF.wid hs8) hb8
 exact ⟨_,rfl,F8,A2,c2,l2,b2,_,xs,hp8,hFr.wid hs8,hl2.wid hs8,sliceR_mk hgs,StepP.bind hst1 (by rw [show x1.toNat=k by omega];exact hstL)⟩
set_option maxHeartbeats 40000000 in
theorem rListD_ok {gr:Nat} {l:List UInt8} {bad:Bool} {X:List Value→It} {pX:Addr} {most:Int} {p:PR Dig} {FV:Value} (hp:HP w0 M0 Fz w (itB gr 223 [.slice A l.length c, .bool bad]::X ([.slice none 0 0])::H)) (hS:Slot X pX 1) (hl:GS byteR Fz w A c l) (hE:EachR prog 223 gr w0 M0 Fz w digR (digC dig0) p FV) (hm:most≤100):Ret prog 194 #[.iface 221 (.pointer (some ⟨gr,0,none⟩)), .pointer (some pX), .int .i64 most,FV] w (RdP 223 gr w0 M0 Fz w H X (sliceR digR) (listP p most) bad l):=by
 refine ret_of_wk func194 rfl ntmps194 leB_ ?_
 refine so ?_
 refine wdP 9 hp (fun wD hp hED=>by refine pm ?_;exact .op rfl (Ld_ sc155 rfl (hp.slotAt (i:=1) hS rfl rfl).head (wl_nil qp)) pl) fun wD hp hED=> ?_
 refine Ci rfl (nMany_ok (m0:=0) (most:=most) hp hl.to) ?_
 rintro _ w1 ⟨F1,A1,c1,l1,b1,x1,rfl,hp,hF1,hl1,hst1,hz1⟩
 have hML: ∀q:Int,0≤q→q<x1→x1≤most:=by
   intro q h0 h1
   cases hq:b1 with
   |false=>exact (many_lim hst1 hq).2
   |true=>have:=hz1 hq;omega
 refine so ?_
 refine Lp [1, 3, 21, 22] (fun L' w' mes => ∃ (k : Nat), ∃ (F1 : Nat → Prop), ∃ (A2 : Option Addr), ∃ (c2 : Nat), ∃ (l2 : List UInt8), ∃ (b2 : Bool), ∃ (AL : Option Addr), ∃ (cL : Nat), ∃ (xs : List Dig), ∃ (rows : List (List Value)), L' = [(1, .pointer (some pX)), (3, FV), (21, iv x1), (22, iv (k : Int))] ∧ (k ≤ x1.toNat) ∧ (xs.length = k) ∧ (RF digR F1 w' rows xs) ∧ (Frz Fz F1 w w') ∧ (GS byteR F1 w' A2 c2 l2) ∧ (StepP (repP p k) (rst b1 l1) (rst b2 l2) xs) ∧ (HP w0 M0 F1 w' (itB gr 223 [.slice A2 l2.length c2, .bool b2] :: X ([.slice AL xs.length cL]) :: itR 26 32 AL xs.length cL rows.flatten :: H)) ∧ x1.toNat - k = mes) (x1.toNat - 0) (by
     refine ⟨0,F1,A1,c1,l1,b1,none,0, [], [],rfl,Nat.zero_le _, ?_,RF.nil _ _ _,mv,hl1,StepP.pure _ _,((hp.noRow 26 32).as_ (H':=_::_::_::_) rfl).rot3,rfl⟩
     rfl) ?_
 rintro _ wr _ ⟨k,F1,A2,c2,l2,b2,AL,cL,xs,rows,rfl,hk,hxk,hRF,hFr,hl2,hstL,hp,rfl⟩ KL1 hKL1
 refine so ?_
 refine Cd ?_ ?_<;>intro hc1
 have hx9:=hML k (by omega) (by omega)
 refine so ?_
 refine Ld_ sc155 rfl (hp.slotAt (i:=1) hS rfl rfl).head (so ?_)
 refine aT (so ?_)
 refine Alo hp (h:=fun gs10 w2 hp hE2=> ?_)
 replace hp:=hp.ay (itB gs10 26 (digC dig0)::_)
 refine so ?_
 obtain ⟨KM,⟨hRo,hRk⟩,hKF,hKlt,hpo,hup⟩:=hp.apart (i:=3) rfl
 apply wc_drawTM 7 6 KM [.eq _,.eq _,.eq _,.eq _,.eq _,SP.tmpR _ 26 32 1 (digC dig0),SP.turn KM _ 26 32 (xs.length+1) (rows.flatten++(digC dig0))] (by kernel_rfl) (by kernel_rfl) ⟨.inr (fun _ _ _ _ h=>h),.inr (fun _ _ _ _ h=>h),.inr (fun _ _ _ _ h=>h),.inr (fun _ _ _ _ h=>h),.inr (fun _ _ _ _ h=>h),.inr (SP.tmpR_st hKlt),.inl rfl,trivial⟩
 refine ⟨?_,?_,?_,?_,?_,?_,?_,trivial⟩<;>intro F wF hER hEE hk
 exact dm (hk.qi 1)
 exact dm (hk.qi 1)
 exact Nc_ (hk.qe 1) qz
 exact Ld_ sc155 (hk.qe 2) ((hpo _ hER).slotAt (i:=2) hS rfl rfl).head qz
 exact Hx_ (digC dig0) 0 ag26 (hk.qi 10) (hpo _ hER) rfl rfl rfl qz
 have e35:=hk.qe 4
 refine wl_bslice (size:=32) (xs:= [.tmp 35]) (vs:= [.agg (digC dig0).toArray]) (by decide) sl155 rfl (by simp only [evs,ev,e35];first|done|rfl) rfl (by intro v hv;rw [List.mem_singleton.1 hv];rfl) leB_ 0 (Nat.zero_le _) ?_
 rintro gt wt hgt hot hEt
 exact qz ⟨hEt,gt,rfl,by rw [hgt];exact hER.size,hot⟩
 have hEx:=hEE rfl
 have e34:=hk.qe 3
 obtain ⟨u36,e36,h36⟩:=hk.qp 5
 obtain ⟨gt,rfl,hgt0,hot⟩:=h36
 refine wl_append (size:=32) (m:=1) (news:=digC dig0) (by decide) sl155 e34 e36 (hRo.ext hEx) rfl (fun b hb=>by cases hb;exact hot.at0) (by simp) (List.all_eq_true.1 rfl) (by omega) (Nat.zero_le _) ?_
 rintro A3 c3 w3 ho3 hch3 h43
 exact qz ⟨hch3.weak (fun b _ x => (hRk b).2 ⟨x.1, x.2.2⟩), A3, c3, rfl, ho3, fun b hb => (by
     rcases h43 with ⟨rfl,rfl⟩|rfl
     · exact .inl ((hRk b).2 hb)
     · obtain ⟨_, a, ha, rfl⟩ := hb
       cases ha
       exact .inr hEx.size)⟩
 intro F wD hED hini hdo
 have e1:=di hini 1
 have e3:=di hini 3
 have e9:=di hini 9
 have e21:=di hini 21
 have e22:=di hini 22
 have e31:=dr hdo 0
 obtain ⟨u37,e37,h37⟩:=hdo 6 37 (Nat.lt_of_lt_of_eq (by decide) rfl) rfl
 obtain ⟨A3,c3,rfl,ho3,hK3⟩:=h37
 refine wl_drop [(1,_),(3,_),(9,_),(21,_),(22,_),(31,_),(37,_)] ⟨e1,e3,e9,e21,e22,e31,e37,trivial⟩ ?_
 clear e1 e3 e9 e21 e22 e31 e37 hini hdo
 have hcz:=hED.zz hKF
 replace hp:=hup _ (itR 26 32 A3 (xs.length+1) c3 (rows.flatten++(digC dig0))) (fun b=>c3≠0∧blk A3 b) hED ⟨ho3,fun _=>Iff.rfl⟩ hK3
 refine so ?_
 refine wl_sstore1 0 (i:=2) hS (by rw [add_zero'];rfl) rfl hp rfl rfl sz155 (by decide) rfl ?_
 rintro w3 hp hC3
 refine so ?_
 refine Ld_ sc155 rfl (hp.slotAt (i:=2) hS rfl rfl).head (so ?_)
 have hOR:=hp.rowAt (i:=3) rfl
 obtain ⟨g7,rfl⟩: ∃g,A3=some ⟨g,0,none⟩:=by
   obtain ⟨g,hg,_⟩:=hOR.el 0 (by omega)
   exact ⟨g,hg⟩
 have hfl:=(hRF.to (w':=w3)).flen
 refine wl_idx0 (size:=32) (by decide) sl155 rfl rfl rfl k rfl (by omega) ?_
 rw [show (⟨g7,0,none⟩:Addr).add (k*32)=⟨g7,rows.flatten.length,none⟩ by rw [add_lit',hfl,hxk,Nat.zero_add];rfl]
 have hpc:=((((hp.tail.up 1 rfl).up 2 rfl).up 2 rfl).as_ (H':=itB gr 223 [.slice A2 l2.length c2, .bool b2]::itR 26 32 (some ⟨g7,0,none⟩) (xs.length+1) c3 (rows.flatten++((digC dig0)++ []))::X ([.slice (some ⟨g7,0,none⟩) (xs.length+1) c3])::H) rfl)
 have hcl:=hE _ _ _ (fun cs=>itR 26 32 (some ⟨g7,0,none⟩) (xs.length+1) c3 (rows.flatten++(cs++ []))) ⟨g7,rows.flatten.length,none⟩ _ _ _ _ mv hpc (Slot.row rows.flatten [] (by decide)) (hl2.to (w':=w3))
 refine wl_callF (vs:= [.pointer (some ⟨g7,rows.flatten.length,none⟩)]) (by decide) rfl rfl (fun _ h=>by cases h) hcl ?_
 clear hcl
 rintro _ w9 ⟨F9,A9,c9,l9,b9,cs9,x9,hp,hF9,hl9,hrd9,hst9⟩
 have hp:=hp.ay (_::_::_::_)
 have hp:=(hp.up 2 rfl).as_ (H':=_::_::_::_) rfl
 have hp:=(hp.up 1 rfl).as_ (H':=_::_::_::_) rfl
 refine so ?_
 refine Kl [1,3,21,22] hKL1 (x1.toNat-(k+1)) ⟨(k+1),F9,A9,c9,l9,b9,(some ⟨g7,0,none⟩),c3,(xs++ [x9]),(rows++ [cs9]),rfl,by omega, ?_,(hRF.to.append (RF.one hrd9)),mv,hl9,StepP.snoc hstL hst9, ?_,rfl⟩ (by omega)
 rw [List.length_append,hxk];rfl
 rw [flat_snoc,List.length_append];exact hp
 refine so ?_
 refine wk_post0 (.inr rfl) results194 ?_
 obtain ⟨F8,hp8,hs8,hb8⟩:=((hp.up 2 rfl).as_ (H':=_::_::_::_) rfl).frzRow
 have hgs:=OwnRow.gsRF (r:=digR) (hp.rowAt (i:=2) rfl) (hRF.wid hs8) hb8
 exact ⟨_,rfl,F8,A2,c2,l2,b2,_,xs,hp8,hFr.wid hs8,hl2.wid hs8,sliceR_mk hgs,StepP.bind hst1 (by rw [show x1.toNat=k by omega];exact hstL)⟩
set_option maxHeartbeats 40000000 in
theorem rListC_ok {gr:Nat} {l:List UInt8} {bad:Bool} {X:List Value→It} {pX:Addr} {most:Int} {p:PR Chn} {FV:Value} (hp:HP w0 M0 Fz w (itB gr 223 [.slice A l.length c, .bool bad]::X ([.slice none 0 0])::H)) (hS:Slot X pX 1) (hl:GS byteR Fz w A c l) (hE:EachR prog 223 gr w0 M0 Fz w changeR ([Value.int .i64 0,Value.int .i64 0,Value.int .i64 0,Value.slice none 0 0,Value.slice none 0 0,Value.slice none 0 0]) p FV) (hm:most≤100):Ret prog 190 #[.iface 221 (.pointer (some ⟨gr,0,none⟩)), .pointer (some pX), .int .i64 most,FV] w (RdP 223 gr w0 M0 Fz w H X (sliceR changeR) (listP p most) bad l):=by
 refine ret_of_wk func190 rfl ntmps190 leB_ ?_
 refine so ?_
 refine wdP 9 hp (fun wD hp hED=>by refine pm ?_;exact .op rfl (Ld_ sc153 rfl (hp.slotAt (i:=1) hS rfl rfl).head (wl_nil qp)) pl) fun wD hp hED=> ?_
 refine Ci rfl (nMany_ok (m0:=0) (most:=most) hp hl.to) ?_
 rintro _ w1 ⟨F1,A1,c1,l1,b1,x1,rfl,hp,hF1,hl1,hst1,hz1⟩
 have hML: ∀q:Int,0≤q→q<x1→x1≤most:=by
   intro q h0 h1
   cases hq:b1 with
   |false=>exact (many_lim hst1 hq).2
   |true=>have:=hz1 hq;omega
 refine so ?_
 refine Lp [1, 3, 21, 22] (fun L' w' mes => ∃ (k : Nat), ∃ (F1 : Nat → Prop), ∃ (A2 : Option Addr), ∃ (c2 : Nat), ∃ (l2 : List UInt8), ∃ (b2 : Bool), ∃ (AL : Option Addr), ∃ (cL : Nat), ∃ (xs : List Chn), ∃ (rows : List (List Value)), L' = [(1, .pointer (some pX)), (3, FV), (21, iv x1), (22, iv (k : Int))] ∧ (k ≤ x1.toNat) ∧ (xs.length = k) ∧ (RF changeR F1 w' rows xs) ∧ (Frz Fz F1 w w') ∧ (GS byteR F1 w' A2 c2 l2) ∧ (StepP (repP p k) (rst b1 l1) (rst b2 l2) xs) ∧ (HP w0 M0 F1 w' (itB gr 223 [.slice A2 l2.length c2, .bool b2] :: X ([.slice AL xs.length cL]) :: itR 35 6 AL xs.length cL rows.flatten :: H)) ∧ x1.toNat - k = mes) (x1.toNat - 0) (by
     refine ⟨0,F1,A1,c1,l1,b1,none,0, [], [],rfl,Nat.zero_le _, ?_,RF.nil _ _ _,mv,hl1,StepP.pure _ _,((hp.noRow 35 6).as_ (H':=_::_::_::_) rfl).rot3,rfl⟩
     rfl) ?_
 rintro _ wr _ ⟨k,F1,A2,c2,l2,b2,AL,cL,xs,rows,rfl,hk,hxk,hRF,hFr,hl2,hstL,hp,rfl⟩ KL1 hKL1
 refine so ?_
 refine Cd ?_ ?_<;>intro hc1
 have hx9:=hML k (by omega) (by omega)
 refine so ?_
 refine Ld_ sc153 rfl (hp.slotAt (i:=1) hS rfl rfl).head (so ?_)
 refine aT (so ?_)
 refine Alo hp (h:=fun gs10 w2 hp hE2=> ?_)
 replace hp:=hp.ay (itB gs10 35 ([iv change0.node,iv change0.view,iv change0.low,s0,s0,s0])::_)
 refine so ?_
 obtain ⟨KM,⟨hRo,hRk⟩,hKF,hKlt,hpo,hup⟩:=hp.apart (i:=3) rfl
 apply wc_drawTM 7 6 KM [.eq _,.eq _,.eq _,.eq _,.eq _,SP.tmpR _ 35 6 1 ([Value.int .i64 0,Value.int .i64 0,Value.int .i64 0,Value.slice none 0 0,Value.slice none 0 0,Value.slice none 0 0]),SP.turn KM _ 35 6 (xs.length+1) (rows.flatten++([Value.int .i64 0,Value.int .i64 0,Value.int .i64 0,Value.slice none 0 0,Value.slice none 0 0,Value.slice none 0 0]))] (by kernel_rfl) (by kernel_rfl) ⟨.inr (fun _ _ _ _ h=>h),.inr (fun _ _ _ _ h=>h),.inr (fun _ _ _ _ h=>h),.inr (fun _ _ _ _ h=>h),.inr (fun _ _ _ _ h=>h),.inr (SP.tmpR_st hKlt),.inl rfl,trivial⟩
 refine ⟨?_,?_,?_,?_,?_,?_,?_,trivial⟩<;>intro F wF hER hEE hk
 exact dm (hk.qi 1)
 exact dm (hk.qi 1)
 exact Nc_ (hk.qe 1) qz
 exact Ld_ sc153 (hk.qe 2) ((hpo _ hER).slotAt (i:=2) hS rfl rfl).head qz
 exact Hx_ ([iv change0.node,iv change0.view,iv change0.low,s0,s0,s0]) 0 ag35 (hk.qi 10) (hpo _ hER) rfl rfl rfl qz
 have e35:=hk.qe 4
 refine wl_bslice (size:=6) (xs:= [.tmp 35]) (vs:= [.agg ([Value.int .i64 0,Value.int .i64 0,Value.int .i64 0,Value.slice none 0 0,Value.slice none 0 0,Value.slice none 0 0]).toArray]) (by decide) sl153 rfl (by simp only [evs,ev,e35];first|done|rfl) rfl (by intro v hv;rw [List.mem_singleton.1 hv];rfl) leB_ 0 (Nat.zero_le _) ?_
 rintro gt wt hgt hot hEt
 exact qz ⟨hEt,gt,rfl,by rw [hgt];exact hER.size,hot⟩
 have hEx:=hEE rfl
 have e34:=hk.qe 3
 obtain ⟨u36,e36,h36⟩:=hk.qp 5
 obtain ⟨gt,rfl,hgt0,hot⟩:=h36
 refine wl_append (size:=6) (m:=1) (news:= [Value.int .i64 0,Value.int .i64 0,Value.int .i64 0,Value.slice none 0 0,Value.slice none 0 0,Value.slice none 0 0]) (by decide) sl153 e34 e36 (hRo.ext hEx) rfl (fun b hb=>by cases hb;exact hot.at0) (by simp) (List.all_eq_true.1 rfl) (by omega) (Nat.zero_le _) ?_
 rintro A3 c3 w3 ho3 hch3 h43
 exact qz ⟨hch3.weak (fun b _ x => (hRk b).2 ⟨x.1, x.2.2⟩), A3, c3, rfl, ho3, fun b hb => (by
     rcases h43 with ⟨rfl,rfl⟩|rfl
     · exact .inl ((hRk b).2 hb)
     · obtain ⟨_, a, ha, rfl⟩ := hb
       cases ha
       exact .inr hEx.size)⟩
 intro F wD hED hini hdo
 have e1:=di hini 1
 have e3:=di hini 3
 have e9:=di hini 9
 have e21:=di hini 21
 have e22:=di hini 22
 have e31:=dr hdo 0
 obtain ⟨u37,e37,h37⟩:=hdo 6 37 (Nat.lt_of_lt_of_eq (by decide) rfl) rfl
 obtain ⟨A3,c3,rfl,ho3,hK3⟩:=h37
 refine wl_drop [(1,_),(3,_),(9,_),(21,_),(22,_),(31,_),(37,_)] ⟨e1,e3,e9,e21,e22,e31,e37,trivial⟩ ?_
 clear e1 e3 e9 e21 e22 e31 e37 hini hdo
 have hcz:=hED.zz hKF
 replace hp:=hup _ (itR 35 6 A3 (xs.length+1) c3 (rows.flatten++([Value.int .i64 0,Value.int .i64 0,Value.int .i64 0,Value.slice none 0 0,Value.slice none 0 0,Value.slice none 0 0]))) (fun b=>c3≠0∧blk A3 b) hED ⟨ho3,fun _=>Iff.rfl⟩ hK3
 refine so ?_
 refine wl_sstore1 0 (i:=2) hS (by rw [add_zero'];rfl) rfl hp rfl rfl sz153 (by decide) rfl ?_
 rintro w3 hp hC3
 refine so ?_
 refine Ld_ sc153 rfl (hp.slotAt (i:=2) hS rfl rfl).head (so ?_)
 have hOR:=hp.rowAt (i:=3) rfl
 obtain ⟨g7,rfl⟩: ∃g,A3=some ⟨g,0,none⟩:=by
   obtain ⟨g,hg,_⟩:=hOR.el 0 (by omega)
   exact ⟨g,hg⟩
 have hfl:=(hRF.to (w':=w3)).flen
 refine wl_idx0 (size:=6) (by decide) sl153 rfl rfl rfl k rfl (by omega) ?_
 rw [show (⟨g7,0,none⟩:Addr).add (k*6)=⟨g7,rows.flatten.length,none⟩ by rw [add_lit',hfl,hxk,Nat.zero_add];rfl]
 have hpc:=((((hp.tail.up 1 rfl).up 2 rfl).up 2 rfl).as_ (H':=itB gr 223 [.slice A2 l2.length c2, .bool b2]::itR 35 6 (some ⟨g7,0,none⟩) (xs.length+1) c3 (rows.flatten++(([Value.int .i64 0,Value.int .i64 0,Value.int .i64 0,Value.slice none 0 0,Value.slice none 0 0,Value.slice none 0 0])++ []))::X ([.slice (some ⟨g7,0,none⟩) (xs.length+1) c3])::H) rfl)
 have hcl:=hE _ _ _ (fun cs=>itR 35 6 (some ⟨g7,0,none⟩) (xs.length+1) c3 (rows.flatten++(cs++ []))) ⟨g7,rows.flatten.length,none⟩ _ _ _ _ mv hpc (Slot.row rows.flatten [] (by decide)) (hl2.to (w':=w3))
 refine wl_callF (vs:= [.pointer (some ⟨g7,rows.flatten.length,none⟩)]) (by decide) rfl rfl (fun _ h=>by cases h) hcl ?_
 clear hcl
 rintro _ w9 ⟨F9,A9,c9,l9,b9,cs9,x9,hp,hF9,hl9,hrd9,hst9⟩
 have hp:=hp.ay (_::_::_::_)
 have hp:=(hp.up 2 rfl).as_ (H':=_::_::_::_) rfl
 have hp:=(hp.up 1 rfl).as_ (H':=_::_::_::_) rfl
 refine so ?_
 refine Kl [1,3,21,22] hKL1 (x1.toNat-(k+1)) ⟨(k+1),F9,A9,c9,l9,b9,(some ⟨g7,0,none⟩),c3,(xs++ [x9]),(rows++ [cs9]),rfl,by omega, ?_,(hRF.to.append (RF.one hrd9)),mv,hl9,StepP.snoc hstL hst9, ?_,rfl⟩ (by omega)
 rw [List.length_append,hxk];rfl
 rw [flat_snoc,List.length_append];exact hp
 refine so ?_
 refine wk_post0 (.inr rfl) results190 ?_
 obtain ⟨F8,hp8,hs8,hb8⟩:=((hp.up 2 rfl).as_ (H':=_::_::_::_) rfl).frzRow
 have hgs:=OwnRow.gsRF (r:=changeR) (hp.rowAt (i:=2) rfl) (hRF.wid hs8) hb8
 exact ⟨_,rfl,F8,A2,c2,l2,b2,_,xs,hp8,hFr.wid hs8,hl2.wid hs8,sliceR_mk hgs,StepP.bind hst1 (by rw [show x1.toNat=k by omega];exact hstL)⟩
end Go.Proofs.YtmbpneaibmldfaaGreat
namespace Go.Proofs.YtmbpneaibmldfaaGreat
open Go.RowKit Go.Eng _root_.Go.Proofs.Tryz Go.Eng _root_.Go.Proofs.Tryz
set_option maxRecDepth 100000
variable {w0 w:World} {M0 Fz:Nat→Prop} {H:List It} {A:Option Addr} {c:Nat}
def sizeR (r:Rpl):Nat:=r.nodes.length*8+(r.img.own.length+r.img.done.length)*40+(r.img.p.length+r.img.q.length)*48+r.img.batches.length*698+r.state.length
theorem chgT_is {s:List UInt8} (h:(takeS s).2.2=0) {x:Nte} {e:Int} (he:(x,e)=unpackS (headC (takeS s).1 s)):chgT s=if e=0 then some x.change else none:=by
 unfold chgT numP
 rw [if_pos h]
 simp only
 rw [←he]
set_option maxHeartbeats 4000000 in
theorem lIn_ok {w0 w:World} {M0 Fz:Nat→Prop} {H:List It} {cs:List Value} {r:Rpl} (hp:HP w0 M0 Fz w H) (hr:rplR.rd Fz w cs r) (hz:r.img.batches.length*56≤140737488355328):Ret prog 23 #[.agg cs.toArray] w (fun v w2=> ∃F2 cs,v= .agg (cs:List Value).toArray∧HP w0 M0 F2 w2 H∧Frz Fz F2 w w2∧rplR.rd F2 w2 cs r):=by
 obtain ⟨hI,B0,d0,B1,d1,B2,d2,B3,d3,B4,d4,B5,d5,B6,d6,B7,d7,B8,d8,B9,d9,rfl,h0,h1,h2,h3,h4,h5,h6,h7,h8,h9⟩:=hr
 obtain ⟨grp,ep,fl,nd,im,lf,ch,sta⟩:=r
 obtain ⟨vi,ac,lo,ow,ip,iq,ra,dn,en,ba⟩:=im
 simp only at hz h0 h1 h2 h3 h4 h5 h6 h7 h8 h9
 refine ret_of_wk func23 rfl ntmps23 leB_ ?_
 refine so ?_
 refine Bx hp (h:=fun g1 w1 hp E1=>so ?_)
 refine Alo hp (h:=fun g2 w2 hp E2=>so ?_)
 replace hp:=hp.as_ (H':=itB g2 38 rp0C::itB g1 47 _::H) rfl
 refine Alo hp (h:=fun g3 w3 hp E3=>so ?_)
 refine Hs 0 hp (h:=fun w4 hp C4=> ?_)
 replace hp:=hp.as_ (H':=itB g3 45 (([.int .i64 vi, .bool ac, .int .i64 lo.seq]:List Value)++(digC lo.dig++([.slice B1 ow.length d1, .slice B2 ip.length d2, .slice B3 iq.length d3,iv ra, .slice B4 dn.length d4, .bool en, .slice B5 ba.length d5]:List Value)))::itB g2 38 rp0C::itB g1 47 _::H) rfl
 refine so ?_
 refine wl_builtS (ps:= [(0, .tmp 9),(1, .tmp 11),(2, .tmp 13),(4, .tmp 15),(5, .tmp 17),(6, .tmp 19)]) (by decide) bld38 rfl rfl ?_
 refine so ?_
 refine Alo hp (h:=fun g4 w5 hp E5=>so ?_)
 refine Hs 0 hp (h:=fun w6 hp C6=> ?_)
 replace hp:=hp.as_ (H':=itB g4 38 (rpC grp ep fl (.slice B0 nd.length d0) im0C (.bool lf) [iv ch.node,iv ch.view,iv ch.low, .slice B6 ch.marks.length d6, .slice B7 ch.p.length d7, .slice B8 ch.q.length d8] (.slice B9 sta.length d9))::itB g3 45 (([.int .i64 vi, .bool ac, .int .i64 lo.seq]:List Value)++(digC lo.dig++([.slice B1 ow.length d1, .slice B2 ip.length d2, .slice B3 iq.length d3,iv ra, .slice B4 dn.length d4, .bool en, .slice B5 ba.length d5]:List Value)))::itB g2 38 rp0C::itB g1 47 _::H) rfl
 refine so ?_
 refine wl_builtS (ps:= [(0, .tmp 22),(1, .tmp 24),(2, .tmp 26),(3, .tmp 28),(4, .tmp 30),(5, .tmp 32),(6, .tmp 34),(7, .tmp 36),(8, .tmp 38)]) (by decide) bld33 rfl rfl ?_
 refine so ?_
 refine Hs 0 hp (h:=fun w7 hp C7=> ?_)
 replace hp:=(hp.as_ (H':=itB g4 38 (rpC grp ep fl (.slice B0 nd.length d0) (imC vi ac lo.seq lo.dig (.slice B1 ow.length d1) (.slice B2 ip.length d2) (.slice B3 iq.length d3) (iv ra) (.slice B4 dn.length d4) (.bool en) (.slice none 0 0)) (.bool lf) [iv ch.node,iv ch.view,iv ch.low, .slice B6 ch.marks.length d6, .slice B7 ch.p.length d7, .slice B8 ch.q.length d8] (.slice B9 sta.length d9))::itB g3 45 (([.int .i64 vi, .bool ac, .int .i64 lo.seq]:List Value)++(digC lo.dig++([.slice B1 ow.length d1, .slice B2 ip.length d2, .slice B3 iq.length d3,iv ra, .slice B4 dn.length d4, .bool en, .slice B5 ba.length d5]:List Value)))::itB g2 38 rp0C::itB g1 47 _::H) rfl).noRow 89 33
 obtain ⟨cg,hp⟩: ∃cg,HP w0 M0 Fz w7 (itR 89 33 none 0 0 ([]:List (List Value)).flatten::itB g4 38 (rpC grp ep fl (.slice B0 nd.length d0) (imC vi ac lo.seq lo.dig (.slice B1 ow.length d1) (.slice B2 ip.length d2) (.slice B3 iq.length d3) (iv ra) (.slice B4 dn.length d4) (.bool en) (.slice none 0 0)) (.bool lf) [iv ch.node,iv ch.view,iv ch.low, .slice B6 ch.marks.length d6, .slice B7 ch.p.length d7, .slice B8 ch.q.length d8] (.slice B9 sta.length d9))::itB g3 45 (([.int .i64 vi, .bool ac, .int .i64 lo.seq]:List Value)++(digC lo.dig++([.slice B1 ow.length d1, .slice B2 ip.length d2, .slice B3 iq.length d3,iv ra, .slice B4 dn.length d4, .bool en, .slice B5 ba.length d5]:List Value)))::itB g2 38 rp0C::itB g1 47 cg::H):=⟨_,hp⟩
 have hF7:Frz Fz Fz w w7:=mv
 have hb7:GS batR Fz w7 B5 d5 ba:=h5.to
 refine so ?_
 refine Lp [2,3,4,5] (fun L' w' mes=> ∃(k:Nat) (A9:Option Addr) (c9:Nat) (rows:List (List Value)),L'= [(2,pt g2 0),(3,pt g3 0),(4,pt g4 0),(5,iv (k:Int))]∧k≤ba.length∧HP w0 M0 Fz w' (itR 89 33 A9 k c9 rows.flatten::itB g4 38 (rpC grp ep fl (.slice B0 nd.length d0) (imC vi ac lo.seq lo.dig (.slice B1 ow.length d1) (.slice B2 ip.length d2) (.slice B3 iq.length d3) (iv ra) (.slice B4 dn.length d4) (.bool en) (.slice A9 k c9)) (.bool lf) [iv ch.node,iv ch.view,iv ch.low, .slice B6 ch.marks.length d6, .slice B7 ch.p.length d7, .slice B8 ch.q.length d8] (.slice B9 sta.length d9))::itB g3 45 (([.int .i64 vi, .bool ac, .int .i64 lo.seq]:List Value)++(digC lo.dig++([.slice B1 ow.length d1, .slice B2 ip.length d2, .slice B3 iq.length d3,iv ra, .slice B4 dn.length d4, .bool en, .slice B5 ba.length d5]:List Value)))::itB g2 38 rp0C::itB g1 47 cg::H)∧RF batR Fz w' rows (ba.take k)∧Frz Fz Fz w7 w'∧ba.length-k=mes) (ba.length-0) ⟨0,none,0, [],rfl,Nat.zero_le _,hp,RF.nil _ _ _,Frz.start _ _,rfl⟩ ?_
 rintro _ wr _ ⟨k,A9,c9,rows,rfl,hk,hp,hR,hf,rfl⟩ KL hKL
 have hbr:GS batR Fz wr B5 d5 ba:=hb7.to hf
 refine so ?_
 refine Cd ?_ ?_<;>intro hc
 ·have hk9 : k < ba.length := by omega
  obtain ⟨ae,p0,q0,hAe,hate,he0⟩:=batR_el hbr k hk9
  generalize hxe:ba.getD k bat0=x at hate he0
  refine so ?_
  obtain ⟨KM,⟨hRo,hRk⟩,hKF,hKlt,hpo,hup⟩:=hp.apart (i:=0) rfl
  apply wc_drawTM 20 17 KM [.eq _, .eq _, .eq _, .eq _, .eq _, .eq _, .eq _, .eq _, .eq _, .eq _, .eq _, .eq _, .eq _, .eq _, .eq _, .eq _,SP.tmpR wr.heap.size 89 33 1 (digC x.dig++([.slice p0 x.wishes.length q0]:List Value)),SP.turn KM wr.heap.size 89 33 (k+1) (rows.flatten++(digC x.dig++([.slice p0 x.wishes.length q0]:List Value))), .eq (pt g4 4), .eq (pt g4 45)] (by kernel_rfl) (by kernel_rfl) ⟨.inr (fun _ _ _ _ h=>h), .inr (fun _ _ _ _ h=>h), .inr (fun _ _ _ _ h=>h), .inr (fun _ _ _ _ h=>h), .inr (fun _ _ _ _ h=>h), .inr (fun _ _ _ _ h=>h), .inr (fun _ _ _ _ h=>h), .inr (fun _ _ _ _ h=>h), .inr (fun _ _ _ _ h=>h), .inr (fun _ _ _ _ h=>h), .inr (fun _ _ _ _ h=>h), .inr (fun _ _ _ _ h=>h), .inr (fun _ _ _ _ h=>h), .inr (fun _ _ _ _ h=>h), .inr (fun _ _ _ _ h=>h), .inr (fun _ _ _ _ h=>h), .inr (SP.tmpR_st hKlt), .inl rfl, .inr (fun _ _ _ _ h=>h), .inr (fun _ _ _ _ h=>h),trivial⟩
  refine ⟨?_, ?_, ?_, ?_, ?_, ?_, ?_, ?_, ?_, ?_, ?_, ?_, ?_, ?_, ?_, ?_, ?_, ?_, ?_, ?_,trivial⟩<;>intro F' wF hER hEE hk'
  exact Fd_ 4 fld38_3 (hk'.qi 4) rfl qz
  exact Fd_ 45 fld33_9 (hk'.qe 0) rfl qz
  exact Hl_ 0 sc31 (hk'.qe 1) (hpo _ hER) rfl rfl qz
  exact Fd_ 41 fld45_9 (hk'.qi 3) rfl qz
  exact Hl_ 1 sc43 (hk'.qe 3) (hpo _ hER) rfl rfl qz
  exact dm (hk'.qi 5)
  exact wl_idx0 (by decide) sl43 (hk'.qe 4) (hk'.qe 5) hAe k rfl (by omega) qz
  exact wl_fld (by decide) fld86_0 (hk'.qe 6) qz
  exact wl_loadA (by decide) ag26 (hk'.qe 7) (((hate.fz (hER.weak (fun b _ h=>hKF b h))).at_.drop 0).take 32) rfl qz
  exact Fd_ 41 fld45_9 (hk'.qi 3) rfl qz
  exact Hl_ 1 sc43 (hk'.qe 9) (hpo _ hER) rfl rfl qz
  exact dm (hk'.qi 5)
  exact wl_idx0 (by decide) sl43 (hk'.qe 10) (hk'.qe 11) hAe k rfl (by omega) qz
  exact wl_fld (by decide) fld86_1 (hk'.qe 12) qz
  exact wl_load (by decide) sc84 (hk'.qe 13) ((hate.fz (hER.weak (fun b _ h=>hKF b h))).at_.drop 32).head qz
  ·have e56 := hk'.qe 8
   have e62:=hk'.qe 14
   refine wl_builtS (ps:= [(0, .tmp 56),(1, .tmp 62)]) (by decide) bld89 (by simp only [evp,ev,e56,e62];first|done|rfl) rfl ?_
   exact qz
  ·have e63 := hk'.qe 15
   refine wl_bslice (size:=33) (xs:= [.tmp 63]) (vs:= [.agg (digC x.dig++([.slice p0 x.wishes.length q0]:List Value)).toArray]) (by decide) sl31 rfl (by simp only [evs,ev,e63];first|done|rfl) rfl (by intro v hv;rw [List.mem_singleton.1 hv];rfl) leB_ 0 (Nat.zero_le _) ?_
   rintro gt wt hgt hot hEt
   exact qz ⟨hEt,gt,rfl,by rw [hgt];exact hER.size,hot⟩
  ·have hEx := hEE rfl
   have e50:=hk'.qe 2
   obtain ⟨u64,e64,h64⟩:=hk'.qp 16
   obtain ⟨gt,rfl,hgt0,hot⟩:=h64
   refine wl_append (size:=33) (m:=1) (news:=(digC x.dig++([.slice p0 x.wishes.length q0]:List Value))) (by decide) sl31 e50 e64 (hRo.ext hEx) rfl (fun b hb=>by cases hb;exact hot.at0) (by simp) (List.all_eq_true.1 rfl) (by omega) (Nat.zero_le _) ?_
   rintro A4 c4 w4' ho4 hch4 h44
   exact qz ⟨hch4.weak (fun b _ x => (hRk b).2 ⟨x.1, x.2.2⟩), A4, c4, rfl, ho4, fun b hb => (by
    rcases h44 with ⟨rfl,rfl⟩|rfl
    ·exact .inl ((hRk b).2 hb)
    ·obtain ⟨_, a, ha, rfl⟩ := hb
     cases ha
     exact .inr hEx.size)⟩
  exact Fd_ 4 fld38_3 (hk'.qi 4) rfl qz
  exact Fd_ 45 fld33_9 (hk'.qe 18) rfl qz
  intro F' wD hED hini hdo
  obtain ⟨u65,e65,h65⟩:=hdo 17 65 (Nat.lt_of_lt_of_eq (by decide) rfl) rfl
  obtain ⟨A4,c4,rfl,ho4,hK4⟩:=h65
  refine wl_drop [(2,_),(3,_),(4,_),(5,_),(65,_),(67,_)] ⟨di hini 2,di hini 3,di hini 4,di hini 5,e65,dr hdo 19,trivial⟩ ?_
  clear hini hdo e65
  replace hp:=hup _ (itR 89 33 A4 (k+1) c4 (rows.flatten++(digC x.dig++([.slice p0 x.wishes.length q0]:List Value)))) (fun b=>c4≠0∧blk A4 b) hED ⟨ho4,fun _=>Iff.rfl⟩ hK4
  have hfD:Frz Fz Fz wr wD:=⟨hED.weak (fun b _ h=>hKF b h),fun b h=>h⟩
  refine H1 1 hp (h:=fun w9 hp C9=>so ?_)
  have hf9:Frz Fz Fz wD w9:=⟨C9,fun b h=>h⟩
  have hf19:=Frz.bF hf9 hfD
  refine Kl [2,3,4,5] hKL (ba.length-(k+1)) ⟨k+1,A4,c4,rows++ [(digC x.dig++([.slice p0 x.wishes.length q0]:List Value))],rfl,by omega, ?_, ?_,Frz.bF hf19 hf,rfl⟩ (by omega)
  ·rw [flat_snoc,List.append_nil];exact hp
  ·rw [take_snoc bat0 hk9, hxe]
   exact RF.append (hR.to hf19) (RF.one ⟨p0,q0,rfl,he0.to hf19⟩)
 obtain rfl:k=ba.length:=by omega
 refine so ?_
 refine Hs 3 hp (h:=fun w9 hp C9=>so ?_)
 refine wk_postR (rs:= [.cell 2 38]) (.inl rfl) results23 ⟨_,_,_,rfl,rfl,loadVar_agg ag38 (hp.blkAt (i:=3) rfl).at0 rfl,rfl⟩ ?_
 rw [List.take_length] at hR
 have hF9:Frz Fz Fz wr w9:=⟨C9,fun b h=>h⟩
 have hR9:=hR.to hF9
 have hFw:Frz Fz Fz w w9:=mv
 refine ⟨_,rfl,_,_,rfl,hp.frzRowN.tail.tail.tail.tail,hFw.wid (fun b h=> .inl h), ?_⟩
 exact ⟨hI,B0,d0,B1,d1,B2,d2,B3,d3,B4,d4,A9,c9,B6,d6,B7,d7,B8,d8,B9,d9,rfl,(h0.to hFw).wid (fun b h=> .inl h),(h1.to hFw).wid (fun b h=> .inl h),(h2.to hFw).wid (fun b h=> .inl h),(h3.to hFw).wid (fun b h=> .inl h),(h4.to hFw).wid (fun b h=> .inl h),OwnRow.gsRF (r:=batR) (hp.rowAt (i:=0) rfl) (hR9.wid (fun b h=> .inl h)) (fun b hc hb=> .inr ⟨hc,hb⟩),(h6.to hFw).wid (fun b h=> .inl h),(h7.to hFw).wid (fun b h=> .inl h),(h8.to hFw).wid (fun b h=> .inl h),(h9.to hFw).wid (fun b h=> .inl h)⟩
set_option maxHeartbeats 4000000 in
theorem lOut_ok {w0 w:World} {M0 Fz:Nat→Prop} {H:List It} {cs:List Value} {r:Rpl} (hp:HP w0 M0 Fz w H) (hr:rplR.rd Fz w cs r) (hz:r.img.batches.length*56≤140737488355328):Ret prog 12 #[.agg cs.toArray] w (fun v w2=> ∃F2 cs,v= .agg (cs:List Value).toArray∧HP w0 M0 F2 w2 H∧Frz Fz F2 w w2∧rplR.rd F2 w2 cs r):=by
 obtain ⟨hI,B0,d0,B1,d1,B2,d2,B3,d3,B4,d4,B5,d5,B6,d6,B7,d7,B8,d8,B9,d9,rfl,h0,h1,h2,h3,h4,h5,h6,h7,h8,h9⟩:=hr
 obtain ⟨grp,ep,fl,nd,im,lf,ch,sta⟩:=r
 obtain ⟨vi,ac,lo,ow,ip,iq,ra,dn,en,ba⟩:=im
 simp only at hz h0 h1 h2 h3 h4 h5 h6 h7 h8 h9
 refine ret_of_wk func12 rfl ntmps12 leB_ ?_
 refine so ?_
 refine Bx hp (h:=fun g1 w1 hp E1=>so ?_)
 refine Alo hp (h:=fun g2 w2 hp E2=>so ?_)
 replace hp:=hp.as_ (H':=itB g2 47 rp0C::itB g1 38 _::H) rfl
 refine Alo hp (h:=fun g3 w3 hp E3=>so ?_)
 refine Hs 0 hp (h:=fun w4 hp C4=> ?_)
 replace hp:=hp.as_ (H':=itB g3 33 (([.int .i64 vi, .bool ac, .int .i64 lo.seq]:List Value)++(digC lo.dig++([.slice B1 ow.length d1, .slice B2 ip.length d2, .slice B3 iq.length d3,iv ra, .slice B4 dn.length d4, .bool en, .slice B5 ba.length d5]:List Value)))::itB g2 47 rp0C::itB g1 38 _::H) rfl
 refine so ?_
 refine wl_builtS (ps:= [(0, .tmp 9),(1, .tmp 11),(2, .tmp 13),(4, .tmp 15),(5, .tmp 17),(6, .tmp 19)]) (by decide) bld47 rfl rfl ?_
 refine so ?_
 refine Alo hp (h:=fun g4 w5 hp E5=>so ?_)
 refine Hs 0 hp (h:=fun w6 hp C6=> ?_)
 replace hp:=hp.as_ (H':=itB g4 47 (rpC grp ep fl (.slice B0 nd.length d0) im0C (.bool lf) [iv ch.node,iv ch.view,iv ch.low, .slice B6 ch.marks.length d6, .slice B7 ch.p.length d7, .slice B8 ch.q.length d8] (.slice B9 sta.length d9))::itB g3 33 (([.int .i64 vi, .bool ac, .int .i64 lo.seq]:List Value)++(digC lo.dig++([.slice B1 ow.length d1, .slice B2 ip.length d2, .slice B3 iq.length d3,iv ra, .slice B4 dn.length d4, .bool en, .slice B5 ba.length d5]:List Value)))::itB g2 47 rp0C::itB g1 38 _::H) rfl
 refine so ?_
 refine wl_builtS (ps:= [(0, .tmp 22),(1, .tmp 24),(2, .tmp 26),(3, .tmp 28),(4, .tmp 30),(5, .tmp 32),(6, .tmp 34),(7, .tmp 36),(8, .tmp 38)]) (by decide) bld45 rfl rfl ?_
 refine so ?_
 refine Hs 0 hp (h:=fun w7 hp C7=> ?_)
 replace hp:=(hp.as_ (H':=itB g4 47 (rpC grp ep fl (.slice B0 nd.length d0) (imC vi ac lo.seq lo.dig (.slice B1 ow.length d1) (.slice B2 ip.length d2) (.slice B3 iq.length d3) (iv ra) (.slice B4 dn.length d4) (.bool en) (.slice none 0 0)) (.bool lf) [iv ch.node,iv ch.view,iv ch.low, .slice B6 ch.marks.length d6, .slice B7 ch.p.length d7, .slice B8 ch.q.length d8] (.slice B9 sta.length d9))::itB g3 33 (([.int .i64 vi, .bool ac, .int .i64 lo.seq]:List Value)++(digC lo.dig++([.slice B1 ow.length d1, .slice B2 ip.length d2, .slice B3 iq.length d3,iv ra, .slice B4 dn.length d4, .bool en, .slice B5 ba.length d5]:List Value)))::itB g2 47 rp0C::itB g1 38 _::H) rfl).noRow 86 33
 obtain ⟨cg,hp⟩: ∃cg,HP w0 M0 Fz w7 (itR 86 33 none 0 0 ([]:List (List Value)).flatten::itB g4 47 (rpC grp ep fl (.slice B0 nd.length d0) (imC vi ac lo.seq lo.dig (.slice B1 ow.length d1) (.slice B2 ip.length d2) (.slice B3 iq.length d3) (iv ra) (.slice B4 dn.length d4) (.bool en) (.slice none 0 0)) (.bool lf) [iv ch.node,iv ch.view,iv ch.low, .slice B6 ch.marks.length d6, .slice B7 ch.p.length d7, .slice B8 ch.q.length d8] (.slice B9 sta.length d9))::itB g3 33 (([.int .i64 vi, .bool ac, .int .i64 lo.seq]:List Value)++(digC lo.dig++([.slice B1 ow.length d1, .slice B2 ip.length d2, .slice B3 iq.length d3,iv ra, .slice B4 dn.length d4, .bool en, .slice B5 ba.length d5]:List Value)))::itB g2 47 rp0C::itB g1 38 cg::H):=⟨_,hp⟩
 have hF7:Frz Fz Fz w w7:=mv
 have hb7:GS batR Fz w7 B5 d5 ba:=h5.to
 refine so ?_
 refine Lp [2,3,4,5] (fun L' w' mes=> ∃(k:Nat) (A9:Option Addr) (c9:Nat) (rows:List (List Value)),L'= [(2,pt g2 0),(3,pt g3 0),(4,pt g4 0),(5,iv (k:Int))]∧k≤ba.length∧HP w0 M0 Fz w' (itR 86 33 A9 k c9 rows.flatten::itB g4 47 (rpC grp ep fl (.slice B0 nd.length d0) (imC vi ac lo.seq lo.dig (.slice B1 ow.length d1) (.slice B2 ip.length d2) (.slice B3 iq.length d3) (iv ra) (.slice B4 dn.length d4) (.bool en) (.slice A9 k c9)) (.bool lf) [iv ch.node,iv ch.view,iv ch.low, .slice B6 ch.marks.length d6, .slice B7 ch.p.length d7, .slice B8 ch.q.length d8] (.slice B9 sta.length d9))::itB g3 33 (([.int .i64 vi, .bool ac, .int .i64 lo.seq]:List Value)++(digC lo.dig++([.slice B1 ow.length d1, .slice B2 ip.length d2, .slice B3 iq.length d3,iv ra, .slice B4 dn.length d4, .bool en, .slice B5 ba.length d5]:List Value)))::itB g2 47 rp0C::itB g1 38 cg::H)∧RF batR Fz w' rows (ba.take k)∧Frz Fz Fz w7 w'∧ba.length-k=mes) (ba.length-0) ⟨0,none,0, [],rfl,Nat.zero_le _,hp,RF.nil _ _ _,Frz.start _ _,rfl⟩ ?_
 rintro _ wr _ ⟨k,A9,c9,rows,rfl,hk,hp,hR,hf,rfl⟩ KL hKL
 have hbr:GS batR Fz wr B5 d5 ba:=hb7.to hf
 refine so ?_
 refine Cd ?_ ?_<;>intro hc
 ·have hk9 : k < ba.length := by omega
  obtain ⟨ae,p0,q0,hAe,hate,he0⟩:=batR_el hbr k hk9
  generalize hxe:ba.getD k bat0=x at hate he0
  refine so ?_
  obtain ⟨KM,⟨hRo,hRk⟩,hKF,hKlt,hpo,hup⟩:=hp.apart (i:=0) rfl
  apply wc_drawTM 20 17 KM [.eq _, .eq _, .eq _, .eq _, .eq _, .eq _, .eq _, .eq _, .eq _, .eq _, .eq _, .eq _, .eq _, .eq _, .eq _, .eq _,SP.tmpR wr.heap.size 86 33 1 (digC x.dig++([.slice p0 x.wishes.length q0]:List Value)),SP.turn KM wr.heap.size 86 33 (k+1) (rows.flatten++(digC x.dig++([.slice p0 x.wishes.length q0]:List Value))), .eq (pt g4 4), .eq (pt g4 45)] (by kernel_rfl) (by kernel_rfl) ⟨.inr (fun _ _ _ _ h=>h), .inr (fun _ _ _ _ h=>h), .inr (fun _ _ _ _ h=>h), .inr (fun _ _ _ _ h=>h), .inr (fun _ _ _ _ h=>h), .inr (fun _ _ _ _ h=>h), .inr (fun _ _ _ _ h=>h), .inr (fun _ _ _ _ h=>h), .inr (fun _ _ _ _ h=>h), .inr (fun _ _ _ _ h=>h), .inr (fun _ _ _ _ h=>h), .inr (fun _ _ _ _ h=>h), .inr (fun _ _ _ _ h=>h), .inr (fun _ _ _ _ h=>h), .inr (fun _ _ _ _ h=>h), .inr (fun _ _ _ _ h=>h), .inr (SP.tmpR_st hKlt), .inl rfl, .inr (fun _ _ _ _ h=>h), .inr (fun _ _ _ _ h=>h),trivial⟩
  refine ⟨?_, ?_, ?_, ?_, ?_, ?_, ?_, ?_, ?_, ?_, ?_, ?_, ?_, ?_, ?_, ?_, ?_, ?_, ?_, ?_,trivial⟩<;>intro F' wF hER hEE hk'
  exact Fd_ 4 fld47_3 (hk'.qi 4) rfl qz
  exact Fd_ 45 fld45_9 (hk'.qe 0) rfl qz
  exact Hl_ 0 sc43 (hk'.qe 1) (hpo _ hER) rfl rfl qz
  exact Fd_ 41 fld33_9 (hk'.qi 3) rfl qz
  exact Hl_ 1 sc31 (hk'.qe 3) (hpo _ hER) rfl rfl qz
  exact dm (hk'.qi 5)
  exact wl_idx0 (by decide) sl31 (hk'.qe 4) (hk'.qe 5) hAe k rfl (by omega) qz
  exact wl_fld (by decide) fld89_0 (hk'.qe 6) qz
  exact wl_loadA (by decide) ag26 (hk'.qe 7) (((hate.fz (hER.weak (fun b _ h=>hKF b h))).at_.drop 0).take 32) rfl qz
  exact Fd_ 41 fld33_9 (hk'.qi 3) rfl qz
  exact Hl_ 1 sc31 (hk'.qe 9) (hpo _ hER) rfl rfl qz
  exact dm (hk'.qi 5)
  exact wl_idx0 (by decide) sl31 (hk'.qe 10) (hk'.qe 11) hAe k rfl (by omega) qz
  exact wl_fld (by decide) fld89_1 (hk'.qe 12) qz
  exact wl_load (by decide) sc84 (hk'.qe 13) ((hate.fz (hER.weak (fun b _ h=>hKF b h))).at_.drop 32).head qz
  ·have e56 := hk'.qe 8
   have e62:=hk'.qe 14
   refine wl_builtS (ps:= [(0, .tmp 56),(1, .tmp 62)]) (by decide) bld86 (by simp only [evp,ev,e56,e62];first|done|rfl) rfl ?_
   exact qz
  ·have e63 := hk'.qe 15
   refine wl_bslice (size:=33) (xs:= [.tmp 63]) (vs:= [.agg (digC x.dig++([.slice p0 x.wishes.length q0]:List Value)).toArray]) (by decide) sl43 rfl (by simp only [evs,ev,e63];first|done|rfl) rfl (by intro v hv;rw [List.mem_singleton.1 hv];rfl) leB_ 0 (Nat.zero_le _) ?_
   rintro gt wt hgt hot hEt
   exact qz ⟨hEt,gt,rfl,by rw [hgt];exact hER.size,hot⟩
  ·have hEx := hEE rfl
   have e50:=hk'.qe 2
   obtain ⟨u64,e64,h64⟩:=hk'.qp 16
   obtain ⟨gt,rfl,hgt0,hot⟩:=h64
   refine wl_append (size:=33) (m:=1) (news:=(digC x.dig++([.slice p0 x.wishes.length q0]:List Value))) (by decide) sl43 e50 e64 (hRo.ext hEx) rfl (fun b hb=>by cases hb;exact hot.at0) (by simp) (List.all_eq_true.1 rfl) (by omega) (Nat.zero_le _) ?_
   rintro A4 c4 w4' ho4 hch4 h44
   exact qz ⟨hch4.weak (fun b _ x => (hRk b).2 ⟨x.1, x.2.2⟩), A4, c4, rfl, ho4, fun b hb => (by
    rcases h44 with ⟨rfl,rfl⟩|rfl
    ·exact .inl ((hRk b).2 hb)
    ·obtain ⟨_, a, ha, rfl⟩ := hb
     cases ha
     exact .inr hEx.size)⟩
  exact Fd_ 4 fld47_3 (hk'.qi 4) rfl qz
  exact Fd_ 45 fld45_9 (hk'.qe 18) rfl qz
  intro F' wD hED hini hdo
  obtain ⟨u65,e65,h65⟩:=hdo 17 65 (Nat.lt_of_lt_of_eq (by decide) rfl) rfl
  obtain ⟨A4,c4,rfl,ho4,hK4⟩:=h65
  refine wl_drop [(2,_),(3,_),(4,_),(5,_),(65,_),(67,_)] ⟨di hini 2,di hini 3,di hini 4,di hini 5,e65,dr hdo 19,trivial⟩ ?_
  clear hini hdo e65
  replace hp:=hup _ (itR 86 33 A4 (k+1) c4 (rows.flatten++(digC x.dig++([.slice p0 x.wishes.length q0]:List Value)))) (fun b=>c4≠0∧blk A4 b) hED ⟨ho4,fun _=>Iff.rfl⟩ hK4
  have hfD:Frz Fz Fz wr wD:=⟨hED.weak (fun b _ h=>hKF b h),fun b h=>h⟩
  refine H1 1 hp (h:=fun w9 hp C9=>so ?_)
  have hf9:Frz Fz Fz wD w9:=⟨C9,fun b h=>h⟩
  have hf19:=Frz.bF hf9 hfD
  refine Kl [2,3,4,5] hKL (ba.length-(k+1)) ⟨k+1,A4,c4,rows++ [(digC x.dig++([.slice p0 x.wishes.length q0]:List Value))],rfl,by omega, ?_, ?_,Frz.bF hf19 hf,rfl⟩ (by omega)
  ·rw [flat_snoc,List.append_nil];exact hp
  ·rw [take_snoc bat0 hk9, hxe]
   exact RF.append (hR.to hf19) (RF.one ⟨p0,q0,rfl,he0.to hf19⟩)
 obtain rfl:k=ba.length:=by omega
 refine so ?_
 refine Hs 3 hp (h:=fun w9 hp C9=>so ?_)
 refine wk_postR (rs:= [.cell 2 47]) (.inl rfl) results12 ⟨_,_,_,rfl,rfl,loadVar_agg ag47 (hp.blkAt (i:=3) rfl).at0 rfl,rfl⟩ ?_
 rw [List.take_length] at hR
 have hF9:Frz Fz Fz wr w9:=⟨C9,fun b h=>h⟩
 have hR9:=hR.to hF9
 have hFw:Frz Fz Fz w w9:=mv
 refine ⟨_,rfl,_,_,rfl,hp.frzRowN.tail.tail.tail.tail,hFw.wid (fun b h=> .inl h), ?_⟩
 exact ⟨hI,B0,d0,B1,d1,B2,d2,B3,d3,B4,d4,A9,c9,B6,d6,B7,d7,B8,d8,B9,d9,rfl,(h0.to hFw).wid (fun b h=> .inl h),(h1.to hFw).wid (fun b h=> .inl h),(h2.to hFw).wid (fun b h=> .inl h),(h3.to hFw).wid (fun b h=> .inl h),(h4.to hFw).wid (fun b h=> .inl h),OwnRow.gsRF (r:=batR) (hp.rowAt (i:=0) rfl) (hR9.wid (fun b h=> .inl h)) (fun b hc hb=> .inr ⟨hc,hb⟩),(h6.to hFw).wid (fun b h=> .inl h),(h7.to hFw).wid (fun b h=> .inl h),(h8.to hFw).wid (fun b h=> .inl h),(h9.to hFw).wid (fun b h=> .inl h)⟩
abbrev ReadsU (w:World) (cs:List Value) (x:Rpl):Prop:=rplR.rd (fun _=>True) w cs x
theorem rpl0_bat:rpl0.img.batches.length*56≤140737488355328:=by decide
end Go.Proofs.YtmbpneaibmldfaaGreat
