/- What each of these functions computes, for every argument that its theorem names; a part of what the proof of ImageOnce stands on. -/
import Derived.Test.YtmbpneaibmldfaaGreatAac
import Derived.Test.YtmbpneaibmldfaaGreatAad
import Derived.Test.YtmbpneaibmldfaaGreatAaf
import Derived.Test.YtmbpneaibmldfaaGreatAag
import Derived.Test.YtmbpneaibmldfaaGreatAai
import Derived.Test.YtmbpneaibmldfaaGreatAaj
import Derived.Test.YtmbpneaibmldfaaGreatAak
import Derived.Test.YtmbpneaibmldfaaGreatAal
import Derived.Test.YtmbpneaibmldfaaGreatAao
import Derived.Test.YtmbpneaibmldfaaGreatAap
import Derived.Test.YtmbpneaibmldfaaGreatAaq
namespace Go.Proofs.YtmbpneaibmldfaaGreat
open Go.RowKit Go.Eng Go.Eng _root_.Go.Proofs.Tryz
set_option maxRecDepth 100000
variable {w0 w:World} {M0 Fz:Nat→Prop} {H:List It} {A:Option Addr} {c:Nat}
set_option maxHeartbeats 40000000 in
theorem nBatchMay_ok {Al:Option Addr} {cl:Nat} {l:List Wsh} {Sl:Nat→Prop} {csn:List Value} {n:Nte} {Sn:Nat→Prop} (hl:GS wishR Sl w Al cl l) (hn:noteR.rd Sn w csn n):Ret prog 196 #[.slice Al l.length cl, .agg csn.toArray] w (fun v w'=>v= .bool (decide (BatchMay l n.group n.epoch))∧Ext w w'):=by
 have qhn:=hn
 obtain ⟨hIn,An0,cn0,An1,cn1,An2,cn2,An3,cn3,An4,cn4,An5,cn5,An6,cn6,An7,cn7,An8,cn8,An9,cn9,An10,cn10,rfl,hn0,hn1,hn2,hn3,hn4,hn5,hn6,hn7,hn8,hn9,hn10⟩:=hn
 refine ret_of_wk func196 rfl ntmps196 leB_ ?_
 have hp:=HP.begin_ w
 refine so ?_
 refine Bx hp (h:=fun gs3 w1 hp hE1=>so ?_)
 refine Gs 8 ?_ ?_<;>intro hg1<;>refine so ?_
 have hblk:=hp.blkAt (i:=0) rfl
 have hatb:AtF (fun _=>True) _ _ _:=⟨hblk.at0,trivial,hblk.lt⟩
 have hrdb:noteR.rd (fun b=>b<w.heap.size) _ _ n:=(rdTn qhn (w':=w1))
 refine Cx hp (fWCon_ok (fid:=221) (first:= []) (cap:= [pt gs3 0]) (p0:=fun x=> ¬BM n.group n.epoch x) hl.tn cl221 (fun w1 cs x hE hr=>batchMay1_ok hr (hatb.ext hE) (noteR.keep hE (fun _ _ _ x=>x) hrdb))) fun w7 hp hE7=>so ?_
 refine Pt ?_
 exact ⟨_,rfl,congrArg Value.bool (decide_eq_decide.2 (by unfold BatchMay;first|omega|(simp_all;try omega))),hp.chg⟩
 refine Pt ?_
 exact ⟨_,rfl,bool_f (by unfold BatchMay;first|omega|(simp_all;try omega)),hp.chg⟩
set_option maxHeartbeats 4000000 in
theorem r11StrW_ok {As:Option Addr} {cs:Nat} {s:List UInt8} {Ss:Nat→Prop} {w:World} (hs:GS byteR Ss w As cs s) (hn:s.length≤65536):Ret Tryz.prog 86 #[.slice As s.length cs] w (fun v w'=> ∃A' c',v= .slice A' (strE s).length c'∧OwnB 5 w.heap.size w' A' c' (strE s)∧Ext w w'):=by
 have mhs:=hs.mx
 refine ret_of_wk Tryz.func86 rfl Tryz.ntmps86 (Nat.le_of_ble_eq_true rfl) ?_
 have hEc:Ext w w:=Chg.refl _ _
 refine wc_seq ?_
 refine wc_region ?_
 refine wl_assign (by decide) rfl ?_
 refine wl_nil ?_
 refine wk_norm ?_
 refine wc_seq ?_
 refine wc_region ?_
 refine wl_move (by decide) rfl ?_
 refine wl_call (by decide) Tryz.cl87 rfl (rstr_is hs hn) ?_
 rintro _ w1 ⟨A1,c1,rfl,ho1,hE1⟩
 replace hs:=hs.ext hE1
 replace hEc:=hEc.trans hE1
 refine wl_move (by decide) rfl ?_
 refine wl_extract (by decide) rfl rfl ?_
 refine wl_extract (by decide) rfl rfl ?_
 refine wl_assign (by decide) rfl ?_
 refine wl_assign (by decide) rfl ?_
 refine wl_nil ?_
 refine wk_norm ?_
 refine wc_seq ?_
 refine wc_region ?_
 refine wl_move (by decide) rfl ?_
 refine wl_assign (by decide) rfl ?_
 refine wl_nil ?_
 refine wk_norm ?_
 refine wc_ret ?_
 refine wk_post1 (.inl rfl) Tryz.results86 rfl ?_
 exact ⟨_,rfl,A1,c1,rfl,ho1,hEc⟩
set_option maxHeartbeats 40000000 in
theorem rAnswer_ok {gr:Nat} {l:List UInt8} {bad:Bool} {X:List Value→It} {pX:Addr} (hp:HP w0 M0 Fz w (itB gr 223 [.slice A l.length c, .bool bad]::X ([.int .i64 0, .slice none 0 0, .int .i64 0, .slice none 0 0])::H)) (hS:Slot X pX 4) (hl:GS byteR Fz w A c l):Ret prog 189 #[.iface 221 (.pointer (some ⟨gr,0,none⟩)), .pointer (some pX)] w (RdP 223 gr w0 M0 Fz w H X ansR ansP bad l):=by
 refine ret_of_wk func189 rfl ntmps189 leB_ ?_
 refine so ?_
 rw [add_zero']
 refine Ld_ sc39 rfl (hp.slotAt (i:=1) hS rfl rfl).head ?_
 refine Alo hp (h:=fun gs4 w1 hp hE1=> ?_)
 refine H1 0 hp (h:=fun w2 hp hC2=>so ?_)
 replace hp:=((hp.up 0 rfl).up 1 rfl).as_ (H':=itB gr 223 [.slice A l.length c, .bool bad]::itB gs4 3 ([iv 0])::X ([iv 0,s0,iv 0,s0])::H) rfl
 refine Ci rfl (nNum_ok (X:=(fun cs=>itB gs4 3 (([])++(cs++([]))))) (pX:=⟨gs4,0,none⟩) (v0:=0) hp (Slot.blk ([]) ([])) hl.to (by unfold i64;omega)) ?_
 rintro _ w3 ⟨F3,A3,c3,l3,b3,cs3,x3,hp,hF3,hl3,hrd3,hst3⟩
 obtain ⟨hI3,rfl⟩:=hrd3
 refine so ?_
 rw [add_zero']
 refine wl_sstore1 0 (i:=2) hS (by rw [add_zero'];rfl) rfl hp rfl rfl sz39 (by decide) rfl ?_
 rintro w4 hp hC4
 refine so ?_
 refine wP 7 hp (h:=fun wD hp hED=> ?_)
 replace hp:=((hp.up 2 rfl).up 1 rfl).as_ (H':=itB gr 223 ([.slice A3 l3.length c3, .bool b3])::X ([iv x3,s0,iv 0,s0])::itB gs4 3 ([iv x3])::H) rfl
 refine Ci rfl (nStr_ok (X:=(fun cs=>X (([iv x3])++(cs++([iv 0,s0]))))) (pX:=(pX.add 1)) (most:=16) hp (hS.sub ([iv x3]) ([iv 0,s0]) rfl) hl3.to) ?_
 rintro _ w5 ⟨F5,A5,c5,l5,b5,cs5,x5,hp,hF5,hl5,hrd5,hst5⟩
 obtain ⟨B5,d5,rfl,hg5⟩:=hrd5
 refine so ?_
 refine wP 7 hp (h:=fun wD hp hED=> ?_)
 refine Ci rfl (nNum_ok (X:=(fun cs=>X (([iv x3, .slice B5 x5.length d5])++(cs++([s0]))))) (pX:=(pX.add 2)) (v0:=0) hp (hS.sub ([iv x3, .slice B5 x5.length d5]) ([s0]) rfl) hl5.to (by unfold i64;omega)) ?_
 rintro _ w6 ⟨F6,A6,c6,l6,b6,cs6,x6,hp,hF6,hl6,hrd6,hst6⟩
 obtain ⟨hI6,rfl⟩:=hrd6
 refine so ?_
 refine wdP 7 hp (fun wD hp hED=>by refine pm ?_;exact .op rfl (wl_nilCheckI (by decide) rfl (wl_nil qp)) pl) fun wD hp hED=> ?_
 refine Ce (rListI_ok (X:=(fun cs=>X (([iv x3, .slice B5 x5.length d5,iv x6])++(cs++([]))))) (pX:=(pX.add 3)) (p:=numP) (most:=7) (FV:= .func (.method "bastide/note.num") [Value.iface 221 (pt gr 0)].toArray ([]:List Value).toArray) hp (hS.sub ([iv x3, .slice B5 x5.length d5,iv x6]) ([]) rfl) hl6.to (fun w1 F1 H1 X pa A c l bad hF hp hS hl=>RetV.meth (vs:= [.pointer (some pa)]) mt250 (nNum_ok (v0:=0) hp hS hl (by unfold i64;omega))) (by decide)) ?_
 rintro _ w7 ⟨F7,A7,c7,l7,b7,cs7,x7,hp,hF7,hl7,hrd7,hst7⟩
 obtain ⟨B7,d7,rfl,hg7⟩:=hrd7
 replace hg7:=hg7.ints
 refine so ?_
 refine wk_post0 (.inr rfl) results189 ?_
 exact ⟨_,rfl,_,A7,c7,l7,b7,_,({err:=x3,data:=x5,epoch:=x6,nodes:=x7}:Ans),(((hp.up 2 rfl).tail.up 1 rfl).up 1 rfl),mv,hl7,⟨⟨hI3,hI6⟩,_,_,_,_,rfl,hg5.to,hg7⟩,StepP.bind hst3 (StepP.bind hst5 (StepP.bind hst6 (StepP.bind hst7 (StepP.pure _ _))))⟩
theorem t0_gChange_ok {p:Prop} (h:p:=by simp only [changeE,digE,List.length_append] at hlen⊢;omega):p:=h
set_option maxHeartbeats 40000000 in
theorem gChange_ok {gw:Nat} {out:List UInt8} {pa:Addr} {cs:List Value} {x:Chn} (hp:HP w0 M0 Fz w (itB gw 132 [.slice A out.length c]::itR 5 1 A out.length c (out.map bv)::H)) (hatx:AtF Fz w pa cs) (hrd:changeR.rd Fz w cs x) (hok:changeOk x) (hlen:out.length+(changeE x).length≤1000000):Ret prog 81 #[.iface 130 (.pointer (some ⟨gw,0,none⟩)), .pointer (some pa)] w (WrP 5 132 gw w0 M0 Fz w H (out++changeE x)):=by
 obtain ⟨hIx,B0,d0,B1,d1,B2,d2,rfl,hx0,hx1,hx2⟩:=hrd
 refine ret_of_wk func81 rfl ntmps81 leB_ ?_
 refine so ?_
 refine Bx hp (h:=fun gs2 wc1 hpc1 hEc1=> ?_)
 replace hp:=hpc1
 obtain ⟨Fzc,hpc2,hsc2,hcap⟩:=(hp.as_ (H':=itB gs2 179 [.iface 130 (pt gw 0)]::_) rfl).frzBlk
 replace hp:=hpc2
 refine so ?_
 refine wP 7 hp (h:=fun wD hp hED=> ?_)
 refine Ci rfl (gNum_ok hp (hatx.to.sub 0 1) hok.1 t0_gChange_ok) ?_
 rintro _ w1 ⟨A1,c1,hp,hF1⟩
 refine so ?_
 refine wP 7 hp (h:=fun wD hp hED=> ?_)
 refine Ci rfl (gNum_ok hp (hatx.to.sub 1 1) hok.2.1 t0_gChange_ok) ?_
 rintro _ w2 ⟨A2,c2,hp,hF2⟩
 refine so ?_
 refine wP 7 hp (h:=fun wD hp hED=> ?_)
 refine Ci rfl (gNum_ok hp (hatx.to.sub 2 1) hok.2.2.1 t0_gChange_ok) ?_
 rintro _ w3 ⟨A3,c3,hp,hF3⟩
 refine so ?_
 refine wP 5 hp (h:=fun wD hp hED=> ?_)
 refine Ce (gListM_ok (E:=markE) (ok:=markOk) (FV:= .func (.func 131) ([]:List Value).toArray [Value.pointer (some ⟨gs2,0,none⟩)].toArray) (most:=5) hp (hatx.to.sub 3 1) hx0.to (hok.2.2.2.1).2 (fun w1 H1 A c out pa cs x hF hp hat hrd hok hlen=>RetV.func (first:= []) (cap:= [pt gs2 0]) (vs:= [.pointer (some pa)]) cl131 (gMark_ok hp hat hrd hok hlen (hcap.to.frz hF))) (by have:=(hok.2.2.2.1).1;unfold isNum;omega) t0_gChange_ok) ?_
 rintro _ w4 ⟨A4,c4,hp,hF4⟩
 refine so ?_
 apply wdT 6 [.eq _,.eq _,.eq _,.eq _,.eq _,SP.clo _ 179 159 [.iface 130 (pt gw 0)]]
 refine ⟨?_,?_,?_,?_,?_,?_,trivial⟩<;>intro F wF hER hk
 exact Ld_ sc179 (hk.qi 2) hcap.to.head qz
 exact dm (hk.qi 1)
 exact Nc_ (hk.qe 1) qz
 exact Fe_ fld35_4 (hk.qe 2) qz
 exact Ld_ sc179 (hk.qi 2) hcap.to.head qz
 have e38:=hk.qe 4
 have hcl:=nStand_ok (w:=wF) (t:=130) (v0:=pt gw 0)
 refine Cl_ cl133 (by simp only [evs,ev,e38];first|done|rfl) hcl ?_
 clear hcl
 rintro _ w7 ⟨g7,rfl,hg7,hb7,hE7⟩
 exact qz ⟨hE7,g7,rfl,Nat.le_trans hER.size hg7,hb7⟩
 intro F wD hED hini hdo
 have e1:=di hini 1
 have e2:=di hini 2
 have e34:=dr hdo 0
 have e37:=dr hdo 3
 obtain ⟨u39,e39,h39⟩:=hdo 5 39 (Nat.lt_of_lt_of_eq (by decide) rfl) rfl
 obtain ⟨g39,rfl,hge39,hb39⟩:=h39
 refine wl_drop [(1,_),(2,_),(34,_),(37,_),(39,_)] ⟨e1,e2,e34,e37,e39,trivial⟩ ?_
 clear e1 e2 e34 e37 e39 hini hdo
 obtain ⟨Fz5,hp5,hsub5,hnew5,hup5⟩:=hp.frz hED
 replace hp:=hp5
 have hBq39:Blk wD g39 179 [.iface 130 (pt gw 0)]:=hb39
 have hcq39:AtF Fz5 wD ⟨g39,0,none⟩ [.iface 130 (pt gw 0)]:=⟨hBq39.at0,hnew5 _ hge39 hBq39.lt,hBq39.lt⟩
 refine Ce (gListS_ok (E:=standE) (ok:=standOk) (FV:= .func (.func 159) ([]:List Value).toArray [Value.pointer (some ⟨g39,0,none⟩)].toArray) (most:=8) hp (hatx.to.sub 4 1) hx1.to (hok.2.2.2.2.1).2 (fun w1 H1 A c out pa cs x hF hp hat hrd hok hlen=>RetV.func (first:= []) (cap:= [pt g39 0]) (vs:= [.pointer (some pa)]) cl159 (gStand_ok hp hat hrd hok hlen (hcq39.frz hF))) (by have:=(hok.2.2.2.2.1).1;unfold isNum;omega) t0_gChange_ok) ?_
 rintro _ w6 ⟨A6,c6,hp,hF6⟩
 refine so ?_
 apply wdT 6 [.eq _,.eq _,.eq _,.eq _,.eq _,SP.clo _ 179 159 [.iface 130 (pt gw 0)]]
 refine ⟨?_,?_,?_,?_,?_,?_,trivial⟩<;>intro F wF hER hk
 exact Ld_ sc179 (hk.qi 2) hcap.to.head qz
 exact dm (hk.qi 1)
 exact Nc_ (hk.qe 1) qz
 exact Fe_ fld35_5 (hk.qe 2) qz
 exact Ld_ sc179 (hk.qi 2) hcap.to.head qz
 have e45:=hk.qe 4
 have hcl:=nStand_ok (w:=wF) (t:=130) (v0:=pt gw 0)
 refine Cl_ cl133 (by simp only [evs,ev,e45];first|done|rfl) hcl ?_
 clear hcl
 rintro _ w7 ⟨g7,rfl,hg7,hb7,hE7⟩
 exact qz ⟨hE7,g7,rfl,Nat.le_trans hER.size hg7,hb7⟩
 intro F wD hED hini hdo
 have e41:=dr hdo 0
 have e44:=dr hdo 3
 obtain ⟨u46,e46,h46⟩:=hdo 5 46 (Nat.lt_of_lt_of_eq (by decide) rfl) rfl
 obtain ⟨g46,rfl,hge46,hb46⟩:=h46
 refine wl_drop [(41,_),(44,_),(46,_)] ⟨e41,e44,e46,trivial⟩ ?_
 clear e41 e44 e46 hini hdo
 obtain ⟨Fz7,hp7,hsub7,hnew7,hup7⟩:=hp.frz hED
 replace hp:=hp7
 have hBq46:Blk wD g46 179 [.iface 130 (pt gw 0)]:=hb46
 have hcq46:AtF Fz7 wD ⟨g46,0,none⟩ [.iface 130 (pt gw 0)]:=⟨hBq46.at0,hnew7 _ hge46 hBq46.lt,hBq46.lt⟩
 refine Ce (gListS_ok (E:=standE) (ok:=standOk) (FV:= .func (.func 159) ([]:List Value).toArray [Value.pointer (some ⟨g46,0,none⟩)].toArray) (most:=32) hp (hatx.to.sub 5 1) hx2.to (hok.2.2.2.2.2).2 (fun w1 H1 A c out pa cs x hF hp hat hrd hok hlen=>RetV.func (first:= []) (cap:= [pt g46 0]) (vs:= [.pointer (some pa)]) cl159 (gStand_ok hp hat hrd hok hlen (hcq46.frz hF))) (by have:=(hok.2.2.2.2.2).1;unfold isNum;omega) t0_gChange_ok) ?_
 rintro _ w8 ⟨A8,c8,hp,hF8⟩
 refine so ?_
 refine wk_post0 (.inr rfl) results81 ?_
 rw [show out++changeE x=((((((out++numE x.node)++numE x.view)++numE x.low)++listE markE x.marks)++listE standE x.p)++listE standE x.q) from by simp only [changeE,←List.append_assoc]]
 have hFr:=mv (S:=Fz) (w:=w) (w':=w8)
 exact ⟨_,rfl,_,_,hp.less hFr.sub,hFr.chg,fun _ h=>h⟩
theorem t0_wUnb_ok {p:Prop} (h:p:=by first|exact .inr (by omega)|exact .inl (decide_eq_true (by assumption))|exact .inl (by assumption)):p:=h
set_option maxHeartbeats 40000000 in
theorem wUnb_ok {l:List UInt8} (hp:HP w0 M0 Fz w H) (hl:GS byteR Fz w A c l):Ret prog 143 #[.slice A l.length c] w (fun v w2=> ∃F2 A' c' xs e,v= .tuple #[.slice A' (xs:List Wsh).length c', .int .i64 e]∧HP w0 M0 F2 w2 H∧Frz Fz F2 w w2∧GS wishR F2 w2 A' c' xs∧UnbR l xs e):=by
 refine ret_of_wk func143 rfl ntmps143 leB_ ?_
 refine so ?_
 refine wl_builtS (ps:= [(0, .tmp 10)]) (by decide) bld220 rfl rfl ?_
 refine Bx hp (h:=fun gs12 w1 hp hE1=>so ?_)
 refine Ce (wMany_ok (most:=4) hp hl.to (by decide)) ?_
 rintro _ w2 ⟨F2,A2,c2,l2,b2,x2,rfl,hp,hF2,hl2,hst2,hxm2⟩
 refine so ?_
 refine Lp [4, 5, 14, 15] (fun L' w' mes => ∃ (k : Nat), ∃ (Fq : Nat → Prop), ∃ (Aq : Option Addr), ∃ (cq : Nat), ∃ (lq : List UInt8), ∃ (bq : Int), ∃ (AL : Option Addr), ∃ (cL : Nat), ∃ (xs : List Wsh), ∃ (rows : List (List Value)), L' = [(4, pt gs12 0), (5, .slice AL xs.length cL), (14, iv x2), (15, iv (k : Int))] ∧ (k ≤ x2.toNat) ∧ (xs.length = k) ∧ (RF wishR Fq w' rows xs) ∧ (Frz Fz Fq w w') ∧ (GS byteR Fq w' Aq cq lq) ∧ (StepP (repP witemP k) (rst (decide (b2 ≠ 0)) l2) (rst (decide (bq ≠ 0)) lq) xs) ∧ (HP w0 M0 Fq w' (itB gs12 220 [.slice Aq lq.length cq, iv bq] :: itR 112 10 AL xs.length cL rows.flatten :: H)) ∧ x2.toNat - k = mes) (x2.toNat - 0) (by
     refine ⟨0,F2,A2,c2,l2,b2,none,0, [], [],rfl,Nat.zero_le _, ?_,RF.nil _ _ _,mv,hl2,StepP.pure _ _,((((hp.noRow 112 10).up 0 rfl).up 1 rfl)).as_ (H':=_::_::_) rfl,rfl⟩
     rfl) ?_
 rintro _ wr _ ⟨k,Fq,Aq,cq,lq,bq,AL,cL,xs,rows,rfl,hk,hxk,hRF,hFr,hlq,hstL,hp,rfl⟩ KL1 hKL1
 refine so ?_
 refine Cd ?_ ?_<;>intro hc1<;>refine so ?_
 refine Ce (wStr_ok (most:=256) hp hlq) ?_
 rintro v3 w3 ⟨F3,A3,c3,l3,b3,cs3,x3,hv3,hp,hF3,hl3,hrd3,hst3⟩
 obtain ⟨B3,d3,rfl,hg3⟩:=hrd3
 obtain rfl:v3= .slice B3 x3.length d3:=hv3
 refine so ?_
 refine Cd ?_ ?_<;>intro hc2<;>refine so ?_
 refine wP 6 hp (h:=fun wD hp hED=>so ?_)
 refine P2 results143 ?_
 have hpE:=hp.tail.tail
 exact ⟨_,rfl,_,none,0, [],_,rfl,hpE,mv,gsn, .inr ⟨by assumption,unb_fail (StepP.bind hst2 (rep_fail (k:=k) (n:=x2.toNat) hstL (step_witem_no (x:=wish0) (eP:=0) hst3 (.inl (by assumption))) (by omega))),rfl⟩⟩
 refine Ce (wParse_ok hp hg3) ?_
 rintro _ w4 ⟨F4,cs4,x4,e4,rfl,hp,hF4,hrd4,hpr4⟩
 have qhrd4:=hrd4
 obtain ⟨hI4,A4_0,c4_0,A4_1,c4_1,rfl,hr4_0,hr4_1⟩:=hrd4
 refine so ?_
 refine Alo hp (h:=fun gs7 w5 hp hE5=> ?_)
 refine Hs 0 hp (h:=fun w6 hp hC6=>so ?_)
 refine Cd ?_ ?_<;>intro hc3<;>refine so ?_
 refine P2 results143 ?_
 have hpE:=hp.tail.tail.tail
 exact ⟨_,rfl,_,none,0, [],_,rfl,hpE,mv,gsn, .inr ⟨by assumption,unb_fail (StepP.bind hst2 (rep_fail (k:=k) (n:=x2.toNat) hstL (step_witem_no hst3 (.inr ⟨by assumption,hpr4,by assumption⟩)) (by omega))),rfl⟩⟩
 refine wl_oneOf (by decide) sl84 rfl rfl rfl leB_ ?_
 rintro _ wo hOn hEo
 replace hp:=hp.ext hEo
 obtain ⟨gt,rfl,hat9⟩:=hOn
 refine wl_happend (i:=2) (m:=1) (size:=10) (news:= [iv x4.client,iv x4.stamp,iv x4.group,iv x4.epoch,iv x4.kind,iv x4.block, .slice A4_0 x4.data.length c4_0,iv x4.old,iv x4.new, .slice A4_1 x4.next.length c4_1]) (by decide) sl84 rfl rfl hp rfl rfl (fun b hb=>by cases hb;exact hat9) (by simp) (List.all_eq_true.1 rfl) (by omega) ?_
 rintro Aw cw ww hpw hCw
 replace hp:=hpw
 have hst4:=step_witem hst3 (by assumption) hpr4 (by assumption)
 refine sl ?_
 refine wc_region ?_
 refine sl ?_
 refine wk_drop [(4,pt gs12 0),(5, .slice Aw (xs++ [x4]).length cw),(14,iv x2),(15,iv ((k+1):Int))] ⟨rfl,(by rw [List.length_append];rfl),rfl,rfl,trivial⟩ (hKL1 _ _ (m2:=x2.toNat-(k+1)) ?_ ?_)
 refine ⟨(k+1),F4,A3,c3,l3,b3,Aw,cw,(xs++ [x4]),(rows++ [[iv x4.client,iv x4.stamp,iv x4.group,iv x4.epoch,iv x4.kind,iv x4.block, .slice A4_0 x4.data.length c4_0,iv x4.old,iv x4.new, .slice A4_1 x4.next.length c4_1]]),rfl,by omega, ?_,hRF.to.append (RF.one (rdTo qhrd4)),mv,hl3.to,StepP.snoc hstL hst4, ?_,rfl⟩
 rw [List.length_append,hxk];rfl
 rw [flat_snoc,List.length_append];exact (((hp.tail.up 1 rfl).up 1 rfl).as_ (H':=_::_::_) rfl)
 omega
 have hrowA:=hp.rowAt (i:=1) rfl
 obtain ⟨F8,hp8,hs8,hb8⟩:=((hp.up 1 rfl).as_ (H':=_::_::_) rfl).frzRow
 have hgs:=OwnRow.gsRF (r:=wishR) hrowA (hRF.wid hs8) hb8
 replace hp:=hp8
 refine so ?_
 refine Ce (wEnd_ok hp hlq.to) ?_
 rintro _ w7 ⟨e2,e3,rfl,hen,hp,hF7⟩
 replace hgs:=hgs.fz hF7.chg
 refine so ?_
 refine Cd ?_ ?_<;>intro hc4<;>refine so ?_
 refine P2 results143 ?_
 have hpE:=hp.tail
 exact ⟨_,rfl,_,none,0, [],_,rfl,hpE,mv,gsn, .inr ⟨by assumption,unb_no (show StepP blistP (some l) _ _ from (StepP.bind hst2 (rep_end hstL hk t0_wUnb_ok))) hen (by assumption),rfl⟩⟩
 refine P2 results143 ?_
 have hpE:=hp.tail
 exact ⟨_,rfl,_,_,_,xs,0,rfl,hpE,mv,hgs, .inl ⟨rfl,unb_some (show StepP blistP (some l) _ _ from (StepP.bind hst2 (rep_end hstL hk t0_wUnb_ok))) hen (by omega)⟩⟩
end Go.Proofs.YtmbpneaibmldfaaGreat
namespace Go.Proofs.YtmbpneaibmldfaaGreat
open Go.RowKit Go.Eng _root_.Go.Proofs.Tryz Go.Eng _root_.Go.Proofs.Tryz
set_option maxRecDepth 100000
variable {w0 w:World} {M0 Fz:Nat→Prop} {H:List It} {A:Option Addr} {c:Nat}
theorem rpl_small {r:Rpl} (h:rplOk r):(∀y∈r.nodes,i64 y)∧sizeR r≤1000000000000:=by
 unfold rplOk imgOk at h
 refine ⟨fun y hy=> ?_, ?_⟩
 ·have h1 := h.2.2.2.1.2 y hy
  unfold inodeOk isNum at h1
  unfold i64
  omega
 ·unfold sizeR
  have h1:=h.2.2.2.1.1
  have h2:=h.2.2.2.2.1
  have h3:=h.2.2.2.2.2.2.2
  omega
theorem smallE {w : World} : Ret prog 26 #[] w (fun v w' => ∃ cs, v = .agg (cs : List Value).toArray ∧ ReadsU w' cs small0 ∧ Ext w w') := (lSmall_ok (HP.begin_ w)).mono (by
 rintro v w' ⟨F,cs,rfl,hp,_,h⟩
 exact ⟨cs,rfl,rplR.mono (fun _ _ _=>trivial) h,hp.chg⟩)
theorem outE {w : World} {cs : List Value} {r : Rpl} (h : ReadsU w cs r) (hz : r.img.batches.length * 56 ≤ 140737488355328) : Ret prog 12 #[.agg cs.toArray] w (fun v w' => ∃ cs, v = .agg (cs : List Value).toArray ∧ ReadsU w' cs r ∧ Ext w w') := (lOut_ok (HP.begin_ w) (rplR.mono (fun b hb _ => hb) h) hz).mono (by
 rintro v w' ⟨F,cs,rfl,hp,_,h⟩
 exact ⟨cs,rfl,rplR.mono (fun _ _ _=>trivial) h,hp.chg⟩)
theorem may_size {r:Rpl} (h:RplMay r):sizeR r≤1000000000000:=by
 obtain ⟨_,_,_,_,⟨h4,_⟩,⟨_,_,_,⟨i4,_⟩,⟨i6,_⟩,⟨i8,_⟩,_,⟨i11,_⟩,_,i13,_⟩,_,_,h8⟩:=h
 unfold sizeR
 omega
end Go.Proofs.YtmbpneaibmldfaaGreat
