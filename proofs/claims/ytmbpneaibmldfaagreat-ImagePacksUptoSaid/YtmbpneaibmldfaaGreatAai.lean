/- What each of these functions computes, for every argument that its theorem names; a part of what the proof of ImageOnce stands on. -/
import Derived.Test.YtmbpneaibmldfaaGreatAac
import Derived.Test.YtmbpneaibmldfaaGreatAad
import Derived.Test.YtmbpneaibmldfaaGreatAaf
import Derived.Test.YtmbpneaibmldfaaGreatAag
namespace Go.Proofs.YtmbpneaibmldfaaGreat
open Go.RowKit Go.Eng Go.Eng _root_.Go.Proofs.Tryz
set_option maxRecDepth 100000
variable {w0 w:World} {M0 Fz:Nat→Prop} {H:List It} {A:Option Addr} {c:Nat}
theorem markR_el {S:Nat→Prop} {w:World} {A:Option Addr} {c:Nat} {l:List Mrk} (h:GS markR S w A c l) (i:Nat) (hi:i<l.length): ∃a,A=some a∧AtF S w (a.add (i*33)) ([.int .i64 (l.getD i mark0).seq]++(digC (l.getD i mark0).dig))∧MrkI (l.getD i mark0):=by
 obtain ⟨a,cs,h1,h2,hI,rfl⟩:=GS.el h i hi
 have e:(l.getD i mark0)=l[i]:=by rw [List.getD_eq_getElem?_getD,List.getElem?_eq_getElem hi];rfl
 rw [e]
 exact ⟨a,h1,h2,hI⟩
def changeR:Rep Chn where
 size:=6
 rd:=fun S w cs x=>ChnI x∧∃A0 c0 A1 c1 A2 c2,cs= [.int .i64 x.node, .int .i64 x.view, .int .i64 x.low, .slice A0 x.marks.length c0, .slice A1 x.p.length c1, .slice A2 x.q.length c2]∧GS markR S w A0 c0 x.marks∧GS standR S w A1 c1 x.p∧GS standR S w A2 c2 x.q
 len:=by rintro _ _ _ _ ⟨hI,A0,c0,A1,c1,A2,c2,rfl,k0,k1,k2⟩;rfl
 one:=by rintro _ _ _ _ ⟨hI,A0,c0,A1,c1,A2,c2,rfl,k0,k1,k2⟩;exact List.all_eq_true.1 rfl
 keep:=by rintro _ _ _ _ _ _ ch hm ⟨hI,A0,c0,A1,c1,A2,c2,rfl,k0,k1,k2⟩;exact ⟨hI,_,_,_,_,_,_,rfl,k0.keep ch hm,k1.keep ch hm,k2.keep ch hm⟩
 mono:=by rintro _ _ _ _ _ hs ⟨hI,A0,c0,A1,c1,A2,c2,rfl,k0,k1,k2⟩;exact ⟨hI,_,_,_,_,_,_,rfl,k0.mono hs,k1.mono hs,k2.mono hs⟩
theorem StnI.fit {x:Stn} (h:StnI x):FitK (some .i64::(List.replicate 32 (some .u8)++ [some .i64])) ([.int .i64 x.seq]++(digC x.dig++([.int .i64 x.view]))):=
 FitK.cons (fit_int h.1.1 h.1.2) ((digC_fit x.dig).append (FitK.cons (fit_int h.2.1 h.2.2) FitK.nil))
def RplI (x:Rpl):Prop:=i64 x.group∧i64 x.epoch∧i64 x.faults∧i64 x.img.view∧i64 x.img.low.seq∧i64 x.img.ran∧i64 x.change.node∧i64 x.change.view∧i64 x.change.low
end Go.Proofs.YtmbpneaibmldfaaGreat
namespace Go.Proofs.YtmbpneaibmldfaaGreat
open Go.RowKit Go.Eng _root_.Go.Proofs.Tryz Go.Eng _root_.Go.Proofs.Tryz
set_option maxRecDepth 100000
variable {w0 w:World} {M0 Fz:Nat→Prop} {H:List It} {A:Option Addr} {c:Nat}
def schB (l : List Int) : Nat → List Int
 |0=>l
 |j+1=>(schB l j).set (16+j) (sch2 (schB l j) (16+j))
theorem rndB_len {S s:List Int} (h:s.length=8) (t:Nat):(rndB S s t).length=8:=by
 induction t with
 |zero=>exact h
 |succ t ih=>rw [rndB,List.length_set,ih]
def padV (l:List UInt8):List UInt8:=(l++ [128])++List.replicate (padZ l.length) 0++tailB (bitsL l.length) 8
end Go.Proofs.YtmbpneaibmldfaaGreat
namespace Go.Proofs.YtmbpneaibmldfaaGreat
open Go.RowKit Go.Eng Go.Eng _root_.Go.Proofs.Tryz
set_option maxRecDepth 100000
variable {w0 w:World} {M0 Fz:Nat→Prop} {H:List It} {A:Option Addr} {c:Nat}
theorem rnum_ok {n:Int} (h1: -9223372036854775808≤n) (h2:n≤9223372036854775807):Ret prog 83 #[.int .i64 n] w (fun v w'=> ∃A c,v= .tuple #[.slice A (numS n).1.length c, .int .i64 (numS n).2]∧OwnB 5 w.heap.size w' A c (numS n).1∧Ext w w'):=by
 refine ret_of_wk func83 rfl ntmps83 leB_ ?_
 refine go ?_
 refine Ls_ rfl rfl (go ?_)
 refine Gs 7 (fun hg=> ?_) fun hg=> ?_
 refine go ?_
 refine wc_cond_t rfl (go ?_)
 refine P2 results83 ?_
 exact ⟨_,rfl,none,0,by rw [numS,if_pos (by omega)];rfl,by rw [numS,if_pos (by omega)];exact OwnRow.nil _ _ _ _ _,Chg.refl _ _⟩
 refine go ?_
 refine Gt_ rfl rfl (go ?_)
 refine Cd (fun hc=> ?_) fun hc=> ?_
 refine go ?_
 refine P2 results83 ?_
 exact ⟨_,rfl,none,0,by rw [numS,if_pos (by omega)];rfl,by rw [numS,if_pos (by omega)];exact OwnRow.nil _ _ _ _ _,Chg.refl _ _⟩
 obtain ⟨N,rfl⟩: ∃N:Nat,n=N:=⟨n.toNat,by omega⟩
 have hs:numS (N:Int)=(numL N,0):=by rw [numS,if_neg (by omega)];simp
 have hN:N≤9007199254740991:=by omega
 have h7:=digs_len N hN
 refine go ?_
 refine Cl_ cl135 rfl (digits_ok (N:=N) (w:=w) hN) ?_
 rintro _ w1 ⟨A1,c1,rfl,ho1,hE1⟩
 refine go ?_
 refine Ln_ underlying36 rfl ?_
 refine wl_conv (by decide) it3 it5 rfl (wrap_u8 _) ?_
 refine wl_bsliceB (xs:= [.tmp 15]) (bs:= [u8Of ((digs N).length:Int)]) (by decide) sl36 rfl rfl rfl (by simp) w1.heap.size (Nat.le_refl _) ?_
 rintro g2 w2 hg2 ho2 hE2
 refine go ?_
 refine wl_appendB (l:= [u8Of ((digs N).length:Int)]) (by decide) sl36 rfl rfl ho2 (ho1.ext hE2).bs (by simp;omega) hE2.size ?_
 rintro A3 c3 w3 ho3 ch3 _
 have hE3:=(hE1.trans hE2).own ch3 hE1.size
 replace ho3:=ho3.lower hE1.size
 refine go ?_
 refine P2 results83 ?_
 have hfin: [u8Of ((digs N).length:Int)]++digs N=numL N:=by rw [u8Of_nat];rfl
 rw [hfin] at ho3⊢
 exact ⟨_,rfl,A3,c3,by rw [hs],by rw [hs];exact ho3,hE3⟩
theorem takeStr_ok {b:List UInt8} {most:Int} {Sa:Nat→Prop} (h:BS Sa w A c b):Ret prog 107 #[.slice A b.length c, .int .i64 most] w (fun v w'=> ∃A1 c1 A2 c2,v= .tuple #[.slice A1 (takeStrS b most).1.length c1, .slice A2 (takeStrS b most).2.1.length c2, .int .i64 (takeStrS b most).2.2]∧OwnB 5 w.heap.size w' A1 c1 (takeStrS b most).1∧OwnB 5 w.heap.size w' A2 c2 (takeStrS b most).2.1∧Ext w w'):=by
 refine ret_of_wk func107 rfl ntmps107 leB_ ?_
 refine go ?_
 refine Ls_ rfl rfl (go ?_)
 refine Cd (fun h0=> ?_) fun h0=> ?_
 refine go ?_
 refine wk_post3 (.inl rfl) results107 rfl rfl rfl ?_
 have e:takeStrS b most=([], [],2):=by simp only [takeStrS];rw [if_pos (by omega)]
 exact ⟨_,rfl,none,0,none,0,by rw [e];try rfl,by rw [e];exact OwnRow.nil _ _ _ _ _,by rw [e];exact OwnRow.nil _ _ _ _ _,Chg.refl _ _⟩
 refine go ?_
 have htb:=takeS_lim b
 refine Cl_ cl98 rfl (takeNum_ok h) ?_
 rintro _ w1 ⟨A1,c1,rfl,ho1,hE1⟩
 refine go ?_
 refine Ne_ rfl rfl (go ?_)
 refine Cd (fun he=> ?_) fun he=> ?_
 refine go ?_
 refine wk_post3 (.inl rfl) results107 rfl rfl rfl ?_
 have e:takeStrS b most=([], [],(takeS b).2.2):=by simp only [takeStrS];rw [if_neg (by omega),if_pos he]
 exact ⟨_,rfl,none,0,none,0,by rw [e];try rfl,by rw [e];exact OwnRow.nil _ _ _ _ _,by rw [e];exact OwnRow.nil _ _ _ _ _,hE1⟩
 refine go ?_
 refine wl_min (by decide) rfl rfl ?_
 refine Gt_ rfl rfl (go ?_)
 refine Cd (fun hl=> ?_) fun hl=> ?_
 refine go ?_
 refine wk_post3 (.inl rfl) results107 rfl rfl rfl ?_
 have e:takeStrS b most=([], [],5):=by simp only [takeStrS];rw [if_neg (by omega),if_neg he,if_pos (by omega)]
 exact ⟨_,rfl,none,0,none,0,by rw [e];try rfl,by rw [e];exact OwnRow.nil _ _ _ _ _,by rw [e];exact OwnRow.nil _ _ _ _ _,hE1⟩
 refine go ?_
 refine Cl_ cl146 rfl (takeFix_ok ho1.bs (by omega) (by omega)) ?_
 rintro _ w2 ⟨A3,c3,A4,c4,rfl,ho3,ho4,hE2⟩
 refine go ?_
 refine wk_post3 (.inl rfl) results107 rfl rfl rfl ?_
 have e:takeStrS b most=fixS (takeS b).2.1 (takeS b).1:=by simp only [takeStrS];rw [if_neg (by omega),if_neg he,if_neg (by omega)]
 exact ⟨_,rfl,A3,c3,A4,c4,by rw [e],by rw [e];exact ho3.lower hE1.size,by rw [e];exact ho4.lower hE1.size,hE1.trans hE2⟩
set_option maxHeartbeats 40000000 in
theorem wsame1_ok {csw0:List Value} {w0:Wsh} {Sw0:Nat→Prop} (hw0:wishR.rd Sw0 w csw0 w0):Ret prog 155 #[.agg csw0.toArray] w (fun v w'=>v= .agg (P8C w0).toArray∧Ext w w'):=by
 obtain ⟨hIw0,Aw00,cw00,Aw01,cw01,rfl,hw00,hw01⟩:=hw0
 refine ret_of_wk func155 rfl ntmps155 leB_ ?_
 have hp:=HP.begin_ w
 refine so ?_
 refine Bx hp (h:=fun gs1 w1 hp hE1=> ?_)
 replace hp:=hp.ay (itB gs1 112 ([iv w0.client,iv w0.stamp,iv w0.group,iv w0.epoch,iv w0.kind,iv w0.block, .slice Aw00 w0.data.length cw00,iv w0.old,iv w0.new, .slice Aw01 w0.next.length cw01])::_)
 refine Alo hp (h:=fun gs2 w2 hp hE2=>so ?_)
 refine wl_builtS (ps:= [(0, .tmp 4),(1, .tmp 6),(2, .tmp 8),(3, .tmp 10),(4, .tmp 12),(5, .tmp 14),(6, .tmp 16),(7, .tmp 18)]) (by decide) bld210 rfl rfl ?_
 refine Hs 0 hp (h:=fun w3 hp hC3=>so ?_)
 refine wk_postR (rs:= [.cell 2 210]) (.inl rfl) results155 ⟨_,_,_,rfl,rfl,loadVar_agg ag210 (hp.blkAt (i:=0) rfl).at0 rfl,rfl⟩ ?_
 exact ⟨_,rfl,rfl,hp.chg⟩
theorem t0_own11_ok {p:Prop} (h:p:=by unfold WshI i64;(try simp only [wish0]);omega):p:=h
set_option maxHeartbeats 40000000 in
theorem own11_ok {S:Nat→Prop} {csw0:List Value} {w0:Wsh} (hw0:wishR.rd S w csw0 w0):Ret prog 161 #[.agg csw0.toArray] w (fun v w'=> ∃cs,v= .agg cs.toArray∧wishR.rd S w' cs (ownW w0)∧Ext w w'):=by
 obtain ⟨hIw0,Aw00,cw00,Aw01,cw01,rfl,hw00,hw01⟩:=hw0
 have hJw0:=hIw0
 unfold WshI i64 at hJw0
 refine ret_of_wk func161 rfl ntmps161 leB_ ?_
 have hp:=HP.beginS w S
 replace hw00:=hw00.nowS
 replace hw01:=hw01.nowS
 refine so ?_
 refine Bx hp (h:=fun gs1 w1 hp hE1=> ?_)
 refine Alo hp (h:=fun gs2 w2 hp hE2=>so ?_)
 refine wl_builtS (ps:= [(4, .tmp 5),(2, .tmp 7),(3, .tmp 9)]) (by decide) bld112 rfl rfl ?_
 refine Alo hp (h:=fun gs3 w3 hp hE3=> ?_)
 refine Hs 0 hp (h:=fun w4 hp hC4=>so ?_)
 refine Cd ?_ ?_<;>intro hc1<;>refine so ?_
 refine H1 0 hp (h:=fun w5 hp hC5=>so ?_)
 refine Hs 1 hp (h:=fun w6 hp hC6=>so ?_)
 refine wk_postR (rs:= [.cell 2 112]) (.inl rfl) results161 ⟨_,_,_,rfl,rfl,loadVar_agg ag112 (hp.blkAt (i:=1) rfl).at0 rfl,rfl⟩ ?_
 refine ⟨_,rfl,_,rfl, ?_,hp.chg⟩
 have e9:ownW w0=({({wish0 with group:=w0.group,epoch:=w0.epoch,kind:=w0.kind}:Wsh) with next:=w0.next}:Wsh):=by first|(exfalso;omega)|(unfold ownW;first|rw [if_pos (by assumption)]|(rw [if_neg (by assumption),Wsh_eq];simp [*,wish0]))
 rw [e9]
 exact ⟨t0_own11_ok,_,_,_,_,rfl,gsn,(hw01.to.wid (fun _=>And.left))⟩
 refine H1 0 hp (h:=fun w7 hp hC7=>so ?_)
 refine H1 0 hp (h:=fun w8 hp hC8=>so ?_)
 refine H1 0 hp (h:=fun w9 hp hC9=>so ?_)
 refine Cd ?_ ?_<;>intro hc2<;>refine so ?_
 refine H1 0 hp (h:=fun w10 hp hC10=>so ?_)
 refine Cd ?_ ?_<;>intro hc3<;>refine so ?_
 exact absurd hc3 (by omega)
 refine Hs 1 hp (h:=fun w11 hp hC11=>so ?_)
 refine wk_postR (rs:= [.cell 2 112]) (.inl rfl) results161 ⟨_,_,_,rfl,rfl,loadVar_agg ag112 (hp.blkAt (i:=1) rfl).at0 rfl,rfl⟩ ?_
 refine ⟨_,rfl,_,rfl, ?_,hp.chg⟩
 have e9:ownW w0=({({wish0 with group:=w0.group,epoch:=w0.epoch,kind:=w0.kind}:Wsh) with client:=w0.client,stamp:=w0.stamp,block:=w0.block,data:=w0.data}:Wsh):=by first|(exfalso;omega)|(unfold ownW;first|rw [if_pos (by assumption)]|(rw [if_neg (by assumption),Wsh_eq];simp [*,wish0]))
 rw [e9]
 exact ⟨t0_own11_ok,_,_,_,_,rfl,(hw00.to.wid (fun _=>And.left)),gsn⟩
 refine Cd ?_ ?_<;>intro hc4<;>refine so ?_
 refine H1 0 hp (h:=fun w12 hp hC12=>so ?_)
 refine H1 0 hp (h:=fun w13 hp hC13=>so ?_)
 refine Hs 1 hp (h:=fun w14 hp hC14=>so ?_)
 refine wk_postR (rs:= [.cell 2 112]) (.inl rfl) results161 ⟨_,_,_,rfl,rfl,loadVar_agg ag112 (hp.blkAt (i:=1) rfl).at0 rfl,rfl⟩ ?_
 refine ⟨_,rfl,_,rfl, ?_,hp.chg⟩
 have e9:ownW w0=({w0 with group:=({wish0 with group:=w0.group,epoch:=w0.epoch,kind:=w0.kind}:Wsh).group,epoch:=({wish0 with group:=w0.group,epoch:=w0.epoch,kind:=w0.kind}:Wsh).epoch,kind:=({wish0 with group:=w0.group,epoch:=w0.epoch,kind:=w0.kind}:Wsh).kind,data:=({wish0 with group:=w0.group,epoch:=w0.epoch,kind:=w0.kind}:Wsh).data,next:=({wish0 with group:=w0.group,epoch:=w0.epoch,kind:=w0.kind}:Wsh).next}:Wsh):=by first|(exfalso;omega)|(unfold ownW;first|rw [if_pos (by assumption)]|(rw [if_neg (by assumption),Wsh_eq];simp [*,wish0]))
 rw [e9]
 exact ⟨t0_own11_ok,_,_,_,_,rfl,gsn,gsn⟩
 refine Hs 1 hp (h:=fun w15 hp hC15=>so ?_)
 refine wk_postR (rs:= [.cell 2 112]) (.inl rfl) results161 ⟨_,_,_,rfl,rfl,loadVar_agg ag112 (hp.blkAt (i:=1) rfl).at0 rfl,rfl⟩ ?_
 refine ⟨_,rfl,_,rfl, ?_,hp.chg⟩
 have e9:ownW w0=({({wish0 with group:=w0.group,epoch:=w0.epoch,kind:=w0.kind}:Wsh) with client:=w0.client,stamp:=w0.stamp,block:=w0.block}:Wsh):=by first|(exfalso;omega)|(unfold ownW;first|rw [if_pos (by assumption)]|(rw [if_neg (by assumption),Wsh_eq];simp [*,wish0]))
 rw [e9]
 exact ⟨t0_own11_ok,_,_,_,_,rfl,gsn,gsn⟩
set_option maxHeartbeats 4000000 in
theorem fits1_ok {n:Int} {w:World}:Ret Tryz.prog 203 #[.int .i64 n] w (fun v w'=>v= .bool (decide (¬(1≤n∧n≤28)))∧w'=w):=by
 refine ret_of_wk Tryz.func203 rfl Tryz.ntmps203 (Nat.le_of_ble_eq_true rfl) ?_
 refine wc_seq ?_
 refine wc_region ?_
 refine wl_assign (by decide) rfl ?_
 refine wl_nil ?_
 refine wk_norm ?_
 refine wc_seq ?_
 refine wc_region ?_
 refine wl_move (by decide) rfl ?_
 refine wl_call (by decide) Tryz.cl126 rfl (n_isNode) ?_
 rintro _ _ ⟨rfl,rfl⟩
 first|refine wl_notd (by decide) rfl ?_|refine wl_not (by decide) rfl ?_
 refine wl_assign (by decide) rfl ?_
 refine wl_nil ?_
 refine wk_norm ?_
 refine wc_ret ?_
 refine wk_post1 (.inl rfl) Tryz.results203 rfl ?_
 exact ⟨_,rfl,rfl,rfl⟩
theorem SeenF.val {f:Value→Option Value} {l:List Stn} (h:SeenF f l) (s:Int) (g:Dig):(f (keyM s g)).getD (.int .i64 0)= .int .i64 (cntM l s g:Nat):=by
 rw [h s g];by_cases e:cntM l s g=0<;>simp [e]
theorem SeenF.nil:SeenF (fun _=>none) []:=fun s g=>by simp [cntM]
theorem rise_last {l : List Int} (h : RiseI l) : ∀ d i, i + d < l.length → l.getD i 0 ≤ l.getD (i + d) 0
 |0,i,_=>Int.le_refl _
 | d + 1, i, hi => by
  have h1:=rise_last h d i (by omega)
  have h2:=h (i+(d+1)) hi (by omega)
  rw [show i+(d+1)-1=i+d by omega] at h2
  omega
theorem nodes_rise {n:Nte}:RiseI (mnode n n.changes.length)↔∀i,i<n.changes.length→0<i→(n.changes.getD (i-1) change0).node<(n.changes.getD i change0).node:=by
 have hl:=mnode_len (n:=n) (Nat.le_refl _)
 constructor
 ·intro h i hi h0
  have:=h i (by omega) h0
  rw [mnode_get (by omega),mnode_get (by omega)] at this
  exact this
 ·intro h i hi h0
  rw [hl] at hi
  rw [mnode_get (by omega),mnode_get (by omega)]
  exact h i hi h0
set_option maxHeartbeats 40000000 in
theorem gNum_ok {gw:Nat} {out:List UInt8} {pa:Addr} {n:Int} (hp:HP w0 M0 Fz w (itB gw 132 [.slice A out.length c]::itR 5 1 A out.length c (out.map bv)::H)) (hat:AtF Fz w pa [.int .i64 n]) (hn:isNum n) (hlen:out.length+(numE n).length≤1000000):Ret prog 245 #[.pointer (some ⟨gw,0,none⟩), .pointer (some pa)] w (WrP 5 132 gw w0 M0 Fz w H (out++numE n)):=by
 have hFr:=Frz.start Fz w
 have hns:numS n=(numE n,0):=by unfold isNum at hn;rw [numS,if_neg (by omega)];rfl
 have hn64: -9223372036854775808≤n∧n≤9223372036854775807:=by unfold isNum at hn;omega
 refine ret_of_wk func245 rfl ntmps245 leB_ ?_
 refine go ?_
 refine Ld_ sc3 rfl hat.head ?_
 have hcl:=num_ok (n:=n) (w:=w) hn64.1 hn64.2
 refine Cl_ cl72 rfl hcl ?_
 clear hcl
 rintro _ w1 ⟨A1,c1,rfl,ho1,hE1⟩
 rw [hns] at ho1⊢
 replace hFr:=hFr.ext hE1
 replace hp:=hp.ext hE1
 refine go ?_
 refine Fd_ 0 fld132_0 rfl rfl ?_
 refine Hl_ 0 sc36 rfl hp rfl rfl (go ?_)
 refine wl_happendB (i:=1) (l2:=numE n) (by decide) sl36 rfl rfl hp rfl ho1.bs (by omega) ?_
 rintro A1 c1 w1 hp1 hC1
 replace hFr:=hFr.fz hC1
 replace hp:=(hp1.ay (_::itR 5 1 A1 (out++numE n).length c1 ((out++numE n).map bv)::_))
 refine go ?_
 refine Fd_ 0 fld132_0 rfl rfl ?_
 refine wl_hstore1 (i:=0) rfl rfl hp rfl sz36 (Nat.succ_pos _) rfl ?_
 rintro w2 hp2 hC2
 replace hFr:=hFr.fz hC2
 replace hp:=(hp2.ay (itB gw 132 [.slice A1 (out++numE n).length c1]::itR 5 1 A1 (out++numE n).length c1 ((out++numE n).map bv)::_))
 replace hp:=hp.ay (itB gw 132 ([.slice A1 (out++numE n).length c1])::_)
 refine go ?_
 refine wk_post0 (.inr rfl) results245 ?_
 exact ⟨_,rfl,_,_,hp,hFr⟩
set_option maxHeartbeats 40000000 in
theorem nDigest_ok {gr:Nat} {l:List UInt8} {bad:Bool} {X:List Value→It} {pX:Addr} {d0:Dig} (hp:HP w0 M0 Fz w (itB gr 223 [.slice A l.length c, .bool bad]::X (digC d0)::H)) (hS:Slot X pX 32) (hl:GS byteR Fz w A c l):Ret prog 248 #[.pointer (some ⟨gr,0,none⟩), .pointer (some pX)] w (RdP 223 gr w0 M0 Fz w H X digR digP bad l):=by
 refine ret_of_wk func248 rfl ntmps248 leB_ ?_
 refine so ?_
 refine Ce (takeFix_ok (n:=32) hl (by omega) (by omega)) ?_
 rintro _ w1 ⟨A1,c1,B1,d1,rfl,ho1,hq1,hE1⟩
 replace ho1:=ho1.bs
 replace hq1:=hq1.bs
 have hsz2:=hp.chg.size
 obtain ⟨Fz2,hp2,hsub2,hnew2,hup2⟩:=hp.frz hE1
 replace hp:=hp2
 replace ho1:=ho1.frz hnew2
 replace hq1:=hq1.frz hnew2
 refine so ?_
 refine Ce (nTook_ok (e:=(fixS l 32).2.2) hp hl.to hq1) ?_
 rintro _ w3 ⟨b3,A3,c3,l3,rfl,hb3,hn3,hp,hF3,hl3⟩
 replace ho1:=ho1.fz hF3.chg
 refine so ?_
 refine Cd ?_ ?_<;>intro ht
 have hb0 : b3 = false := by cases b3 with
   |false=>rfl
   |true=>cases ht
 have he0:(fixS l 32).2.2=0:=by
   have h9:=hb3
   rw [hb0] at h9
   exact Decidable.not_not.1 (of_decide_eq_false (Bool.or_eq_false_iff.1 h9.symm).2)
 have h32:=fix32 he0
 obtain ⟨hcA,hcN⟩:=GS.cells1 (he:=fun _=>rfl) ho1
 refine so ?_
 refine wl_arrAt (by decide) ar26 rfl (by omega) ?_
 obtain ⟨a9,rfl⟩: ∃a,A1=some a:=by
   cases A1 with
   |none=>have:=hcN rfl;rw [this] at h32;cases h32
   |some a=>exact ⟨a,rfl⟩
 have hat9:=hcA a9 rfl
 rw [show (fixS l 32).1.map (fun b=>bv b)=digC ⟨(fixS l 32).1,h32⟩ from (digC_map ⟨(fixS l 32).1,h32⟩).symm] at hat9
 refine wl_loadA (by decide) ag26 rfl hat9 rfl ?_
 refine so ?_
 refine wl_sstore (o:=0) (i:=1) hS (by rw [add_zero'];rfl) rfl hp rfl rfl sz26 (Nat.ne_of_gt (Nat.lt_of_lt_of_le Nat.zero_lt_one leB_)) leB_ (List.all_eq_true.1 rfl) ?_
 rintro w4 hp hC4
 refine so ?_
 refine wk_post0 (.inr rfl) results248 ?_
 exact ⟨_,rfl,_,A3,c3,l3,b3,_,⟨(fixS l 32).1,h32⟩,hp,mv,hl3.to,rfl,step_dig hb3 (fun h=>⟨hn3 h,rfl⟩)⟩
 refine so ?_
 refine wk_post0 (.inr rfl) results248 ?_
 exact ⟨_,rfl,_,A3,c3,l3,b3,_,d0,hp,mv,hl3,rfl,step_dig hb3 (fun h=>absurd ht (by simp [h]))⟩
theorem flat_roomD {α:Type} (E:α→List UInt8) (l:List α) (k:Nat) (z:α) (hk:k<l.length):(flatE E (l.take k)).length+(E (l.getD k z)).length≤(flatE E l).length:=by
 have h1:=flat_take_le E l (k+1)
 rw [flat_takeD E l k z hk,List.length_append] at h1
 exact h1
theorem wish_body (x:Wsh):wishE x=bodyW x++flatE numE x.next:=by simp [wishE,bodyW,headE,listE]
set_option maxHeartbeats 40000000 in
theorem r08Same_ok {csa:List Value} {a:Crw} {Sa:Nat→Prop} {csb:List Value} {b:Crw} {Sb:Nat→Prop} (ha:crewR.rd Sa w csa a) (hb:crewR.rd Sb w csb b):Ret prog 59 #[.agg csa.toArray, .agg csb.toArray] w (fun v w'=>v= .bool (decide (a=b))∧Ext w w'):=by
 obtain ⟨hIa,Aa0,ca0,rfl,ha0⟩:=ha
 obtain ⟨hIb,Ab0,cb0,rfl,hb0⟩:=hb
 have mha0:=ha0.mx
 have mhb0:=hb0.mx
 refine ret_of_wk func59 rfl ntmps59 leB_ ?_
 have hp:=HP.begin_ w
 replace ha0:=ha0.now
 replace hb0:=hb0.now
 refine go ?_
 refine wl_hbox (by decide) rfl hp ?_
 rintro gs2 w1 hp1 hE1
 have q0:=hE1
 replace hp:=hp1
 replace hp:=hp.ay (itB gs2 24 ([iv a.faults, .slice Aa0 a.nodes.length ca0])::_)
 refine wl_hbox (by decide) rfl hp ?_
 rintro gs3 w2 hp2 hE2
 replace q0:=q0.trans hE2
 replace hp:=hp2
 replace hp:=hp.ay (itB gs3 24 ([iv b.faults, .slice Ab0 b.nodes.length cb0])::_)
 refine go ?_
 refine Fd_ 0 fld24_0 rfl rfl ?_
 refine Hl_ 1 sc3 rfl hp rfl rfl ?_
 refine Fd_ 0 fld24_0 rfl rfl ?_
 refine Hl_ 0 sc3 rfl hp rfl rfl ?_
 refine Eq_ rfl rfl (go ?_)
 refine Gs 10 (fun hg1=> ?_) fun hg1=> ?_
 refine go ?_
 refine Fd_ 1 fld24_1 rfl rfl (go ?_)
 refine Hl_ 1 sc22 rfl hp rfl rfl (go ?_)
 refine Fd_ 1 fld24_1 rfl rfl (go ?_)
 refine Hl_ 0 sc22 rfl hp rfl rfl (go ?_)
 have hcl:=eqInts_ok (ha0.ext q0) (hb0.ext q0)
 refine Cl_ cl115 rfl hcl ?_
 clear hcl
 rintro _ w3 ⟨rfl,hE3⟩
 replace hp:=hp.ext hE3
 refine go ?_
 refine P1 results59 ?_
 exact ⟨_,rfl,congrArg Value.bool (decide_eq_decide.2 (by rw [Crw_eq];simp_all)),hp.chg⟩
 refine go ?_
 refine P1 results59 ?_
 exact ⟨_,rfl,bool_f (by rw [Crw_eq];simp_all),hp.chg⟩
end Go.Proofs.YtmbpneaibmldfaaGreat
namespace Go.Proofs.YtmbpneaibmldfaaGreat
open Go.RowKit Go.Eng _root_.Go.Proofs.Tryz Go.Eng _root_.Go.Proofs.Tryz
set_option maxRecDepth 100000
variable {w0 w:World} {M0 Fz:Nat→Prop} {H:List It} {A:Option Addr} {c:Nat}
theorem crewCheck_ok {cs:List Value} {x:Crw} {S:Nat→Prop} {w:World} (hx:crewR.rd S w cs x):Ret prog 27 #[.agg cs.toArray] w (fun v w'=>v= .int .i64 (if crewMay x.faults x.nodes then 0 else 110)∧Ext w w'):=by
 obtain ⟨hI,B0,d0,rfl,h0⟩:=hx
 have mx:=h0.mx
 refine ret_of_wk func27 rfl ntmps27 leB_ ?_
 have hp:=HP.begin_ w
 refine so ?_
 refine Bx hp (h:=fun g w1 hp E1=>so ?_)
 refine Gs 9 ?_ ?_<;>intro h1<;>refine so ?_
 ·refine aT (so ?_)
  refine Pt ?_
  exact ⟨_,rfl,by rw [if_neg (fun h=>by have:=h.1;omega)],hp.chg⟩
 refine Gs 14 ?_ ?_<;>intro h2<;>refine so ?_
 ·refine aT (so ?_)
  refine Pt ?_
  exact ⟨_,rfl,by rw [if_neg (fun h=>by have:=h.2.1;omega)],hp.chg⟩
 refine wl_mul (by decide) rfl rfl (w64 (by omega) (by omega)) ?_
 refine so ?_
 refine Cd ?_ ?_<;>intro h3<;>refine so ?_
 ·refine Pt ?_
  exact ⟨_,rfl,by rw [if_neg (fun h=>by have:=h.2.2.1;omega)],hp.chg⟩
 refine Lp [3,25,26,27] (fun L' w' mes=> ∃(k:Nat),L'= [(3,iv (if k=0 then 0 else x.nodes.getD (k-1) 0)),(25, .slice B0 x.nodes.length d0),(26,iv (x.nodes.length:Int)),(27,iv (k:Int))]∧k≤x.nodes.length∧(∀i,i<k→1≤x.nodes.getD i 0∧x.nodes.getD i 0≤28∧(0<i→x.nodes.getD (i-1) 0<x.nodes.getD i 0))∧Ext w w'∧x.nodes.length-k=mes) (x.nodes.length-0) ⟨0,rfl,Nat.zero_le _,fun i h=>absurd h (Nat.not_lt_zero _),hp.chg,rfl⟩ ?_
 clear hp
 rintro _ wr _ ⟨k,rfl,hk,hr,hE,rfl⟩ KL hKL
 refine so ?_
 refine Cd ?_ ?_<;>intro hc
 ·have hk9 : k < x.nodes.length := by omega
  obtain ⟨ae,hA,hat⟩:=GS.el1 (h0.ext hE) k hk9
  have hgd:x.nodes.getD k 0=x.nodes[k]:=by rw [List.getD_eq_getElem?_getD,List.getElem?_eq_getElem hk9];rfl
  refine so ?_
  refine Gs 34 ?_ ?_<;>intro h4<;>refine so ?_
  ·refine aT (so ?_)
   refine Pt ?_
   refine ⟨_,rfl, ?_,hE⟩
   rw [if_neg (fun h=>by
    have:=h.2.2.2 k hk9
    by_cases e:k=0
    ·rw [if_pos e] at h4;omega
    ·rw [if_neg e] at h4;have:=this.2.2 (by omega);omega)]
  refine Cs (crewNode_ok) ?_
  refine so ?_
  refine Cd ?_ ?_<;>intro h5<;>refine so ?_
  ·refine Pt ?_
   refine ⟨_,rfl, ?_,hE⟩
   rw [if_neg (fun h=>by
    have:=h.2.2.2 k hk9
    rw [hgd] at this
    exact absurd (⟨this.1,this.2.1⟩:1≤x.nodes[k]∧x.nodes[k]≤28) (by simpa using h5))]
  refine Kl [3,25,26,27] hKL (x.nodes.length-(k+1)) ⟨k+1,by rw [if_neg (Nat.succ_ne_zero k),Nat.add_sub_cancel,hgd];rfl,hk9, ?_,hE,rfl⟩ (by omega)
  intro i hi
  by_cases e:i=k
  ·subst e
   have h6:1≤x.nodes[i]∧x.nodes[i]≤28:=by simpa using h5
   refine ⟨by omega,by omega,fun h=> ?_⟩
   rw [if_neg (by omega)] at h4
   omega
  ·exact hr i (by omega)
 obtain rfl:k=x.nodes.length:=by omega
 refine so ?_
 refine Pt ?_
 exact ⟨_,rfl,by rw [if_pos ⟨by omega,by omega,by omega,hr⟩],hE⟩
end Go.Proofs.YtmbpneaibmldfaaGreat
namespace Go.Proofs.YtmbpneaibmldfaaGreat
open Go.RowKit Go.Eng Go.Eng _root_.Go.Proofs.Tryz
set_option maxRecDepth 100000
variable {w0 w:World} {M0 Fz:Nat→Prop} {H:List It} {A:Option Addr} {c:Nat}
theorem step_witem {bad:Bool} {l l' s:List UInt8} {e eP:Int} {x:Wsh} (h:StepP (strP 256) (rst bad l) (rst (decide (e≠0)) l') s) (he: ¬e≠0) (hp:ParseR s x eP) (heP: ¬eP≠0):StepP witemP (rst bad l) (rst (decide (e≠0)) l') x:=by
 rw [show decide (e≠0)=false from decide_eq_false he] at h⊢
 rcases hp with ⟨_,hp⟩|⟨hp,_⟩
 ·cases bad with
  |true=>cases h
  | false =>
   have h1:strP 256 l=some (s,l'):=h
   show witemP l=some (x,l')
   unfold witemP boxP
   rw [h1]
   unfold parseS at hp
   cases hw:wishP s with
   |none=>rw [hw] at hp;cases hp
   | some v =>
    obtain ⟨y,u⟩:=v
    simp only [hw] at hp⊢
    by_cases hc:u= []∧WishMay y
    ·rw [if_pos hc] at hp⊢;cases hp;rfl
    ·rw [if_neg hc] at hp;cases hp
 ·exact absurd hp heP
end Go.Proofs.YtmbpneaibmldfaaGreat
namespace Go.Proofs.YtmbpneaibmldfaaGreat
open Go.RowKit Go.Eng _root_.Go.Proofs.Tryz Go.Eng _root_.Go.Proofs.Tryz
set_option maxRecDepth 100000
variable {w0 w:World} {M0 Fz:Nat→Prop} {H:List It} {A:Option Addr} {c:Nat}
theorem tNum_ok {w0 w:World} {M0 Fz:Nat→Prop} {H:List It} {A:Option Addr} {c:Nat} {gt:Nat} {l:List UInt8} {bad:Bool} {most:Int} (hp:HP w0 M0 Fz w (itB gt 94 [.slice A l.length c, .bool bad]::H)) (hl:GS byteR Fz w A c l):Ret prog 48 #[pt gt 0, .int .i64 most] w (TnP gt w0 M0 Fz w H most bad l):=by
 refine ret_of_wk func48 rfl ntmps48 leB_ ?_
 refine so ?_
 refine Ce (takeNum_ok hl) ?_
 rintro _ w2 ⟨B,d,rfl,ho,E2⟩
 obtain ⟨F2,hp,s2,n2,l2⟩:=hp.frz E2
 have hg:=ho.bs.frz n2
 refine so ?_
 refine Ce (took_ok hp) ?_
 rintro _ w3 ⟨h|h,F3⟩
 ·obtain ⟨hb, rfl, hp⟩ := h
  refine so ?_
  refine aT (so ?_)
  refine H1 0 hp (h:=fun w4 hp C4=>so ?_)
  refine Pt ?_
  refine ⟨_,rfl,F2,A,c,l,true,0,rfl,hp,mv,hl.to,⟨by decide,by decide, .inr rfl⟩, ?_⟩
  have h1:=step_many (most:=most) (step_num (bad:=bad) (bad':=true) (l:=l) (l':=l) (x:=0) (by rcases hb with hb|hb<;>simp [hb]) (fun h=>by cases h))
  exact h1
 ·obtain ⟨rfl, he, rfl, hp⟩ := h
  have h1:=step_num (bad:=false) (bad':=false) (l:=l) (l':=(takeS l).2.1) (x:=(takeS l).1) (by simp [he]) (fun _=>⟨rfl,rfl⟩)
  have h2:=step_many (most:=most) h1
  have hn:=takeS_num he
  refine so ?_
  refine Cd ?_ ?_<;>intro hgt<;>refine so ?_
  ·refine H1 0 hp (h := fun w4 hp C4 => so ?_)
   refine Pt ?_
   rw [decide_eq_true (show most<(takeS l).1 by omega)] at h2
   exact ⟨_,rfl,F2,B,d,_,true,0,rfl,hp,mv,hg.to,⟨by decide,by decide, .inr rfl⟩,h2⟩
  ·refine Pt ?_
   rw [decide_eq_false (show ¬most<(takeS l).1 by omega)] at h2
   exact ⟨_,rfl,F2,B,d,_,false,_,rfl,hp,mv,hg.to,⟨hn.1,hn.2, .inl (by omega)⟩,h2⟩
def rp0C:List Value:=rpC 0 0 0 s0 im0C (.bool false) ch0C s0
theorem stands5 (D:Dig) {many:Nat} (h:1≤many):StandsMay (sta5 D) 4 3 many:=by
 intro i hi
 have h2:i=0∨i=1:=by simp [sta5] at hi;omega
 rcases h2 with rfl|rfl
 ·simp [StandAt,sta5,cntQ];omega
 ·simp [StandAt,sta5,cntQ,OrdLt];omega
theorem el11:((rplE small0).take 11).length=11:=by rw [small_b.2];rfl
end Go.Proofs.YtmbpneaibmldfaaGreat
